/- Lemmas on the way to the statement; no condition of its own. -/
import Derived.Deep.Slices
import Derived.ChangeSlices
import Derived.Test.YtcmgimicdcchlaaGreatDoorQE1
import Derived.Test.YtcmgimicdcchlaaGreatDoorQE2
import Derived.Test.YtcmgimicdcchlaaGreatDoorQTr
set_option linter.unusedVariables false
set_option linter.unusedSimpArgs false
namespace Go.E
open Go Go.Trm
abbrev TV (t : T) (da : Option Addr) (dc : Nat) (la : Option Addr) (lc : Nat) : Array Value := #[.int .i64 t.kind, .slice da t.data.length dc, str t.name, .int .i64 t.num, .slice la t.subs.length lc]
inductive Tm (M : PH) : Array Value → T → Prop
  | mk (t : T) (da : Option Addr) (dc : Nat) (la : Option Addr) (lc b off : Nat) (cs : Nat → Array Value) (hd : Bs M (.slice da t.data.length dc) t.data) (h1 : t.subs.length ≤ lc) (h2 : lc ≤ 9223372036854775807) (h3 : la = none → lc = 0)
      (h4 : 0 < t.subs.length → la = some ⟨b, off, none⟩) (h5 : ∀ j i u, j < t.subs.length → (cs j).toList[i]? = some u → M.cell b (off + j * 5 + i) = some u) (h6 : ∀ j, j < t.subs.length → Tm M (cs j) (t.subs.getD j T0)) : Tm M (TV t da dc la lc) t
def Ts2 (N M : PH) (v : Value) (l : List T) : Prop :=
  ∃ (la : Option Addr) (lc b off : Nat) (cs : Nat → Array Value), v = .slice la l.length lc ∧ l.length ≤ lc ∧ lc ≤ 9223372036854775807 ∧ (la = none → lc = 0) ∧ (0 < l.length → la = some ⟨b, off, none⟩) ∧
    (∀ j i u, j < l.length → (cs j).toList[i]? = some u → M.cell b (off + j * 5 + i) = some u) ∧ ∀ j, j < l.length → Tm N (cs j) (l.getD j T0)
abbrev Ts (M : PH) (v : Value) (l : List T) : Prop := Ts2 M M v l
section
variable {P : Program} {n : Nat} {L : Env} {w0 w : World} {N N' M M' : PH} {O g : Owned} {o : Oper} {x y : Operand} {t t2 e : TypeId} {K : Env → World → Prop} {v u : Value} {l : List T} {r : T}
theorem Tm.open {cs : Array Value} (h : Tm M cs r) : ∃ da dc la lc, cs = TV r da dc la lc ∧ Bs M (.slice da r.data.length dc) r.data ∧ Ts M (.slice la r.subs.length lc) r.subs := by
  cases h with
  | mk _ da dc la lc b off cs hd h1 h2 h3 h4 h5 h6 => exact ⟨da, dc, la, lc, rfl, hd, la, lc, b, off, cs, rfl, h1, h2, h3, h4, h5, h6⟩
theorem Tm.of {da : Option Addr} {dc : Nat} {la : Option Addr} {lc : Nat} (hd : Bs M (.slice da r.data.length dc) r.data) (hl : Ts M (.slice la r.subs.length lc) r.subs) : Tm M (TV r da dc la lc) r := by
  obtain ⟨la', lc', b, off, cs, he, h1, h2, h3, h4, h5, h6⟩ := hl
  cases he
  exact .mk r da dc _ _ b off cs hd h1 h2 h3 h4 h5 h6
theorem Tm.mono {cs : Array Value} (hl : M.le M') (h : Tm M cs r) : Tm M' cs r := by
  induction h with
  | mk r da dc la lc b off cs hd h1 h2 h3 h4 h5 h6 ih => exact .mk r da dc la lc b off cs (hd.mono hl) h1 h2 h3 h4 (fun j i u hj hu => PH.cell_mono hl (h5 j i u hj hu)) ih
theorem Ts2.mono (hN : N.le N') (hl : M.le M') (h : Ts2 N M v l) : Ts2 N' M' v l := by
  obtain ⟨la, lc, b, off, cs, he, h1, h2, h3, h4, h5, h6⟩ := h
  exact ⟨la, lc, b, off, cs, he, h1, h2, h3, h4, fun j i u hj hu => PH.cell_mono hl (h5 j i u hj hu), fun j hj => (h6 j hj).mono hN⟩
theorem Ts.mono (hl : M.le M') (h : Ts M v l) : Ts M' v l := Ts2.mono hl hl h
theorem Ts2.open (h : Ts2 N M v l) : ∃ la lc, v = .slice la l.length lc ∧ l.length ≤ lc ∧ lc ≤ 9223372036854775807 := by
  obtain ⟨la, lc, b, off, cs, he, h1, h2, h3, h4, h5, h6⟩ := h
  exact ⟨la, lc, he, h1, h2⟩
theorem Ts2.get {la : Option Addr} {m lc j : Nat} (h : Ts2 N M (.slice la m lc) l) (hj : j < l.length) : ∃ b off da dc sa sc, la = some ⟨b, off, none⟩ ∧ (∀ i u, (TV (l.getD j T0) da dc sa sc).toList[i]? = some u → M.cell b (off + j * 5 + i) = some u) ∧
    Bs N (.slice da (l.getD j T0).data.length dc) (l.getD j T0).data ∧ Ts N (.slice sa (l.getD j T0).subs.length sc) (l.getD j T0).subs := by
  obtain ⟨la', lc', b, off, cs, he, h1, h2, h3, h4, h5, h6⟩ := h
  cases he
  obtain ⟨da, dc, sa, sc, hcs, hd, hs⟩ := (h6 j hj).open
  exact ⟨b, off, da, dc, sa, sc, h4 (by omega), fun i u hu => h5 j i u hj (by rw [hcs]; exact hu), hd, hs⟩
theorem Ts2.len {la : Option Addr} {m lc : Nat} (h : Ts2 N M (.slice la m lc) l) : m = l.length ∧ m ≤ lc ∧ lc ≤ 9223372036854775807 := by
  obtain ⟨la', lc', he, h1, h2⟩ := h.open
  cases he
  exact ⟨rfl, h1, h2⟩
theorem Ts2.nil (N M : PH) : Ts2 N M (.slice none 0 0) [] := ⟨none, 0, 0, 0, fun _ => #[], rfl, Nat.le_refl _, by decide, fun _ => rfl, fun h => by simp at h, fun _ _ _ h => by simp at h, fun _ h => by simp at h⟩
theorem Ts2.drop {la : Option Addr} {m lc k : Nat} (h : Ts2 N M (.slice la m lc) l) (hk : k ≤ l.length) : Ts2 N M (.slice (if lc = k then la else la.map (·.add (k * 5))) (m - k) (lc - k)) (l.drop k) := by
  obtain ⟨la', lc', b, off, cs, he, h1, h2, h3, h4, h5, h6⟩ := h
  cases he
  refine ⟨_, lc - k, b, off + k * 5, fun j => cs (k + j), by rw [List.length_drop], by rw [List.length_drop]; omega, by omega, fun e => ?_, fun h0 => ?_, fun j i u hj hu => ?_, fun j hj => ?_⟩
  · split at e
    · omega
    · have : la = none := by cases la with
        | none => rfl
        | some a => simp at e
      have := h3 this; omega
  · rw [List.length_drop] at h0
    rw [if_neg (by omega), h4 (by omega)]
    simp [addr_add]
  · rw [List.length_drop] at hj
    have := h5 (k + j) i u (by omega) hu
    rw [show off + k * 5 + j * 5 + i = off + (k + j) * 5 + i by omega]
    exact this
  · rw [List.length_drop] at hj
    have := h6 (k + j) (by omega)
    simpa [List.getD] using this
theorem Ts2.take {la : Option Addr} {m lc k : Nat} (h : Ts2 N M (.slice la m lc) l) (hk : k ≤ l.length) : Ts2 N M (.slice la k lc) (l.take k) := by
  obtain ⟨la', lc', b, off, cs, he, h1, h2, h3, h4, h5, h6⟩ := h
  cases he
  have hl : (l.take k).length = k := by rw [List.length_take]; omega
  refine ⟨la, lc, b, off, cs, by rw [hl], by omega, h2, h3, fun h0 => h4 (by omega), fun j i u hj hu => h5 j i u (by omega) hu, fun j hj => ?_⟩
  have := h6 j (by omega)
  rw [hl] at hj
  simpa [List.getD, List.getElem?_take, hj] using this
def Tl (N : PH) (xs : List Value) (l : List T) : Prop := xs.length = l.length * 5 ∧ ∃ cs : Nat → Array Value, (∀ j i u, j < l.length → (cs j).toList[i]? = some u → xs[j * 5 + i]? = some u) ∧ ∀ j, j < l.length → Tm N (cs j) (l.getD j T0)
theorem Tl.mono {xs : List Value} (h : N.le N') (hv : Tl N xs l) : Tl N' xs l := by
  obtain ⟨h1, cs, h2, h3⟩ := hv
  exact ⟨h1, cs, h2, fun j hj => (h3 j hj).mono h⟩
theorem Tl.nil (N : PH) : Tl N [] [] := ⟨rfl, fun _ => #[], fun _ _ _ h => by simp at h, fun _ h => by simp at h⟩
theorem Tm.five {cs : Array Value} (h : Tm N cs r) : cs.toList.length = 5 := by
  obtain ⟨da, dc, la, lc, rfl, _⟩ := h.open
  rfl
theorem Tm.one {cs : Array Value} (h : Tm N cs r) : ∀ v ∈ cs.toList, v.oneCell' = true := by
  obtain ⟨da, dc, la, lc, rfl, _⟩ := h.open
  intro v hv
  simp at hv
  rcases hv with rfl | rfl | rfl | rfl | rfl <;> rfl
theorem Tl.snoc {xs : List Value} {cs : Array Value} (h : Tl N xs l) (ht : Tm N cs r) : Tl N (xs ++ cs.toList) (l ++ [r]) := by
  obtain ⟨h1, cf, h2, h3⟩ := h
  have h5 := ht.five
  refine ⟨by rw [List.length_append, List.length_append, h1, h5, List.length_singleton]; omega, fun j => if j < l.length then cf j else cs, fun j i u hj hu => ?_, fun j hj => ?_⟩
  · rw [List.length_append, List.length_singleton] at hj
    dsimp only at hu
    by_cases hj2 : j < l.length
    · rw [if_pos hj2] at hu
      have h7 := h2 j i u hj2 hu
      have : j * 5 + i < xs.length := (List.getElem?_eq_some_iff.1 h7).1
      rw [List.getElem?_append_left this]; exact h7
    · rw [if_neg hj2] at hu
      have hje : j = l.length := by omega
      rw [List.getElem?_append_right (by omega), show j * 5 + i - xs.length = i by omega]; exact hu
  · rw [List.length_append, List.length_singleton] at hj
    dsimp only
    by_cases hj2 : j < l.length
    · rw [if_pos hj2]
      have := h3 j hj2
      simpa [List.getD, List.getElem?_append_left hj2] using this
    · rw [if_neg hj2]
      have hje : j = l.length := by omega
      subst hje
      simpa [List.getD] using ht
def OwnT (N : PH) (n0 : Nat) (g : Owned) (v : Value) (l : List T) (e : TypeId) : Prop := ∃ xs, Own n0 g v l.length 5 xs e ∧ Tl N xs l
theorem OwnT.mono {n0 : Nat} (h : N.le N') (hv : OwnT N n0 g v l e) : OwnT N' n0 g v l e := by
  obtain ⟨xs, h1, h2⟩ := hv
  exact ⟨xs, h1, h2.mono h⟩
theorem OwnT.nil (N : PH) (n0 : Nat) (e : TypeId) : OwnT N n0 [] (.slice none 0 0) [] e := ⟨[], Own.nil n0 5 e, Tl.nil N⟩
theorem OwnT.nil0 (N : PH) {n0 b : Nat} (e : TypeId) (h : n0 ≤ b) : OwnT N n0 [(b, .cells #[] e (0, 0))] (.slice (some ⟨b, 0, none⟩) 0 0) [] e := ⟨[], ⟨rfl, .inr ⟨b, #[], 0, rfl, h, rfl, rfl, Nat.le_refl _, by decide, rfl⟩⟩, Tl.nil N⟩
theorem OwnT.open {n0 : Nat} (h : OwnT N n0 g v l e) : ∃ a c, v = .slice a l.length c := by
  obtain ⟨xs, h1, h2⟩ := h
  exact h1.len
theorem OwnT.give (h : OwnT N w0.heap.size g v l e) (hS : St w0 w M (g ++ O)) : ∃ M', St w0 w M' O ∧ Grow w0.heap.size M M' ∧ Ts2 N M' v l := by
  obtain ⟨xs, ho, hx, cs, hc, ht⟩ := h
  by_cases h0 : 0 < l.length
  · obtain ⟨b, bs, cap, hb, rfl, rfl, hl, hm, hcap, hcc⟩ := Own.open2 ho h0
    have hF := hS.freezeG (i := 0) rfl hb
    exact ⟨_, hF.1, hF.2, some ⟨b, 0, none⟩, cap, b, 0, cs, rfl, hm, hcap, (fun e => by cases e), fun _ => rfl, fun j i u hj hu => PH.cell_of (PH.add_self _ _ _) (by rw [Nat.zero_add]; exact hcc _ _ (hc j i u hj hu)), ht⟩
  · have hl0 : l = [] := List.eq_nil_of_length_eq_zero (by omega)
    subst hl0
    obtain ⟨h1, ⟨rfl, _, rfl⟩ | ⟨b, bs, cap, rfl, hb, rfl, hcs, hm, hcap, htk⟩⟩ := ho
    · exact ⟨M, hS, Grow.refl _ _, Ts2.nil _ _⟩
    · have hF := hS.freezeG (i := 0) rfl hb
      exact ⟨_, hF.1, hF.2, some ⟨b, 0, none⟩, cap, b, 0, cs, rfl, Nat.zero_le _, hcap, (fun e => by cases e), fun h => by simp at h, fun j i u hj => by simp at hj, ht⟩
theorem OwnT.lend (h : OwnT N w0.heap.size g v l e) (hS : St w0 w M (g ++ O)) : ∃ M', St w0 w M' O ∧ Grow w0.heap.size M M' ∧ Ts2 N M' v l ∧ ∀ w', St w0 w' M' O → St w0 w' M (g ++ O) := by
  obtain ⟨xs, ho, hx, cs, hc, ht⟩ := h
  have key : ∀ (b : Nat) (ob : Obj), w0.heap.size ≤ b → St w0 w M ((b, ob) :: O) → St w0 w (M.add b ob) O ∧ Grow w0.heap.size M (M.add b ob) ∧ ∀ w', St w0 w' (M.add b ob) O → St w0 w' M ((b, ob) :: O) := fun b ob hb hS => by
    have hF := hS.freezeG (i := 0) rfl hb
    exact ⟨hF.1, hF.2, fun w' h' => h'.take (PH.add_self _ _ _) hF.2.1 (hS.own (b, ob) List.mem_cons_self).2⟩
  by_cases h0 : 0 < l.length
  · obtain ⟨b, bs, cap, hb, rfl, rfl, hl, hm, hcap, hcc⟩ := Own.open2 ho h0
    obtain ⟨k1, k2, k3⟩ := key _ _ hb hS
    exact ⟨_, k1, k2, ⟨some ⟨b, 0, none⟩, cap, b, 0, cs, rfl, hm, hcap, (fun e => by cases e), fun _ => rfl, fun j i u hj hu => PH.cell_of (PH.add_self _ _ _) (by rw [Nat.zero_add]; exact hcc _ _ (hc j i u hj hu)), ht⟩, k3⟩
  · have hl0 : l = [] := List.eq_nil_of_length_eq_zero (by omega)
    subst hl0
    obtain ⟨h1, ⟨rfl, _, rfl⟩ | ⟨b, bs, cap, rfl, hb, rfl, hcs, hm, hcap, htk⟩⟩ := ho
    · exact ⟨M, hS, Grow.refl _ _, Ts2.nil _ _, fun _ h => h⟩
    · obtain ⟨k1, k2, k3⟩ := key _ _ hb hS
      exact ⟨_, k1, k2, ⟨some ⟨b, 0, none⟩, cap, b, 0, cs, rfl, Nat.zero_le _, hcap, (fun e => by cases e), fun h => by simp at h, fun j i u hj => by simp at hj, ht⟩, k3⟩
theorem Stp.appendT {c : Call} {z : Value} {byt b d cp : Nat} {cs : Array Value} {T' : TypeId} {fr : Nat × Nat} (ho : o.op = .call c) (hf : c.callee = .builtin .append) (ha : c.args.toList.map L.ev = [v, .slice (some ⟨b, 0, none⟩) 1 cp].map some)
    (hat : c.argTypes = #[t, t2]) (he : ET P t e z 5 byt) (hz : z.cells.size = 5) (hu : P.underlying t2 = some (.slice e)) (hb : M b = some (.cells cs T' fr)) (ht : Tm N cs r) (hS : St w0 w M (g ++ O)) (hw : OwnT N w0.heap.size g v l e)
    (h63 : l.length ≤ 100000) (hby : byt ≤ 100000) (hd : o.dst = some d) (hn : Nat.blt d n = true)
    (h : ∀ a' c' w' g', St w0 w' M (g' ++ O) → OwnT N w0.heap.size g' (.slice a' (l ++ [r]).length c') (l ++ [r]) e → K ((d, .slice a' (l ++ [r]).length c') :: L) w') : Stp P n o L w K := by
  obtain ⟨xs, h1, h2⟩ := hw
  have hby2 : (l.length + 1) * byt ≤ 140737488355328 := Nat.le_trans (Nat.mul_le_mul (show l.length + 1 ≤ 100001 by omega) hby) (by decide)
  refine Stp.append (m := 1) (k := l.length) (sz := 5) ho hf ha hat he (by decide) hz (Src.blk hu hS hb (by rw [ht.five]) ht.one) hS h1 (by omega) hby2 hd hn fun v' w' g' hS' hw' => ?_
  obtain ⟨a', c', rfl⟩ := hw'.len
  have e1 : l.length + 1 = (l ++ [r]).length := by simp
  rw [e1] at hw' ⊢
  exact h a' c' w' g' hS' ⟨_, hw', h2.snoc ht⟩
end
end Go.E
set_option linter.unusedVariables false
set_option linter.unusedSimpArgs false
namespace Go.E
open Go Go.Trm
def Kb (M : PH) (b : Nat) (o : Obj) : Prop := M b = some o
theorem Kb.mono {M M' : PH} {b : Nat} {o : Obj} (h : Kb M b o) (hl : M.le M') : Kb M' b o := hl _ _ h
theorem bT {p : Prop} {_ : Decidable p} (h : p) : some (Value.bool (decide p)) = some (.bool true) := by rw [decide_eq_true h]
theorem bF {p : Prop} {_ : Decidable p} (h : ¬ p) : some (Value.bool (decide p)) = some (.bool false) := by rw [decide_eq_false h]
theorem bI {p q : Prop} {_ : Decidable p} {_ : Decidable q} (h : p ↔ q) : some (Value.bool (decide p)) = some (.bool (decide q)) := by rw [decide_eq_decide.2 h]
theorem bFr {p : Prop} {_ : Decidable p} (h : ¬ p) : some (Value.bool false) = some (.bool (decide p)) := by rw [decide_eq_false h]
section
variable {P : Program} {n : Nat} {L : Env} {w0 w : World} {N N' M M' : PH} {O g g2 : Owned} {o : Oper} {x y : Operand} {t t2 e : TypeId} {K : Env → World → Prop} {v u : Value} {l : List T} {r : T}
theorem Res.notP {op : UnOp} {p : Prop} {_ : Decidable p} (ho : o.op = .unOp op t x) (hop : op = .not) (hx : L.ev x = some (.bool (decide p))) : Res P o L w (.bool (decide (¬ p))) := by
  have := Res.not (P := P) (w := w) ho hop hx
  rwa [show (!decide p) = decide (¬ p) by by_cases h : p <;> simp [h]] at this
theorem Res.idxT {la : Option Addr} {len cap b j k : Nat} {i : Int} {kk : IntKind} (sz : Nat) (ho : o.op = .indexAddr t x y) (hx : L.ev x = some (.slice la len cap)) (ea : la = some ⟨b, j, none⟩) (hy : L.ev y = some (.int kk i)) (ht : P.underlying t = some (.slice e)) (hs : SZ P e sz)
    (hk : i.toNat = k) (hi : 0 ≤ i ∧ i < len) : Res P o L w (.pointer (some ⟨b, j + k * sz, none⟩)) := by
  subst ea
  exact Res.idxS sz ho hx hy ht hs hk hi
theorem Res.idxT1 {la : Option Addr} {len cap b j k : Nat} {i : Int} {kk : IntKind} (ho : o.op = .indexAddr t x y) (hx : L.ev x = some (.slice la len cap)) (ea : la = some ⟨b, j, none⟩) (hy : L.ev y = some (.int kk i)) (ht : P.underlying t = some (.slice e)) (hs : SZ P e 1)
    (hk : i.toNat = k) (hi : 0 ≤ i ∧ i < len) : Res P o L w (.pointer (some ⟨b, j + k, none⟩)) := by
  have := Res.idxT (P := P) (w := w) 1 ho hx ea hy ht hs hk hi
  simpa using this
theorem Res.sliceLoN {a : Option Addr} {len cap l sz : Nat} {k : IntKind} (ho : o.op = .slice t x (some y) none none) (hx : L.ev x = some (.slice a len cap)) (hy : L.ev y = some (.int k (l : Int)))
    (ht : P.underlying t = some (.slice e)) (hs : SZ P e sz) (hh : l ≤ len) (hc : len ≤ cap) : Res P o L w (.slice (if cap = l then a else a.map (·.add (l * sz))) (len - l) (cap - l)) := fun n ac hac => by
  unfold execOp
  simp [ho, hac.ev hx, hac.ev hy, Instr.sliceAt, Instr.slice, run_underlying ht, Instr.sliceBounds, run_sizeOf hs, run_bound hh, Sem.run_bind]
theorem Res.maxN {c : Call} {a b : Nat} (ho : o.op = .call c) (hf : c.callee = .builtin .max) (ha : c.args.toList.map L.ev = [Value.int .i64 (a : Int), Value.int .i64 (b : Int)].map some) : Res P o L w (.int .i64 ((max a b : Nat) : Int)) :=
  Res.cast (Res.maxI ho hf ha) (congrArg (Value.int .i64) (by split <;> omega))
theorem cell_in {b j : Nat} {cs : Array Value} {T : TypeId} {fr : Nat × Nat} (h : w.heap[b]? = some (.cells cs T fr)) (hv : cs[j]? = some v) : w.cell? ⟨b, j, none⟩ = some v := (cell_of h).trans hv
theorem Own.dropS {m sz : Nat} {xs : List Value} (h : Own w0.heap.size g v m sz xs e) (hS : St w0 w M (g ++ O)) : St w0 w M O := by
  obtain ⟨h1, ⟨rfl, _, rfl⟩ | ⟨b, cs, cap, rfl, hb, rfl, _⟩⟩ := h
  · exact hS
  · exact hS.drop (i := 0) rfl hb
theorem OwnB.dropS {l : List UInt8} (h : OwnB w0.heap.size g v l e) (hS : St w0 w M (g ++ O)) : St w0 w M O := Own.dropS h hS
theorem OwnT.dropS (h : OwnT N w0.heap.size g v l e) (hS : St w0 w M (g ++ O)) : St w0 w M O := by
  obtain ⟨xs, h1, _⟩ := h
  exact h1.dropS hS
theorem St.mem {O' : Owned} (h : St w0 w M O) (hm : ∀ x, x ∈ O' ↔ x ∈ O) (hn : (O'.map Prod.fst).Nodup) : St w0 w M O' :=
  ⟨h.os, h.tape, h.output, h.size, fun k hk hne => h.blk k hk fun x hx => hne x ((hm x).2 hx), h.on, fun x hx => h.own x ((hm x).1 hx), hn⟩
theorem St.perm {O' : Owned} (h : St w0 w M O) (hp : List.Perm O O') : St w0 w M O' := h.mem (fun x => hp.symm.mem_iff) ((hp.map Prod.fst).nodup_iff.1 h.nd)
theorem St.mid {p : Nat × Obj} (h : St w0 w M (p :: (g ++ O))) : St w0 w M (g ++ (p :: O)) := h.perm List.perm_middle.symm
theorem St.pull {p : Nat × Obj} (h : St w0 w M (g ++ (p :: O))) : St w0 w M (p :: (g ++ O)) := h.perm List.perm_middle
theorem St.pull2 {p q : Nat × Obj} (h : St w0 w M (g ++ (q :: p :: O))) : St w0 w M (p :: (g ++ (q :: O))) := by
  have h1 : List.Perm (g ++ (q :: p :: O)) (g ++ (p :: q :: O)) := List.Perm.append_left g (List.Perm.swap p q O)
  exact (h.perm h1).pull
theorem St.rot (h : St w0 w M (g ++ (g2 ++ O))) : St w0 w M (g2 ++ (g ++ O)) := by
  refine h.perm ?_
  rw [← List.append_assoc, ← List.append_assoc]
  exact List.Perm.append_right O List.perm_append_comm
theorem St.four {b : Nat} {v0 : Value} {T' : TypeId} (hS : St w w M [(b, .cells #[v0] T' (0, 0))]) (o1 o2 o3 o4 : Obj) (u : Value) : St w (((((w.alloc o1).alloc o2).alloc o3).alloc o4).setCell ⟨b, 0, none⟩ u) M [(b, .cells #[u] T' (0, 0))] := by
  have h1 := (((hS.alloc o1).alloc o2).alloc o3).alloc o4
  have h2 := h1.put (i := 4) rfl (put_setCell (off := 0) u (h1.get (i := 4) rfl))
  exact (((h2.drop (i := 0) rfl (by simp only [alloc_size]; omega)).drop (i := 0) rfl (by simp only [alloc_size]; omega)).drop (i := 0) rfl (by simp only [alloc_size]; omega)).drop (i := 0) rfl (Nat.le_refl _)
theorem Ts2.lit1 {b : Nat} {cs : Array Value} {T' : TypeId} {fr : Nat × Nat} (h : Kb M b (.cells cs T' fr)) (ht : Tm M cs r) : Ts M (.slice (some ⟨b, 0, none⟩) 1 1) [r] :=
  ⟨_, _, b, 0, fun _ => cs, rfl, Nat.le_refl _, by decide, (fun e => by cases e), fun _ => rfl, fun j i u hj hu => by
    have : j = 0 := by simp at hj; omega
    subst this
    exact PH.cell_of h (by simpa using hu), fun j hj => by
    have : j = 0 := by simp at hj; omega
    subst this
    exact ht⟩
theorem Ts2.lit2 {b : Nat} {cs c1 c2 : Array Value} {r1 r2 : T} {T' : TypeId} {fr : Nat × Nat} (h : Kb M b (.cells cs T' fr)) (h1 : Tm M c1 r1) (h2 : Tm M c2 r2) (hc : cs.toList = c1.toList ++ c2.toList) : Ts M (.slice (some ⟨b, 0, none⟩) 2 2) [r1, r2] :=
  ⟨_, _, b, 0, fun j => if j = 0 then c1 else c2, rfl, Nat.le_refl _, by decide, (fun e => by cases e), fun _ => rfl, fun j i u hj hu => by
    have h5 := h1.five
    refine PH.cell_of h ?_
    rw [← Array.getElem?_toList, hc]
    rcases (by simp at hj; omega : j = 0 ∨ j = 1) with rfl | rfl
    · simp only [if_true] at hu
      rw [List.getElem?_append_left (by have := (List.getElem?_eq_some_iff.1 hu).1; omega), show 0 + 0 * 5 + i = i by omega]; exact hu
    · simp only [Nat.one_ne_zero, if_false] at hu
      rw [List.getElem?_append_right (by omega), show 0 + 1 * 5 + i - c1.toList.length = i by omega]; exact hu, fun j hj => by
    rcases (by simp at hj; omega : j = 0 ∨ j = 1) with rfl | rfl
    · exact h1
    · exact h2⟩
theorem Ts.drop {la : Option Addr} {m lc k : Nat} (h : Ts M (.slice la m lc) l) (hk : k ≤ l.length) : Ts M (.slice (if lc = k then la else la.map (·.add (k * 5))) (m - k) (lc - k)) (l.drop k) := Ts2.drop h hk
theorem Ts.take {la : Option Addr} {m lc k : Nat} (h : Ts M (.slice la m lc) l) (hk : k ≤ l.length) : Ts M (.slice la k lc) (l.take k) := Ts2.take h hk
theorem Ts.nil (M : PH) : Ts M (.slice none 0 0) [] := Ts2.nil M M
theorem Ts.len {la : Option Addr} {m lc : Nat} (h : Ts M (.slice la m lc) l) : m = l.length ∧ m ≤ lc ∧ lc ≤ 9223372036854775807 := Ts2.len h
theorem Ts2.toTs (h : Ts2 N M v l) (hN : N.le M') (hl : M.le M') : Ts M' v l := Ts2.mono hN hl h
def NextR (N : PH) (l : List T) (r : Value) : Prop := ∃ u da dc la lc b, r = .tuple #[.agg (TV u da dc la lc), .bool b] ∧ Bs N (.slice da u.data.length dc) u.data ∧ Ts N (.slice la u.subs.length lc) u.subs ∧ ((b = true ∧ nextT l = some u) ∨ (b = false ∧ nextT l = none))
theorem NextR.none (hn : nextT l = none) : NextR N l (.tuple #[.agg #[.int .i64 0, .slice none 0 0, str [], .int .i64 0, .slice none 0 0], .bool false]) := ⟨T0, Option.none, 0, Option.none, 0, false, rfl, Bs.nil N, Ts.nil N, .inr ⟨rfl, hn⟩⟩
end
end Go.E
set_option linter.unusedVariables false
set_option linter.unusedSimpArgs false
namespace Go.E
open Go Go.Trm
def Ls (M : PH) (v : Value) (l : List (List UInt8)) : Prop :=
  ∃ (la : Option Addr) (lc b off : Nat), v = .slice la l.length lc ∧ l.length ≤ lc ∧ lc ≤ 9223372036854775807 ∧ (la = none → lc = 0) ∧ (0 < l.length → la = some ⟨b, off, none⟩) ∧
    ∀ j, j < l.length → ∃ da dc, M.cell b (off + j) = some (.slice da (l.getD j []).length dc) ∧ Bs M (.slice da (l.getD j []).length dc) (l.getD j [])
section
variable {P : Program} {n : Nat} {L : Env} {w0 w : World} {N N' M M' : PH} {O g : Owned} {o : Oper} {x y : Operand} {t t2 e : TypeId} {K : Env → World → Prop} {v u : Value} {l : List (List UInt8)} {r : List UInt8}
theorem Ls.mono (h : Ls M v l) (hl : M.le M') : Ls M' v l := by
  obtain ⟨la, lc, b, off, he, h1, h2, h3, h4, h5⟩ := h
  exact ⟨la, lc, b, off, he, h1, h2, h3, h4, fun j hj => by
    obtain ⟨da, dc, k1, k2⟩ := h5 j hj
    exact ⟨da, dc, PH.cell_mono hl k1, k2.mono hl⟩⟩
theorem Ls.nil (M : PH) : Ls M (.slice none 0 0) [] := ⟨none, 0, 0, 0, rfl, Nat.le_refl _, by decide, fun _ => rfl, fun h => by simp at h, fun _ h => by simp at h⟩
theorem Ls.open (h : Ls M v l) : ∃ la lc, v = .slice la l.length lc ∧ l.length ≤ lc ∧ lc ≤ 9223372036854775807 := by
  obtain ⟨la, lc, b, off, he, h1, h2, h3, h4, h5⟩ := h
  exact ⟨la, lc, he, h1, h2⟩
theorem Ls.get {la : Option Addr} {m lc j : Nat} (h : Ls M (.slice la m lc) l) (hj : j < l.length) : ∃ b off da dc, la = some ⟨b, off, none⟩ ∧ M.cell b (off + j) = some (.slice da (l.getD j []).length dc) ∧ Bs M (.slice da (l.getD j []).length dc) (l.getD j []) := by
  obtain ⟨la', lc', b, off, he, h1, h2, h3, h4, h5⟩ := h
  cases he
  obtain ⟨da, dc, k1, k2⟩ := h5 j hj
  exact ⟨b, off, da, dc, h4 (by omega), k1, k2⟩
theorem Ls.len {la : Option Addr} {m lc : Nat} (h : Ls M (.slice la m lc) l) : m = l.length ∧ m ≤ lc ∧ lc ≤ 9223372036854775807 := by
  obtain ⟨la', lc', he, h1, h2⟩ := h.open
  cases he
  exact ⟨rfl, h1, h2⟩
def OwnL (N : PH) (n0 : Nat) (g : Owned) (v : Value) (l : List (List UInt8)) (e : TypeId) : Prop :=
  ∃ xs, Own n0 g v l.length 1 xs e ∧ ∀ j, j < l.length → ∃ da dc, xs[j]? = some (.slice da (l.getD j []).length dc) ∧ Bs N (.slice da (l.getD j []).length dc) (l.getD j [])
theorem OwnL.mono {n0 : Nat} (hv : OwnL N n0 g v l e) (h : N.le N') : OwnL N' n0 g v l e := by
  obtain ⟨xs, h1, h2⟩ := hv
  exact ⟨xs, h1, fun j hj => by
    obtain ⟨da, dc, k1, k2⟩ := h2 j hj
    exact ⟨da, dc, k1, k2.mono h⟩⟩
theorem OwnL.nil (N : PH) (n0 : Nat) (e : TypeId) : OwnL N n0 [] (.slice none 0 0) [] e := ⟨[], Own.nil n0 1 e, fun j h => by simp at h⟩
theorem OwnL.nil0 (N : PH) {n0 b : Nat} (e : TypeId) (h : n0 ≤ b) : OwnL N n0 [(b, .cells #[] e (0, 0))] (.slice (some ⟨b, 0, none⟩) 0 0) [] e := ⟨[], ⟨rfl, .inr ⟨b, #[], 0, rfl, h, rfl, rfl, Nat.le_refl _, by decide, rfl⟩⟩, fun j h => by simp at h⟩
theorem OwnL.open {n0 : Nat} (h : OwnL N n0 g v l e) : ∃ a c, v = .slice a l.length c := by
  obtain ⟨xs, h1, h2⟩ := h
  exact h1.len
theorem OwnL.give (h : OwnL M w0.heap.size g v l e) (hS : St w0 w M (g ++ O)) : ∃ M', St w0 w M' O ∧ Grow w0.heap.size M M' ∧ Ls M' v l := by
  obtain ⟨xs, ho, hx⟩ := h
  by_cases h0 : 0 < l.length
  · obtain ⟨b, bs, cap, hb, rfl, rfl, hl, hm, hcap, hcc⟩ := Own.open2 ho h0
    have hF := hS.freezeG (i := 0) rfl hb
    exact ⟨_, hF.1, hF.2, some ⟨b, 0, none⟩, cap, b, 0, rfl, hm, hcap, (fun e => by cases e), fun _ => rfl, fun j hj => by
      obtain ⟨da, dc, k1, k2⟩ := hx j hj
      exact ⟨da, dc, PH.cell_of (PH.add_self _ _ _) (by rw [Nat.zero_add]; exact hcc _ _ k1), k2.mono hF.2.1⟩⟩
  · have hl0 : l = [] := List.eq_nil_of_length_eq_zero (by omega)
    subst hl0
    obtain ⟨h1, ⟨rfl, _, rfl⟩ | ⟨b, bs, cap, rfl, hb, rfl, hcs, hm, hcap, htk⟩⟩ := ho
    · exact ⟨M, hS, Grow.refl _ _, Ls.nil _⟩
    · have hF := hS.freezeG (i := 0) rfl hb
      exact ⟨_, hF.1, hF.2, some ⟨b, 0, none⟩, cap, b, 0, rfl, Nat.zero_le _, hcap, (fun e => by cases e), fun h => by simp at h, fun j hj => by simp at hj⟩
theorem OwnL.dropS (h : OwnL N w0.heap.size g v l e) (hS : St w0 w M (g ++ O)) : St w0 w M O := by
  obtain ⟨xs, h1, _⟩ := h
  exact h1.dropS hS
theorem OwnL.snoc {n0 : Nat} {xs : List Value} {a : Option Addr} {c : Nat} (h : ∀ j, j < l.length → ∃ da dc, xs[j]? = some (.slice da (l.getD j []).length dc) ∧ Bs N (.slice da (l.getD j []).length dc) (l.getD j [])) (hl : xs.length = l.length) (hb : Bs N (.slice a r.length c) r) :
    ∀ j, j < (l ++ [r]).length → ∃ da dc, (xs ++ [Value.slice a r.length c])[j]? = some (.slice da ((l ++ [r]).getD j []).length dc) ∧ Bs N (.slice da ((l ++ [r]).getD j []).length dc) ((l ++ [r]).getD j []) := fun j hj => by
  rw [List.length_append, List.length_singleton] at hj
  by_cases e : j < l.length
  · obtain ⟨da, dc, k1, k2⟩ := h j e
    have e1 : (l ++ [r]).getD j [] = l.getD j [] := by simp [List.getD, List.getElem?_append_left e]
    rw [e1]
    exact ⟨da, dc, by rw [List.getElem?_append_left (by omega)]; exact k1, k2⟩
  · have : j = l.length := by omega
    subst this
    have e1 : (l ++ [r]).getD l.length [] = r := by simp [List.getD]
    rw [e1]
    exact ⟨a, c, by rw [List.getElem?_append_right (by omega), hl]; simp, hb⟩
theorem Stp.appendL {c : Call} {z : Value} {byt b d cp rc : Nat} {ra : Option Addr} {T' : TypeId} {fr : Nat × Nat} (ho : o.op = .call c) (hf : c.callee = .builtin .append) (ha : c.args.toList.map L.ev = [v, .slice (some ⟨b, 0, none⟩) 1 cp].map some)
    (hat : c.argTypes = #[t, t2]) (he : ET P t e z 1 byt) (hz : z.cells.size = 1) (hu : P.underlying t2 = some (.slice e)) (hb : M b = some (.cells #[.slice ra r.length rc] T' fr)) (ht : Bs N (.slice ra r.length rc) r) (hS : St w0 w M (g ++ O)) (hw : OwnL N w0.heap.size g v l e)
    (h63 : l.length ≤ 100000) (hby : byt ≤ 100000) (hd : o.dst = some d) (hn : Nat.blt d n = true)
    (h : ∀ a' c' w' g', St w0 w' M (g' ++ O) → OwnL N w0.heap.size g' (.slice a' (l ++ [r]).length c') (l ++ [r]) e → K ((d, .slice a' (l ++ [r]).length c') :: L) w') : Stp P n o L w K := by
  obtain ⟨xs, h1, h2⟩ := hw
  have hl : xs.length = l.length := by have := h1.1; omega
  have hby2 : (l.length + 1) * byt ≤ 140737488355328 := Nat.le_trans (Nat.mul_le_mul (show l.length + 1 ≤ 100001 by omega) hby) (by decide)
  refine Stp.append (m := 1) (k := l.length) (sz := 1) ho hf ha hat he (by decide) hz (Src.blk hu hS hb rfl (by intro v hv; simp at hv; subst hv; rfl)) hS h1 (by omega) hby2 hd hn fun v' w' g' hS' hw' => ?_
  obtain ⟨a', c', rfl⟩ := hw'.len
  have e1 : l.length + 1 = (l ++ [r]).length := by simp
  rw [e1] at hw' ⊢
  exact h a' c' w' g' hS' ⟨_, hw', OwnL.snoc (n0 := 0) h2 hl ht⟩
end
end Go.E
set_option linter.unusedVariables false
set_option linter.unusedSimpArgs false
namespace Go.E
open Go Go.Trm
section
variable {P : Program} {n : Nat} {L : Env} {w0 w : World} {N N' M M' : PH} {O g g2 : Owned} {o : Oper} {x y : Operand} {t t2 e : TypeId} {K : Env → World → Prop} {v u : Value}
theorem Stp.callOG (i : Nat) {c : Call} {f : FuncId} {args : List Value} {d b : Nat} {ob : Obj} {Φ : PH → Obj → Value → Prop} (ho : o.op = .call c) (hf : c.callee = .value (.func f)) (ha : c.args.toList.map L.ev = args.map some)
    (hcl : Callable P f) (hd : o.dst = some d) (hn : Nat.blt d n = true) (hS : St w0 w M O) (hi : nth O i = some (b, ob))
    (hc : OkO P f args.toArray w M b Φ) (h : ∀ v w' M' o', St w0 w' M' (upd O i o') → Grow w0.heap.size M M' → Φ M' o' v → K ((d, v) :: L) w') : Stp P n o L w K :=
  Stp.callO i ho hf ha hcl hd hn hS hi hc fun v w' M' o' h1 h2 h3 h4 h5 => h v w' M' o' h1 ⟨h2, fun j k1 k2 => Nat.le_trans hS.size (h3 j k1 k2)⟩ h5
theorem St.pullGG {p : Nat × Obj} (h : St w0 w M (g ++ (g2 ++ (p :: O)))) : St w0 w M (p :: (g ++ (g2 ++ O))) := by
  rw [← List.append_assoc] at h ⊢
  exact h.pull
theorem St.midGG {p : Nat × Obj} (h : St w0 w M (p :: (g ++ (g2 ++ O)))) : St w0 w M (g ++ (g2 ++ (p :: O))) := by
  rw [← List.append_assoc] at h ⊢
  exact h.mid
end
end Go.E
set_option linter.unusedVariables false
set_option linter.unusedSimpArgs false
namespace Go.E
open Go Go.Trm
def flat (cs : Nat → Array Value) : Nat → List Value
  | 0 => []
  | n + 1 => flat cs n ++ (cs n).toList
theorem flat_len {cs : Nat → Array Value} : ∀ {n : Nat}, (∀ j, j < n → (cs j).toList.length = 5) → (flat cs n).length = n * 5
  | 0, _ => rfl
  | n + 1, h => by rw [flat, List.length_append, flat_len (fun j hj => h j (by omega)), h n (by omega)]; omega
theorem flat_get {cs : Nat → Array Value} : ∀ {n : Nat}, (∀ j, j < n → (cs j).toList.length = 5) → ∀ j i u, j < n → (cs j).toList[i]? = some u → (flat cs n)[j * 5 + i]? = some u
  | 0, _, j, i, u, hj, _ => by omega
  | n + 1, h, j, i, u, hj, hu => by
    have hl := flat_len (cs := cs) (n := n) (fun j hj => h j (by omega))
    rw [flat]
    by_cases e : j < n
    · have := flat_get (fun j hj => h j (by omega)) j i u e hu
      rw [List.getElem?_append_left (List.getElem?_eq_some_iff.1 this).1]; exact this
    · have : j = n := by omega
      subst this
      rw [List.getElem?_append_right (by omega), show j * 5 + i - (flat cs j).length = i by omega]; exact hu
theorem flat_inv {cs : Nat → Array Value} : ∀ {n : Nat}, (∀ j, j < n → (cs j).toList.length = 5) → ∀ q u, (flat cs n)[q]? = some u → ∃ j i, j < n ∧ q = j * 5 + i ∧ (cs j).toList[i]? = some u
  | 0, _, q, u, h => by simp [flat] at h
  | n + 1, h, q, u, hq => by
    have hl := flat_len (cs := cs) (n := n) (fun j hj => h j (by omega))
    rw [flat] at hq
    by_cases e : q < (flat cs n).length
    · rw [List.getElem?_append_left e] at hq
      obtain ⟨j, i, h1, h2, h3⟩ := flat_inv (fun j hj => h j (by omega)) q u hq
      exact ⟨j, i, by omega, h2, h3⟩
    · rw [List.getElem?_append_right (by omega)] at hq
      exact ⟨n, q - (flat cs n).length, by omega, by omega, hq⟩
section
variable {P : Program} {n : Nat} {L : Env} {w0 w : World} {N N' M M' : PH} {O g g2 : Owned} {o : Oper} {x y : Operand} {t t2 e : TypeId} {K : Env → World → Prop} {v u : Value} {l l2 : List T} {r : T}
theorem Ts.src (h : Ts M u l2) (hS : St w0 w M O) (hu : P.underlying t2 = some (.slice e)) : ∃ xs, Tl M xs l2 ∧ Src P w t2 u l2.length 5 xs := by
  obtain ⟨la, lc, b, off, cs, rfl, h1, h2, h3, h4, h5, h6⟩ := h
  have hc5 : ∀ j, j < l2.length → (cs j).toList.length = 5 := fun j hj => (h6 j hj).five
  refine ⟨flat cs l2.length, ⟨flat_len hc5, cs, fun j i u hj hu => flat_get hc5 j i u hj hu, h6⟩, ?_⟩
  by_cases h0 : 0 < l2.length
  · rw [h4 h0]
    refine Src.slice hu (flat_len hc5) (fun q v hq => ?_) fun v hv => ?_
    · obtain ⟨j, i, k1, rfl, k3⟩ := flat_inv hc5 q v hq
      rw [addr_add]
      have := hS.cell (h5 j i v k1 k3)
      rwa [show off + (j * 5 + i) = off + j * 5 + i by omega]
    · obtain ⟨q, hq⟩ := List.getElem?_of_mem hv
      obtain ⟨j, i, k1, _, k3⟩ := flat_inv hc5 q v hq
      exact (h6 j k1).one v (List.mem_of_getElem? k3)
  · have hl0 : l2 = [] := List.eq_nil_of_length_eq_zero (by omega)
    subst hl0
    cases la with
    | none =>
      have := h3 rfl
      subst this
      exact Src.nil hu
    | some a => exact Src.slice hu rfl (fun q v hq => by simp [flat] at hq) (fun v hv => by simp [flat] at hv)
theorem Tl.append {xs ys : List Value} (h : Tl N xs l) (k : Tl N ys l2) : Tl N (xs ++ ys) (l ++ l2) := by
  obtain ⟨h1, cf, h2, h3⟩ := h
  obtain ⟨k1, cg, k2, k3⟩ := k
  refine ⟨by rw [List.length_append, List.length_append, h1, k1]; omega, fun j => if j < l.length then cf j else cg (j - l.length), fun j i u hj hu => ?_, fun j hj => ?_⟩
  · rw [List.length_append] at hj
    dsimp only at hu
    by_cases hj2 : j < l.length
    · rw [if_pos hj2] at hu
      have h7 := h2 j i u hj2 hu
      rw [List.getElem?_append_left (List.getElem?_eq_some_iff.1 h7).1]; exact h7
    · rw [if_neg hj2] at hu
      have h7 := k2 (j - l.length) i u (by omega) hu
      rw [List.getElem?_append_right (by omega), show j * 5 + i - xs.length = (j - l.length) * 5 + i by omega]; exact h7
  · rw [List.length_append] at hj
    dsimp only
    by_cases hj2 : j < l.length
    · rw [if_pos hj2]
      have := h3 j hj2
      simpa [List.getD, List.getElem?_append_left hj2] using this
    · rw [if_neg hj2]
      have := k3 (j - l.length) (by omega)
      simpa [List.getD, List.getElem?_append_right (show l.length ≤ j by omega)] using this
theorem OwnT.lit1 {n0 b : Nat} {cs : Array Value} (hb : n0 ≤ b) (ht : Tm N cs r) : OwnT N n0 [(b, .cells cs e (0, 0))] (.slice (some ⟨b, 0, none⟩) 1 1) [r] e :=
  ⟨cs.toList, ⟨ht.five, .inr ⟨b, cs, 1, rfl, hb, rfl, by have := ht.five; simpa using this, Nat.le_refl _, by decide, by
    rw [List.take_of_length_le (by rw [ht.five]; exact Nat.le_refl 5)]⟩⟩, by
    have := (Tl.nil N).snoc ht
    simpa using this⟩
end
end Go.E
set_option linter.unusedVariables false
set_option linter.unusedSimpArgs false
namespace Go.E
open Go Go.Trm Go.ChangeShapes Go.WideShapes
instance : Inhabited T := ⟨T0⟩
section
variable {H : Type} {enc : TypeId × Value → H} {P : Program} {W : World} {base : Nat} {held : Bool} {t e t1 ts : TypeId} {fuel : Nat} {cs : List Value} {x : DataW H × List MemPlace}
theorem trod_bs (ht : P.underlying t = some (.slice e)) (he : P.underlying e = some (.int .u8)) (hc : P.cellsOf e = 1) (h : DataW.trod enc P W base (fun _ => true) held fuel t cs = some x) :
    ∃ (a : Option Addr) (l : List UInt8) (c : Nat), cs = [.slice a l.length c] ∧ Bs (PH.all W) (.slice a l.length c) l := by
  rcases open_ints ht he hc h with ⟨rfl, _⟩ | ⟨a, len, cap, zs, rfl, _, hl, hm, hz, _, hcell, hw⟩
  · exact ⟨none, [], 0, rfl, Bs.nil _⟩
  · obtain ⟨l, rfl, hb⟩ := IsRow.bs (w := W) (a := some a) (len := len) (cap := cap) (zs := zs) (.inr ⟨a, rfl, hl, hm, by simpa using hz, hcell, hw⟩)
    exact ⟨some a, l, cap, rfl, hb⟩
theorem trod_ts (hts : P.underlying ts = some (.slice t1)) (c1 : P.cellsOf t1 = 5) (ih : ∀ n, n < fuel → ∀ cs x, DataW.trod enc P W base (fun _ => true) held n t1 cs = some x → cs.length = 5 ∧ ∃ r, Tm (PH.all W) cs.toArray r)
    (h : DataW.trod enc P W base (fun _ => true) held fuel ts cs = some x) : ∃ (a : Option Addr) (l : List T) (c : Nat), cs = [.slice a l.length c] ∧ Ts (PH.all W) (.slice a l.length c) l := by
  rcases DataW.trod_slice hts h with ⟨rfl, _⟩ | ⟨a, len, cap, elems, rest, n, rfl, rfl, _, _, hl, hm, hlen, hel, _, _⟩
  · exact ⟨none, [], 0, rfl, Ts.nil _⟩
  · have hex : ∀ j, j < len → ∃ p : Array Value × T, W.cells? base (a.add (j * 5)) 5 = some p.1.toList ∧ p.1.toList.length = 5 ∧ Tm (PH.all W) p.1 p.2 := by
      intro j hj
      have h0 := hel j hj
      rw [List.getElem?_eq_getElem (by omega), c1] at h0
      obtain ⟨cs', h1, h2⟩ := Option.bind_eq_some_iff.1 h0
      obtain ⟨h3, r, hr⟩ := ih n (by omega) _ _ h2
      exact ⟨(cs'.toArray, r), by simpa using h1, by simpa using h3, hr⟩
    obtain ⟨f, hf⟩ := Go.Deep.choose_lt hex
    have hll : ((List.range len).map fun j => (f j).2).length = len := by simp
    refine ⟨some a, (List.range len).map fun j => (f j).2, cap, by rw [hll], ?_⟩
    obtain ⟨b, o, s⟩ := a
    have hs : 0 < len → s = none := fun h0 => by
      obtain ⟨g1, g2, _⟩ := hf 0 h0
      have g3 := (World.cells?_some g1).2.2 0 (by omega)
      rw [List.getElem?_eq_getElem (by omega)] at g3
      exact cell_spot (by simpa [Addr.add] using g3)
    refine ⟨some ⟨b, o, s⟩, cap, b, o, fun j => (f j).1, rfl, by omega, by unfold maxLen at hm; omega, (fun e => by cases e), fun h0 => ?_, fun j i u hj hu => ?_, fun j hj => ?_⟩
    · rw [hs (by omega)]
    · have hj' : j < len := by omega
      obtain ⟨g1, g2, _⟩ := hf j hj'
      have hi : i < 5 := by
        have h9 : i < ((f j).1).toList.length := (List.getElem?_eq_some_iff.1 hu).1
        omega
      have g3 := (World.cells?_some g1).2.2 i hi
      have hs' := hs (by omega)
      subst hs'
      rw [hu, addr_add, addr_add] at g3
      exact PH.cell_all g3
    · have hj' : j < len := by omega
      have : ((List.range len).map fun j => (f j).2).getD j T0 = (f j).2 := by simp [List.getD, hj']
      rw [this]
      exact (hf j hj').2.2
structure TermTy (P : Program) (t1 : TypeId) where
  f : Nat → Field
  e : TypeId
  str5 : P.underlying t1 = some (.struct #[f 0, f 1, f 2, f 3, f 4])
  c1 : P.cellsOf t1 = 5
  off : ∀ i, i < 5 → (f i).offset = i
  one : ∀ i, i < 5 → P.cellsOf (f i).type = 1
  h0 : P.underlying (f 0).type = some (.int .i64)
  h1 : P.underlying (f 1).type = some (.slice e)
  he : P.underlying e = some (.int .u8)
  hc : P.cellsOf e = 1
  h2 : P.underlying (f 2).type = some .string
  h3 : P.underlying (f 3).type = some (.int .i64)
  h4 : P.underlying (f 4).type = some (.slice t1)
theorem trod_term (X : TermTy P t1) : ∀ (fuel : Nat) (cs : List Value) (x : DataW H × List MemPlace), DataW.trod enc P W base (fun _ => true) held fuel t1 cs = some x → cs.length = 5 ∧ ∃ r, Tm (PH.all W) cs.toArray r := by
  intro fuel
  induction fuel using Nat.strongRecOn with
  | ind fuel ih =>
    intro cs x h
    obtain ⟨xs, n, rfl, rfl, hl, hx, hf⟩ := DataW.trod_struct X.str5 h
    rw [X.c1] at hl
    have hx5 : xs.length = 5 := by simpa using hx
    have key : ∀ i fi, (#[X.f 0, X.f 1, X.f 2, X.f 3, X.f 4] : Array Field)[i]? = some fi → i < 5 → fi = X.f i → ∃ y v, cs[i]? = some v ∧ DataW.trod enc P W base (fun _ => true) held n (X.f i).type [v] = some y := by
      intro i fi hfi hi he
      subst he
      have h1 := hf i (X.f i) hfi
      rw [X.off i hi, X.one i hi, List.getElem?_eq_getElem (by omega)] at h1
      have h2 : (cs.drop i).take 1 = [cs[i]'(by omega)] := by
        rw [List.drop_eq_getElem_cons (by omega)]; rfl
      rw [h2] at h1
      exact ⟨_, _, List.getElem?_eq_getElem (by omega), h1⟩
    refine ⟨hl, ?_⟩
    obtain ⟨y0, v0, a0, b0⟩ := key 0 _ rfl (by omega) rfl
    obtain ⟨y1, v1, a1, b1⟩ := key 1 _ rfl (by omega) rfl
    obtain ⟨y2, v2, a2, b2⟩ := key 2 _ rfl (by omega) rfl
    obtain ⟨y3, v3, a3, b3⟩ := key 3 _ rfl (by omega) rfl
    obtain ⟨y4, v4, a4, b4⟩ := key 4 _ rfl (by omega) rfl
    obtain ⟨k, c0, _, _⟩ := DataW.trod_int X.h0 b0
    obtain ⟨da, d, dc, c1, hd⟩ := trod_bs X.h1 X.he X.hc b1
    obtain ⟨s, c2, _, _⟩ := DataW.trod_string X.h2 b2
    obtain ⟨m, c3, _, _⟩ := DataW.trod_int X.h3 b3
    obtain ⟨la, l, lc, c4, hs⟩ := trod_ts X.h4 X.c1 (fun n' hn' => ih n' (by omega)) b4
    obtain ⟨nm, hnm⟩ := str_of s
    cases c0; cases c1; cases c2; cases c3; cases c4
    rw [hnm] at a2
    have hcs : cs = [.int .i64 k, .slice da d.length dc, str nm, .int .i64 m, .slice la l.length lc] := by
      apply List.ext_getElem?
      intro i
      rcases (by omega : i = 0 ∨ i = 1 ∨ i = 2 ∨ i = 3 ∨ i = 4 ∨ 5 ≤ i) with rfl | rfl | rfl | rfl | rfl | h
      · rw [a0]; rfl
      · rw [a1]; rfl
      · rw [a2]; rfl
      · rw [a3]; rfl
      · rw [a4]; rfl
      · rw [List.getElem?_eq_none (by omega), List.getElem?_eq_none (by simpa using h)]
    refine ⟨T.mk k d nm m l, ?_⟩
    rw [hcs]
    exact Tm.of (r := T.mk k d nm m l) hd hs
variable {spare : Nat → Bool} {b0 : Nat} {v : Value} {d : DataW H} {p : List MemPlace} {r : Reach}
theorem row_term (X : TermTy P t) (hv : Value.okWide P W r b0 t v) (hd : DataW.Trod enc P W base (fun _ => true) held t v d p) :
    ∃ (u : T) (da : Option Addr) (dc : Nat) (la : Option Addr) (lc : Nat), v = .agg (TV u da dc la lc) ∧ Bs (PH.all W) (.slice da u.data.length dc) u.data ∧ Ts (PH.all W) (.slice la u.subs.length lc) u.subs := by
  obtain ⟨cs, rfl, hsz⟩ := row_struct X.str5 X.c1 hv
  obtain ⟨n, hn⟩ := hd
  obtain ⟨_, u, hu⟩ := trod_term X n _ _ hn
  obtain ⟨da, dc, la, lc, e, h1, h2⟩ := hu.open
  refine ⟨u, da, dc, la, lc, ?_, h1, h2⟩
  simp only [Value.cells] at e
  rw [← e]
end
end Go.E
