/- The engine: parts of slices, the lesser of two numbers, a byte as a number, more on grown slices. -/
import Derived.Test.YtanogodfnfkkbaaEngD
set_option linter.unusedVariables false
set_option linter.unusedSimpArgs false
namespace Go.E
open Go
section
variable {P : Program} {n : Nat} {L : Env} {w0 w : World} {M : PH} {O g : Owned} {o : Oper} {x y : Operand} {t t2 e : TypeId} {K : Env → World → Prop}
theorem bytec {a b : UInt8} (h : a = b) : some (byte a) = some (byte b) := by rw [h]
theorem Res.cast {v v' : Value} (h : Res P o L w v) (e : v = v') : Res P o L w v' := by rw [← e]; exact h
/-- a byte as a whole number -/
theorem Res.convUp {s d : TypeId} {x' : UInt8} {u : TypeDesc} (ho : o.op = .convert s d x) (hx : L.ev x = some (byte x')) (hs : P.underlying s = some u) (hd : P.underlying d = some (.int .i64)) : Res P o L w (.int .i64 (x'.toNat : Int)) := by
  have h := Res.conv (w := w) ho hx hs hd
  rw [wrap_i64 (by have := x'.toNat_lt; omega)] at h
  exact h
theorem Res.minI {c : Call} {a b : Int} (ho : o.op = .call c) (hf : c.callee = .builtin .min) (ha : c.args.toList.map L.ev = [Value.int .i64 a, Value.int .i64 b].map some) : Res P o L w (.int .i64 (if b < a then b else a)) := fun n ac hac =>
  run_callB ho hf hac ha fun k => by
    simp [builtin, Builtin.min_, Builtin.min2]
theorem Res.minN {c : Call} {a b : Nat} (ho : o.op = .call c) (hf : c.callee = .builtin .min) (ha : c.args.toList.map L.ev = [Value.int .i64 (a : Int), Value.int .i64 (b : Int)].map some) : Res P o L w (.int .i64 ((min a b : Nat) : Int)) :=
  Res.cast (Res.minI ho hf ha) (by congr 1; split <;> omega)
theorem run_bound {k : IntKind} {i : Nat} {m : Nat} {cd : BoundsCode} (h : i ≤ m) : (Instr.sliceBound (.int k (i : Int)) m cd).run P w = .ok i w := by
  simp [Instr.sliceBound, Sem.run_bind, asIntOf, h]
theorem Res.sliceHi {a : Option Addr} {len cap h : Nat} {k : IntKind} (ho : o.op = .slice t x none (some y) none) (hx : L.ev x = some (.slice a len cap)) (hy : L.ev y = some (.int k (h : Int)))
    (ht : P.underlying t = some (.slice e)) {sz : Nat} (hs : SZ P e sz) (hh : h ≤ cap) : Res P o L w (.slice a h cap) := fun n ac hac => by
  unfold execOp
  have e0 : a.map (fun z => z.add 0) = a := by cases a with
    | none => rfl
    | some z => simp [Addr.add]
  simp [ho, hac.ev hx, hac.ev hy, Instr.sliceAt, Instr.slice, run_underlying ht, Instr.sliceBounds, run_sizeOf hs, run_bound hh, Sem.run_bind, e0]
theorem Res.sliceLo {a : Option Addr} {len cap l : Nat} {k : IntKind} (ho : o.op = .slice t x (some y) none none) (hx : L.ev x = some (.slice a len cap)) (hy : L.ev y = some (.int k (l : Int)))
    (ht : P.underlying t = some (.slice e)) (hs : SZ P e 1) (hh : l ≤ len) : Res P o L w (.slice (if cap = l then a else a.map (·.add l)) (len - l) (cap - l)) := fun n ac hac => by
  unfold execOp
  simp [ho, hac.ev hx, hac.ev hy, Instr.sliceAt, Instr.slice, run_underlying ht, Instr.sliceBounds, run_sizeOf hs, run_bound hh, Sem.run_bind]
theorem Res.sliceLH {a : Option Addr} {len cap l h : Nat} {k k' : IntKind} {z : Operand} (ho : o.op = .slice t x (some y) (some z) none) (hx : L.ev x = some (.slice a len cap)) (hy : L.ev y = some (.int k (l : Int))) (hz : L.ev z = some (.int k' (h : Int)))
    (ht : P.underlying t = some (.slice e)) (hs : SZ P e 1) (hh : l ≤ h ∧ h ≤ cap) : Res P o L w (.slice (if cap = l then a else a.map (·.add l)) (h - l) (cap - l)) := fun n ac hac => by
  unfold execOp
  simp [ho, hac.ev hx, hac.ev hy, hac.ev hz, Instr.sliceAt, Instr.slice, run_underlying ht, Instr.sliceBounds, run_sizeOf hs, run_bound hh.1, run_bound hh.2, Sem.run_bind]
theorem Bs.take {M : PH} {a : Option Addr} {len cap h : Nat} {l : List UInt8} (hb : Bs M (.slice a len cap) l) (hh : h ≤ l.length) : Bs M (.slice a h cap) (l.take h) := by
  obtain ⟨a', cap', hv, h1, h2, h3, h4⟩ := hb
  simp only [Value.slice.injEq] at hv
  obtain ⟨rfl, rfl, rfl⟩ := hv
  refine ⟨a, cap, by rw [List.length_take, Nat.min_eq_left hh], by rw [List.length_take]; omega, h2, fun e => ?_, fun j hj => ?_⟩
  · exact h3 e
  · rw [List.length_take] at hj
    obtain ⟨b, off, rfl, hc⟩ := h4 j (by omega)
    refine ⟨b, off, rfl, ?_⟩
    rw [hc]
    congr 2
    simp only [List.getD, List.getElem?_take]
    rw [if_pos (by omega)]
theorem Bs.len {M : PH} {a : Option Addr} {len cap : Nat} {l : List UInt8} (hb : Bs M (.slice a len cap) l) : len = l.length ∧ l.length ≤ cap ∧ cap ≤ 9223372036854775807 := by
  obtain ⟨a', cap', hv, h1, h2, h3, h4⟩ := hb
  simp only [Value.slice.injEq] at hv
  obtain ⟨rfl, rfl, rfl⟩ := hv
  exact ⟨rfl, h1, h2⟩
theorem Bs.drop {M : PH} {a : Option Addr} {len cap k : Nat} {l : List UInt8} (hb : Bs M (.slice a len cap) l) (hk : k ≤ l.length) : Bs M (.slice (if cap = k then a else a.map (·.add k)) (len - k) (cap - k)) (l.drop k) := by
  obtain ⟨a', cap', hv, h1, h2, h3, h4⟩ := hb
  simp only [Value.slice.injEq] at hv
  obtain ⟨rfl, rfl, rfl⟩ := hv
  refine ⟨_, _, by rw [List.length_drop], by rw [List.length_drop]; omega, by omega, fun e => ?_, fun j hj => ?_⟩
  · have : a = none := by
      split at e
      · exact e
      · simpa using e
    rw [h3 this]; simp
  · rw [List.length_drop] at hj
    obtain ⟨b, off, rfl, hc⟩ := h4 (k + j) (by omega)
    refine ⟨b, off + k, ?_, ?_⟩
    · rw [if_neg (by omega)]; simp [addr_add]
    · rw [Nat.add_assoc, hc]
      congr 2
      simp [List.getD]
/-- what is known only grows, by new blocks -/
def Grow (n : Nat) (M M' : PH) : Prop := M.le M' ∧ Fresh M M' n
theorem Grow.refl (n : Nat) (M : PH) : Grow n M M := ⟨PH.le.refl _, Fresh.refl _ _⟩
theorem Grow.trans {n : Nat} {M M' M'' : PH} (h : Grow n M M') (k : Grow n M' M'') : Grow n M M'' := ⟨h.1.trans k.1, h.2.trans k.2 (Nat.le_refl _)⟩
theorem St.freezeG {ob : Obj} (h : St w0 w M O) {i b : Nat} (hi : nth O i = some (b, ob)) (hb : w0.heap.size ≤ b) : St w0 w (M.add b ob) (rem O i) ∧ Grow w0.heap.size M (M.add b ob) :=
  ⟨(h.freeze hi hb).1, (h.freeze hi hb).2, Fresh.add _ hb⟩
theorem Stp.callG {c : Call} {f : FuncId} {args : List Value} {d : Nat} {Φ : PH → Value → Prop} (ho : o.op = .call c) (hf : c.callee = .value (.func f)) (ha : c.args.toList.map L.ev = args.map some)
    (hcl : Callable P f) (hd : o.dst = some d) (hn : Nat.blt d n = true) (hS : St w0 w M O)
    (hc : Ok P f args.toArray w M Φ) (h : ∀ v w' M', St w0 w' M' O → Grow w0.heap.size M M' → Φ M' v → K ((d, v) :: L) w') : Stp P n o L w K :=
  Stp.callB ho hf ha hcl hd hn hS hc fun v w' M' hS' hle hfr _ hp => h v w' M' hS' ⟨hle, fun i h1 h2 => Nat.le_trans hS.size (hfr i h1 h2)⟩ hp
/-- a grown slice, opened -/
theorem OwnB.open {n0 : Nat} {v : Value} {l : List UInt8} (h : OwnB n0 g v l e) (h0 : 0 < l.length) : ∃ b cs cap, n0 ≤ b ∧ v = .slice (some ⟨b, 0, none⟩) l.length cap ∧ g = [(b, .cells cs e (0, 0))] ∧ ∀ j, j < l.length → cs[j]? = some (byte (l.getD j 0)) := by
  obtain ⟨b, cs, cap, rfl, rfl, hc⟩ := h.at h0
  obtain ⟨h1, ⟨h2, _⟩ | ⟨b', cs', cap', hv, hb, _⟩⟩ := h
  · cases h2
  · simp only [Value.slice.injEq, Option.some.injEq, Addr.mk.injEq] at hv
    obtain ⟨⟨rfl, _⟩, _⟩ := hv
    exact ⟨_, cs, cap, hb, rfl, rfl, hc⟩
end
section
variable {P : Program} {n : Nat} {ops : Array Oper} {Q : Post} {S : World → Prop} {fuel : Nat} {listed : Array Bool} {L : Env} {w : World} {o : Oper}
/-- the operation is wanted -/
def Wan (n : Nat) (ops : Array Oper) (o : Oper) (L : Env) : Prop := ∀ a, Fits n L a → Region.wanted o (yielded ops a.tmps) = true
theorem Wan.none (hg : o.guard = none) : Wan n ops o L := fun a _ => by simp [Region.wanted, hg]
theorem Wan.of (j : Nat) (want : Bool) {g : Oper} {t : Nat} (hg : o.guard = some (j, want)) (hj : ops[j]? = some g) (ht : g.dst = some t) (hb : L.get t = some (.bool want)) : Wan n ops o L := fun a ha => by
  rw [wanted_of ha hg hj ht hb]; simp
theorem AL.twoG (i j : Nat) {oj : Oper} (hi : ops[i]? = some o) (hj : ops[j]? = some oj) (hr : Region.ready .any ops listed = [i, j]) (hgi : Wan n ops o L) (hgj : Wan n ops oj L)
    (h1 : Stp P n o L w (fun L' w' => S w' ∧ AL P n ops Q S fuel (listed.setIfInBounds i true) L' w'))
    (h2 : Stp P n oj L w (fun L' w' => S w' ∧ AL P n ops Q S fuel (listed.setIfInBounds j true) L' w')) : AL P n ops Q S (fuel + 1) listed L w := fun a ha => by
  refine wpAnyH_all hr (by simp) fun k hk => ?_
  simp only [List.mem_cons, List.not_mem_nil, or_false] at hk
  rcases hk with rfl | rfl
  · unfold wpOp
    simp only [hi]
    rw [if_pos (hgi a ha)]
    exact .inl (Oper.wp_mono' (h1 a ha _) fun a' w' ⟨L', hf, hk⟩ => ⟨hk.1, hk.2 a' hf⟩)
  · unfold wpOp
    simp only [hj]
    rw [if_pos (hgj a ha)]
    exact .inl (Oper.wp_mono' (h2 a ha _) fun a' w' ⟨L', hf, hk⟩ => ⟨hk.1, hk.2 a' hf⟩)
end
end Go.E
