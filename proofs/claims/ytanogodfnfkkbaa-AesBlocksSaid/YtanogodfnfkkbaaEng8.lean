/- The engine: equality of arrays; tests whose answer is known; two owned blocks in the other order. -/
import Derived.Test.YtanogodfnfkkbaaEng7
import Derived.Laws.StructEq
set_option linter.unusedVariables false
set_option linter.unusedSimpArgs false
namespace Go.E
open Go
section
variable {P : Program} {n : Nat} {L : Env} {w0 w : World} {M : PH} {O g : Owned} {o : Oper} {x y : Operand} {t t2 e : TypeId} {K : Env → World → Prop}

theorem run_equalIn_arr (d len : Nat) (xs ys : Array Value) (c : Nat → Bool) {sz : Nat} (ht : P.underlying t = some (.array len e)) (hs : SZ P e sz)
    (h : ∀ i, i < len → ∃ p q, (part e xs (i * sz)).run P w = .ok p w ∧ (part e ys (i * sz)).run P w = .ok q w ∧ (Op.equalIn d e p q).run P w = .ok (c i) w) :
    (Op.equalIn (d + 1) t (.agg xs) (.agg ys)).run P w = .ok ((List.range len).all c) w := by
  simp only [Op.equalIn, Sem.run_bind, run_underlying ht, Result.andThen_ok, run_sizeOf hs]
  rw [Std.Legacy.Range.forIn_eq_forIn_range']
  have e1 : List.range' 0 (([0:len] : Std.Legacy.Range).size) 1 = List.range len := by
    simp [Std.Legacy.Range.size, List.range_eq_range']
  simp only [e1]
  have hl : ∀ i ∈ List.range len, i < len := fun i hi => List.mem_range.1 hi
  generalize List.range len = l at hl
  clear ht
  induction l with
  | nil => simp
  | cons i l ih =>
    obtain ⟨p, q, h1, h2, h3⟩ := h i (hl i (by simp))
    have ih' := ih (fun j hj => hl j (List.mem_cons_of_mem _ hj))
    simp only [List.forIn_cons, Sem.run_bind, h1, h2, h3, Result.andThen_ok]
    cases hc : c i with
    | false => simp [hc]
    | true =>
      simp only [Bool.not_true, Bool.false_eq_true, if_false, Sem.run_pure, Result.andThen_ok, List.all_cons, hc, Bool.true_and]
      exact ih'

theorem all_getD (a b : List UInt8) (len : Nat) (ha : a.length = len) (hb : b.length = len) : ((List.range len).all fun i => decide (a.getD i 0 = b.getD i 0)) = decide (a = b) := by
  by_cases h : a = b
  · subst h; simp
  · have : ¬ ∀ i, i < len → a.getD i 0 = b.getD i 0 := fun hh => h (by
      apply List.ext_getElem (by omega)
      intro i h1 h2
      have := hh i (by omega)
      simpa [List.getD, h1, h2] using this)
    simp only [h, decide_false]
    rw [Bool.eq_false_iff]
    intro hall
    exact this fun i hi => by
      have := (List.all_eq_true.1 hall) i (List.mem_range.2 hi)
      exact of_decide_eq_true this
theorem run_equalIn_bytes (d len : Nat) {a b : List UInt8} {k : IntKind} (ht : P.underlying t = some (.array len e)) (he : P.underlying e = some (.int k)) (hs : SZ P e 1) (ha : a.length = len) (hb : b.length = len) :
    (Op.equalIn (d + 2) t (.agg (bs a)) (.agg (bs b))).run P w = .ok (decide (a = b)) w := by
  rw [run_equalIn_arr (P := P) (w := w) (d + 1) len (bs a) (bs b) (fun i => decide (a.getD i 0 = b.getD i 0)) ht hs, all_getD a b len ha hb]
  intro i hi
  refine ⟨byte (a.getD i 0), byte (b.getD i 0), ?_, ?_, ?_⟩
  · simp [part, Sem.run_bind, run_isAgg he, aggD, bs_get (show i < a.length by omega)]
  · simp [part, Sem.run_bind, run_isAgg he, aggD, bs_get (show i < b.length by omega)]
  · have := run_equalIn_int (P := P) w d e .u8 k ((a.getD i 0).toNat : Int) ((b.getD i 0).toNat : Int) he
    rw [show byte (a.getD i 0) = .int .u8 ((a.getD i 0).toNat : Int) from rfl, show byte (b.getD i 0) = .int .u8 ((b.getD i 0).toNat : Int) from rfl, this]
    congr 1
    by_cases h : a.getD i 0 = b.getD i 0
    · simp only [h, decide_true]; simp
    · have : ¬ ((a.getD i 0).toNat : Int) = ((b.getD i 0).toNat : Int) := fun e => h (UInt8.toNat_inj.1 (by omega))
      simp only [h, decide_false]; simpa using this
theorem bs_extract (l : List UInt8) (i k : Nat) : (bs l).extract i (i + k) = bs ((l.drop i).take k) := by
  apply Array.toList_inj.1
  simp [bs, List.map_take, List.map_drop, List.take_drop]
theorem rows_eq (m k : Nat) : ∀ (a b : List UInt8), a.length = m * k → b.length = m * k → (∀ i, i < m → (a.drop (i * k)).take k = (b.drop (i * k)).take k) → a = b := by
  induction m with
  | zero => intro a b ha hb _; simp at ha hb; rw [ha, hb]
  | succ m ih =>
    intro a b ha hb h
    have h0 := h 0 (by omega)
    simp only [Nat.zero_mul, List.drop_zero] at h0
    rw [← List.take_append_drop k a, ← List.take_append_drop k b, h0]
    congr 1
    refine ih _ _ (by rw [List.length_drop, ha, Nat.succ_mul]; omega) (by rw [List.length_drop, hb, Nat.succ_mul]; omega) fun i hi => ?_
    have := h (i + 1) (by omega)
    rw [List.drop_drop, List.drop_drop]
    rw [Nat.succ_mul] at this
    rwa [Nat.add_comm k (i * k)]
theorem run_equalIn_rows (d m k : Nat) {a b : List UInt8} {r : TypeId} {kk : IntKind} (ht : P.underlying t = some (.array m r)) (hr : P.underlying r = some (.array k e)) (he : P.underlying e = some (.int kk)) (hs : SZ P e 1) (hsr : SZ P r k) (ha : a.length = m * k) (hb : b.length = m * k) :
    (Op.equalIn (d + 3) t (.agg (bs a)) (.agg (bs b))).run P w = .ok (decide (a = b)) w := by
  rw [run_equalIn_arr (P := P) (w := w) (d + 2) m (bs a) (bs b) (fun i => decide ((a.drop (i * k)).take k = (b.drop (i * k)).take k)) ht hsr]
  · congr 1
    by_cases h : a = b
    · subst h; simp
    · have : ¬ ∀ i, i < m → (a.drop (i * k)).take k = (b.drop (i * k)).take k := fun hh => h (rows_eq m k a b ha hb hh)
      simp only [h, decide_false]
      rw [Bool.eq_false_iff]
      intro hall
      exact this fun i hi => of_decide_eq_true ((List.all_eq_true.1 hall) i (List.mem_range.2 hi))
  · intro i hi
    have hlt : i * k + k ≤ m * k := by rw [← Nat.succ_mul]; exact Nat.mul_le_mul_right _ hi
    refine ⟨.agg (bs ((a.drop (i * k)).take k)), .agg (bs ((b.drop (i * k)).take k)), ?_, ?_, ?_⟩
    · simp [part, Sem.run_bind, run_isAgg hr, aggD, run_sizeOf hsr, bs_extract]
    · simp [part, Sem.run_bind, run_isAgg hr, aggD, run_sizeOf hsr, bs_extract]
    · exact run_equalIn_bytes (P := P) d k hr he hs (by simp; omega) (by simp; omega)
theorem Res.eqlA {len : Nat} {a b : List UInt8} {k : IntKind} (ho : o.op = .binOp .eql t x y t2) (hx : L.ev x = some (.agg (bs a))) (hy : L.ev y = some (.agg (bs b))) (hg : P.eqGuardType P.depth t = false) (ht : P.underlying t = some (.array len e)) (he : P.underlying e = some (.int k)) (hs : SZ P e 1) (hab : a.length = len ∧ b.length = len) : Res P o L w (.bool (decide (a = b))) := fun n c hc =>
  run_bin ho (hc.ev hx) (hc.ev hy) (run_eqGuard_agg w .eql t x y _ _ hg) (by
    rw [run_eql_struct]
    have := run_equalIn_bytes (P := P) (w := w) 9998 len ht he hs hab.1 hab.2
    rw [this]; rfl)
theorem Res.eqlR {m k : Nat} {a b : List UInt8} {r : TypeId} {kk : IntKind} (ho : o.op = .binOp .eql t x y t2) (hx : L.ev x = some (.agg (bs a))) (hy : L.ev y = some (.agg (bs b))) (hg : P.eqGuardType P.depth t = false) (ht : P.underlying t = some (.array m r)) (hr : P.underlying r = some (.array k e)) (he : P.underlying e = some (.int kk)) (hs : SZ P e 1) (hsr : SZ P r k) (hab : a.length = m * k ∧ b.length = m * k) : Res P o L w (.bool (decide (a = b))) := fun n c hc =>
  run_bin ho (hc.ev hx) (hc.ev hy) (run_eqGuard_agg w .eql t x y _ _ hg) (by
    rw [run_eql_struct]
    have := run_equalIn_rows (P := P) (w := w) 9997 m k ht hr he hs hsr hab.1 hab.2
    rw [this]; rfl)

/-! ### tests whose answer is known -/
theorem Res.to {p : Prop} {_ : Decidable p} (h : Res P o L w (.bool (decide p))) (hp : p) : Res P o L w (.bool true) := by
  have e : decide p = true := decide_eq_true hp
  rw [e] at h; exact h
theorem Res.toF {p : Prop} {_ : Decidable p} (h : Res P o L w (.bool (decide p))) (hp : ¬ p) : Res P o L w (.bool false) := by
  have e : decide p = false := decide_eq_false hp
  rw [e] at h; exact h
theorem Res.toB {b b' : Bool} (h : Res P o L w (.bool b)) (hp : b = b') : Res P o L w (.bool b') := by rw [hp] at h; exact h
theorem St.swap {p q : Nat × Obj} (h : St w0 w M (p :: q :: O)) : St w0 w M (q :: p :: O) :=
  ⟨h.os, h.tape, h.output, h.size, fun k hk hne => h.blk k hk fun x hx => hne x (by
    rcases List.mem_cons.1 hx with rfl | hx
    · simp
    · rcases List.mem_cons.1 hx with rfl | hx
      · simp
      · simp [hx]), h.on, fun x hx => h.own x (by
    rcases List.mem_cons.1 hx with rfl | hx
    · simp
    · rcases List.mem_cons.1 hx with rfl | hx
      · simp
      · simp [hx]), by
    have := h.nd
    simp only [List.map_cons, List.nodup_cons, List.mem_cons, not_or] at this ⊢
    exact ⟨⟨fun e => this.1.1 e.symm, this.2.1⟩, this.1.2, this.2.2⟩⟩
theorem St.below {w w' : World} {M : PH} (h : St w w' M []) : Go.RowKit.Below w.heap.size w w' :=
  ⟨h.os, h.tape, h.output, h.size, fun k hk => h.blk k hk (fun _ hx => by cases hx)⟩
/-- all that the world holds -/
def PH.all (w : World) : PH := fun i => w.heap[i]?
theorem PH.on (w : World) : On (PH.all w) w := fun _ _ h => h
end
end Go.E
