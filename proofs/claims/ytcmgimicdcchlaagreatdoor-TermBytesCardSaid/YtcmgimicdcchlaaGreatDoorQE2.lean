/- Lemmas on the way to the statement; no condition of its own. -/
import Derived.Laws.IdiomCopy
import Derived.Laws.CopyRow
import Derived.LaidEql
import Derived.Stop.Asserts
import Derived.Laws.Externs
import Derived.Lib.ConvBytes
import Derived.Laws.StructEq
import Derived.ChangeMaps5
import Derived.Test.YtcmgimicdcchlaaGreatDoorQE1
import Derived.Test.YtcmgimicdcchlaaGreatDoorQP
import Derived.Test.YtcmgimicdcchlaaGreatDoorTick
import Derived.Test.YtcmgimicdcchlaaGreatDoorTick2
import Derived.Test.YtcmgimicdcchlaaGreatDoorTick3
set_option linter.unusedVariables false
set_option linter.unusedSimpArgs false
namespace Go.E
open Go
section
variable {P : Program} {n : Nat} {L : Env} {w0 w : World} {M : PH} {O g : Owned} {o : Oper} {x y : Operand} {t t2 e : TypeId} {K : Env → World → Prop}
theorem bytec {a b : UInt8} (h : a = b) : some (byte a) = some (byte b) := by rw [h]
theorem Res.cast {v v' : Value} (h : Res P o L w v) (e : v = v') : Res P o L w v' := by rw [← e]; exact h
theorem Res.convUp {s d : TypeId} {x' : UInt8} {u : TypeDesc} (ho : o.op = .convert s d x) (hx : L.ev x = some (byte x')) (hs : P.underlying s = some u) (hd : P.underlying d = some (.int .i64)) : Res P o L w (.int .i64 (x'.toNat : Int)) := by
  have h := Res.conv (w := w) ho hx hs hd
  rw [wrap_i64 (by have := x'.toNat_lt; omega)] at h
  exact h
theorem Res.minI {c : Call} {a b : Int} (ho : o.op = .call c) (hf : c.callee = .builtin .min) (ha : c.args.toList.map L.ev = [Value.int .i64 a, Value.int .i64 b].map some) : Res P o L w (.int .i64 (if b < a then b else a)) := fun n ac hac =>
  run_callB ho hf hac ha fun k => by
    simp [builtin, Builtin.min_, Builtin.min2]
theorem Res.minN {c : Call} {a b : Nat} (ho : o.op = .call c) (hf : c.callee = .builtin .min) (ha : c.args.toList.map L.ev = [Value.int .i64 (a : Int), Value.int .i64 (b : Int)].map some) : Res P o L w (.int .i64 ((min a b : Nat) : Int)) :=
  Res.cast (Res.minI ho hf ha) (by congr 1; split <;> omega)
theorem run_bound {k : IntKind} {i : Nat} {m : Nat} {cd : BoundsCode} (h : i ≤ m) : (Instr.sliceBound (.int k (i : Int)) m cd).run P w = .ok i w := by
  simp [Instr.sliceBound, Sem.run_bind, asIntOf, h]
theorem Res.sliceHi {a : Option Addr} {len cap h : Nat} {k : IntKind} (ho : o.op = .slice t x none (some y) none) (hx : L.ev x = some (.slice a len cap)) (hy : L.ev y = some (.int k (h : Int)))
    (ht : P.underlying t = some (.slice e)) {sz : Nat} (hs : SZ P e sz) (hh : h ≤ cap) : Res P o L w (.slice a h cap) := fun n ac hac => by
  unfold execOp
  have e0 : a.map (fun z => z.add 0) = a := by cases a with
    | none => rfl
    | some z => simp [Addr.add]
  simp [ho, hac.ev hx, hac.ev hy, Instr.sliceAt, Instr.slice, run_underlying ht, Instr.sliceBounds, run_sizeOf hs, run_bound hh, Sem.run_bind, e0]
theorem Res.sliceLo {a : Option Addr} {len cap l : Nat} {k : IntKind} (ho : o.op = .slice t x (some y) none none) (hx : L.ev x = some (.slice a len cap)) (hy : L.ev y = some (.int k (l : Int)))
    (ht : P.underlying t = some (.slice e)) (hs : SZ P e 1) (hh : l ≤ len) : Res P o L w (.slice (if cap = l then a else a.map (·.add l)) (len - l) (cap - l)) := fun n ac hac => by
  unfold execOp
  simp [ho, hac.ev hx, hac.ev hy, Instr.sliceAt, Instr.slice, run_underlying ht, Instr.sliceBounds, run_sizeOf hs, run_bound hh, Sem.run_bind]
theorem Bs.take {M : PH} {a : Option Addr} {len cap h : Nat} {l : List UInt8} (hb : Bs M (.slice a len cap) l) (hh : h ≤ l.length) : Bs M (.slice a h cap) (l.take h) := by
  obtain ⟨a', cap', hv, h1, h2, h3, h4⟩ := hb
  simp only [Value.slice.injEq] at hv
  obtain ⟨rfl, rfl, rfl⟩ := hv
  refine ⟨a, cap, by rw [List.length_take, Nat.min_eq_left hh], by rw [List.length_take]; omega, h2, fun e => ?_, fun j hj => ?_⟩
  · exact h3 e
  · rw [List.length_take] at hj
    obtain ⟨b, off, rfl, hc⟩ := h4 j (by omega)
    refine ⟨b, off, rfl, ?_⟩
    rw [hc]
    congr 2
    simp only [List.getD, List.getElem?_take]
    rw [if_pos (by omega)]
theorem Bs.len {M : PH} {a : Option Addr} {len cap : Nat} {l : List UInt8} (hb : Bs M (.slice a len cap) l) : len = l.length ∧ l.length ≤ cap ∧ cap ≤ 9223372036854775807 := by
  obtain ⟨a', cap', hv, h1, h2, h3, h4⟩ := hb
  simp only [Value.slice.injEq] at hv
  obtain ⟨rfl, rfl, rfl⟩ := hv
  exact ⟨rfl, h1, h2⟩
theorem Bs.drop {M : PH} {a : Option Addr} {len cap k : Nat} {l : List UInt8} (hb : Bs M (.slice a len cap) l) (hk : k ≤ l.length) : Bs M (.slice (if cap = k then a else a.map (·.add k)) (len - k) (cap - k)) (l.drop k) := by
  obtain ⟨a', cap', hv, h1, h2, h3, h4⟩ := hb
  simp only [Value.slice.injEq] at hv
  obtain ⟨rfl, rfl, rfl⟩ := hv
  refine ⟨_, _, by rw [List.length_drop], by rw [List.length_drop]; omega, by omega, fun e => ?_, fun j hj => ?_⟩
  · have : a = none := by
      split at e
      · exact e
      · simpa using e
    rw [h3 this]; simp
  · rw [List.length_drop] at hj
    obtain ⟨b, off, rfl, hc⟩ := h4 (k + j) (by omega)
    refine ⟨b, off + k, ?_, ?_⟩
    · rw [if_neg (by omega)]; simp [addr_add]
    · rw [Nat.add_assoc, hc]
      congr 2
      simp [List.getD]
def Grow (n : Nat) (M M' : PH) : Prop := M.le M' ∧ Fresh M M' n
theorem Grow.refl (n : Nat) (M : PH) : Grow n M M := ⟨PH.le.refl _, Fresh.refl _ _⟩
theorem Grow.trans {n : Nat} {M M' M'' : PH} (h : Grow n M M') (k : Grow n M' M'') : Grow n M M'' := ⟨h.1.trans k.1, h.2.trans k.2 (Nat.le_refl _)⟩
theorem St.freezeG {ob : Obj} (h : St w0 w M O) {i b : Nat} (hi : nth O i = some (b, ob)) (hb : w0.heap.size ≤ b) : St w0 w (M.add b ob) (rem O i) ∧ Grow w0.heap.size M (M.add b ob) :=
  ⟨(h.freeze hi hb).1, (h.freeze hi hb).2, Fresh.add _ hb⟩
theorem Stp.callG {c : Call} {f : FuncId} {args : List Value} {d : Nat} {Φ : PH → Value → Prop} (ho : o.op = .call c) (hf : c.callee = .value (.func f)) (ha : c.args.toList.map L.ev = args.map some)
    (hcl : Callable P f) (hd : o.dst = some d) (hn : Nat.blt d n = true) (hS : St w0 w M O)
    (hc : Ok P f args.toArray w M Φ) (h : ∀ v w' M', St w0 w' M' O → Grow w0.heap.size M M' → Φ M' v → K ((d, v) :: L) w') : Stp P n o L w K :=
  Stp.callB ho hf ha hcl hd hn hS hc fun v w' M' hS' hle hfr _ hp => h v w' M' hS' ⟨hle, fun i h1 h2 => Nat.le_trans hS.size (hfr i h1 h2)⟩ hp
theorem OwnB.open {n0 : Nat} {v : Value} {l : List UInt8} (h : OwnB n0 g v l e) (h0 : 0 < l.length) : ∃ b cs cap, n0 ≤ b ∧ v = .slice (some ⟨b, 0, none⟩) l.length cap ∧ g = [(b, .cells cs e (0, 0))] ∧ ∀ j, j < l.length → cs[j]? = some (byte (l.getD j 0)) := by
  obtain ⟨b, cs, cap, rfl, rfl, hc⟩ := h.at h0
  obtain ⟨h1, ⟨h2, _⟩ | ⟨b', cs', cap', hv, hb, _⟩⟩ := h
  · cases h2
  · simp only [Value.slice.injEq, Option.some.injEq, Addr.mk.injEq] at hv
    obtain ⟨⟨rfl, _⟩, _⟩ := hv
    exact ⟨_, cs, cap, hb, rfl, rfl, hc⟩
end
section
variable {P : Program} {n : Nat} {ops : Array Oper} {Q : Post} {S : World → Prop} {fuel : Nat} {listed : Array Bool} {L : Env} {w : World} {o : Oper}
def Wan (n : Nat) (ops : Array Oper) (o : Oper) (L : Env) : Prop := ∀ a, Fits n L a → Region.wanted o (yielded ops a.tmps) = true
theorem Wan.none (hg : o.guard = none) : Wan n ops o L := fun a _ => by simp [Region.wanted, hg]
theorem Wan.of (j : Nat) (want : Bool) {g : Oper} {t : Nat} (hg : o.guard = some (j, want)) (hj : ops[j]? = some g) (ht : g.dst = some t) (hb : L.get t = some (.bool want)) : Wan n ops o L := fun a ha => by
  rw [wanted_of ha hg hj ht hb]; simp
theorem AL.twoG (i j : Nat) {oj : Oper} (hi : ops[i]? = some o) (hj : ops[j]? = some oj) (hr : Region.ready .any ops listed = [i, j]) (hgi : Wan n ops o L) (hgj : Wan n ops oj L)
    (h1 : Stp P n o L w (fun L' w' => S w' ∧ AL P n ops Q S fuel (listed.setIfInBounds i true) L' w'))
    (h2 : Stp P n oj L w (fun L' w' => S w' ∧ AL P n ops Q S fuel (listed.setIfInBounds j true) L' w')) : AL P n ops Q S (fuel + 1) listed L w := fun a ha => by
  refine wpAnyH_all hr (by simp) fun k hk => ?_
  simp only [List.mem_cons, List.not_mem_nil, or_false] at hk
  rcases hk with rfl | rfl
  · unfold wpOp
    simp only [hi]
    rw [if_pos (hgi a ha)]
    exact .inl (Oper.wp_mono' (h1 a ha _) fun a' w' ⟨L', hf, hk⟩ => ⟨hk.1, hk.2 a' hf⟩)
  · unfold wpOp
    simp only [hj]
    rw [if_pos (hgj a ha)]
    exact .inl (Oper.wp_mono' (h2 a ha _) fun a' w' ⟨L', hf, hk⟩ => ⟨hk.1, hk.2 a' hf⟩)
end
end Go.E
set_option linter.unusedVariables false
set_option linter.unusedSimpArgs false
namespace Go.E
open Go
structure UK (k : IntKind) (m : Nat) : Prop where
  bits : 2 ^ k.bits = m
  sg : k.signed = false
theorem uk32 : UK .u32 4294967296 := ⟨rfl, rfl⟩
theorem uk64 : UK .u64 18446744073709551616 := ⟨rfl, rfl⟩
theorem UK.wrapI {k : IntKind} {m : Nat} (h : UK k m) (a : Int) : k.wrap a = a % (m : Int) := by
  have e : (2 : Int) ^ k.bits = (m : Int) := by rw [← h.bits]; simp
  simp only [IntKind.wrap, h.sg, Bool.false_and, Bool.false_eq_true, if_false, e]
theorem UK.wrap {k : IntKind} {m : Nat} (h : UK k m) (a : Nat) : k.wrap (a : Int) = ((a % m : Nat) : Int) := by rw [h.wrapI]; simp
section
variable {P : Program} {n : Nat} {L : Env} {w0 w : World} {M : PH} {O g : Owned} {o : Oper} {x y : Operand} {t t2 e : TypeId} {K : Env → World → Prop} {k kk : IntKind} {m a b s : Nat}
theorem Res.addU (hk : UK k m) (ho : o.op = .binOp .add t x y t2) (hx : L.ev x = some (.int k (a : Int))) (hy : L.ev y = some (.int k (b : Int))) : Res P o L w (.int k (((a + b) % m : Nat) : Int)) := fun n c hc =>
  run_bin ho (hc.ev hx) (hc.ev hy) rfl (by
    have : ((a : Int) + (b : Int)) = ((a + b : Nat) : Int) := by simp
    simp only [binOp, Op.intArith, ne_eq, not_true_eq_false, if_false, Sem.run_pure, this, hk.wrap])
theorem Res.mulU (hk : UK k m) (ho : o.op = .binOp .mul t x y t2) (hx : L.ev x = some (.int k (a : Int))) (hy : L.ev y = some (.int k (b : Int))) : Res P o L w (.int k (((a * b) % m : Nat) : Int)) := fun n c hc =>
  run_bin ho (hc.ev hx) (hc.ev hy) rfl (by
    have : ((a : Int) * (b : Int)) = ((a * b : Nat) : Int) := by simp
    simp only [binOp, Op.intArith, ne_eq, not_true_eq_false, if_false, Sem.run_pure, this, hk.wrap])
theorem Res.subU (hk : UK k m) (ho : o.op = .binOp .sub t x y t2) (hx : L.ev x = some (.int k (a : Int))) (hy : L.ev y = some (.int k (b : Int))) (h : b ≤ a ∧ a < m) : Res P o L w (.int k ((a - b : Nat) : Int)) := fun n c hc =>
  run_bin ho (hc.ev hx) (hc.ev hy) rfl (by
    have : ((a : Int) - (b : Int)) = ((a - b : Nat) : Int) := by omega
    simp only [binOp, Op.intArith, ne_eq, not_true_eq_false, if_false, Sem.run_pure, this, hk.wrap]
    rw [Nat.mod_eq_of_lt (by omega)])
theorem Res.quoU (hk : UK k m) (ho : o.op = .binOp .quo t x y t2) (hx : L.ev x = some (.int k (a : Int))) (hy : L.ev y = some (.int k (b : Int))) (h : 0 < b ∧ a < m) : Res P o L w (.int k ((a / b : Nat) : Int)) := fun n c hc =>
  run_bin ho (hc.ev hx) (hc.ev hy) rfl (by
    have h0 : ¬ ((b : Int) = 0) := by omega
    have h1 : (a : Int).tdiv (b : Int) = ((a / b : Nat) : Int) := by
      rw [Int.tdiv_eq_ediv_of_nonneg (by omega)]; simp
    simp only [binOp, Op.intDiv, h0, h1, ne_eq, not_true_eq_false, if_false, Sem.run_pure, hk.wrap]
    rw [Nat.mod_eq_of_lt (Nat.lt_of_le_of_lt (Nat.div_le_self _ _) h.2)])
theorem Res.remU (ho : o.op = .binOp .rem t x y t2) (hx : L.ev x = some (.int k (a : Int))) (hy : L.ev y = some (.int k (b : Int))) (h : 0 < b) : Res P o L w (.int k ((a % b : Nat) : Int)) := fun n c hc =>
  run_bin ho (hc.ev hx) (hc.ev hy) rfl (by
    have h0 : ¬ ((b : Int) = 0) := by omega
    have h1 : (a : Int).tmod (b : Int) = ((a % b : Nat) : Int) := by
      rw [Int.tmod_eq_emod_of_nonneg (by omega)]; simp
    simp only [binOp, Op.intDiv, h0, h1, ne_eq, not_true_eq_false, if_false, Sem.run_pure])
theorem UK.ofInt (hk : UK k m) (h : a < m) : (BitVec.ofInt k.bits (a : Int)).toNat = a := by
  rw [BitVec.ofInt_natCast, BitVec.toNat_ofNat, hk.bits, Nat.mod_eq_of_lt h]
theorem UK.lt2 (hk : UK k m) (h : a < m) : a < 2 ^ k.bits := by rw [hk.bits]; exact h
theorem run_and : (binOp .and t (.int k (a : Int)) (.int k (b : Int))).run P w = .ok (.int k (k.wrap (((BitVec.ofInt k.bits (a : Int) &&& BitVec.ofInt k.bits (b : Int)).toNat : Nat) : Int))) w := by
  simp [binOp, Op.intBits]
theorem run_or : (binOp .or t (.int k (a : Int)) (.int k (b : Int))).run P w = .ok (.int k (k.wrap (((BitVec.ofInt k.bits (a : Int) ||| BitVec.ofInt k.bits (b : Int)).toNat : Nat) : Int))) w := by
  simp [binOp, Op.intBits]
theorem run_xor : (binOp .xor t (.int k (a : Int)) (.int k (b : Int))).run P w = .ok (.int k (k.wrap (((BitVec.ofInt k.bits (a : Int) ^^^ BitVec.ofInt k.bits (b : Int)).toNat : Nat) : Int))) w := by
  simp [binOp, Op.intBits]
theorem Res.andU (hk : UK k m) (ho : o.op = .binOp .and t x y t2) (hx : L.ev x = some (.int k (a : Int))) (hy : L.ev y = some (.int k (b : Int))) (h : a < m ∧ b < m) : Res P o L w (.int k ((a &&& b : Nat) : Int)) := fun n c hc =>
  run_bin ho (hc.ev hx) (hc.ev hy) rfl (by
    rw [run_and, BitVec.toNat_and, hk.ofInt h.1, hk.ofInt h.2, hk.wrap, Nat.mod_eq_of_lt (by rw [← hk.bits]; exact Nat.and_lt_two_pow _ (hk.lt2 h.2))])
theorem Res.orU (hk : UK k m) (ho : o.op = .binOp .or t x y t2) (hx : L.ev x = some (.int k (a : Int))) (hy : L.ev y = some (.int k (b : Int))) (h : a < m ∧ b < m) : Res P o L w (.int k ((a ||| b : Nat) : Int)) := fun n c hc =>
  run_bin ho (hc.ev hx) (hc.ev hy) rfl (by
    rw [run_or, BitVec.toNat_or, hk.ofInt h.1, hk.ofInt h.2, hk.wrap, Nat.mod_eq_of_lt (by rw [← hk.bits]; exact Nat.or_lt_two_pow (hk.lt2 h.1) (hk.lt2 h.2))])
theorem Res.xorU (hk : UK k m) (ho : o.op = .binOp .xor t x y t2) (hx : L.ev x = some (.int k (a : Int))) (hy : L.ev y = some (.int k (b : Int))) (h : a < m ∧ b < m) : Res P o L w (.int k ((a ^^^ b : Nat) : Int)) := fun n c hc =>
  run_bin ho (hc.ev hx) (hc.ev hy) rfl (by
    rw [run_xor, BitVec.toNat_xor, hk.ofInt h.1, hk.ofInt h.2, hk.wrap, Nat.mod_eq_of_lt (by rw [← hk.bits]; exact Nat.xor_lt_two_pow (hk.lt2 h.1) (hk.lt2 h.2))])
theorem Res.shlU (hk : UK k m) (ho : o.op = .binOp .shl t x y t2) (hx : L.ev x = some (.int k (a : Int))) (hy : L.ev y = some (.int kk (s : Int))) (h : s ≤ k.bits) : Res P o L w (.int k (((a * 2 ^ s) % m : Nat) : Int)) := fun n c hc =>
  run_bin ho (hc.ev hx) (hc.ev hy) rfl (by
    have h1 : ¬ ((s : Int) < 0) := by omega
    have h2 : min (s : Int).toNat k.bits = s := by simp; omega
    have h3 : ((a : Int) * 2 ^ s) = ((a * 2 ^ s : Nat) : Int) := by simp
    simp only [binOp, Op.shift, h1, if_false, Sem.run_pure, h2, h3, hk.wrap])
theorem Res.shrU (ho : o.op = .binOp .shr t x y t2) (hx : L.ev x = some (.int k (a : Int))) (hy : L.ev y = some (.int kk (s : Int))) (h : s ≤ k.bits) : Res P o L w (.int k ((a / 2 ^ s : Nat) : Int)) := fun n c hc =>
  run_bin ho (hc.ev hx) (hc.ev hy) rfl (by
    have h1 : ¬ ((s : Int) < 0) := by omega
    have h2 : min (s : Int).toNat k.bits = s := by simp; omega
    have h3 : (a : Int).fdiv (2 ^ s) = ((a / 2 ^ s : Nat) : Int) := by
      have : (2 : Int) ^ s = ((2 ^ s : Nat) : Int) := by simp
      rw [this, Int.fdiv_eq_ediv_of_nonneg _ (Int.natCast_nonneg _)]
      simp
    simp only [binOp, Op.shift, h1, if_false, Sem.run_pure, h2, h3])
theorem Res.negI {op : UnOp} {c : Int} (ho : o.op = .unOp op t x) (hop : op = .neg) (hx : L.ev x = some (.int .i64 c)) (h : -9223372036854775807 ≤ c ∧ c ≤ 9223372036854775807) : Res P o L w (.int .i64 (-c)) := fun n a ha => by
  subst hop
  have : (Op.unary .neg (.int .i64 c)).run P w = .ok (.int .i64 (IntKind.i64.wrap (-c))) w := by simp [Op.unary, Op.intArith]
  unfold execOp
  simp only [ho, ha.ev hx, this, Sem.run_map, Sem.run_bind, Result.andThen_ok]
  rw [wrap_i64 (by omega)]
  rfl
theorem Res.notU32 {op : UnOp} (ho : o.op = .unOp op t x) (hop : op = .xor) (hx : L.ev x = some (.int .u32 (a : Int))) (h : a < 4294967296) : Res P o L w (.int .u32 ((4294967295 - a : Nat) : Int)) := fun n c hc => by
  subst hop
  have e : (BitVec.ofInt 32 (4294967295 : Int) ^^^ BitVec.ofInt 32 (a : Int)).toNat = 4294967295 - a := by
    have e1 : BitVec.ofInt 32 (4294967295 : Int) = BitVec.allOnes 32 := by decide
    rw [e1, BitVec.allOnes_xor, BitVec.toNat_not, BitVec.ofInt_natCast, BitVec.toNat_ofNat, Nat.mod_eq_of_lt (by omega)]
  have e2 : (Op.unary .xor (.int .u32 (a : Int))).run P w = .ok (.int .u32 (IntKind.u32.wrap (((BitVec.ofInt 32 (4294967295 : Int) ^^^ BitVec.ofInt 32 (a : Int)).toNat : Nat) : Int))) w := by
    simp [Op.unary, Op.intBits]; rfl
  unfold execOp
  simp only [ho, hc.ev hx, e2, Sem.run_map, Sem.run_bind, Result.andThen_ok]
  rw [e, uk32.wrap, Nat.mod_eq_of_lt (by omega)]
  rfl
theorem Res.convU {ss d : TypeId} {k' : IntKind} {u : TypeDesc} (hk : UK k m) (ho : o.op = .convert ss d x) (hx : L.ev x = some (.int k' (a : Int))) (hs : P.underlying ss = some u) (hd : P.underlying d = some (.int k)) : Res P o L w (.int k ((a % m : Nat) : Int)) := by
  have h := Res.conv (w := w) ho hx hs hd
  rw [hk.wrap] at h
  exact h
theorem Res.convW {ss d : TypeId} {k' : IntKind} {u : TypeDesc} (hk : UK k m) (ho : o.op = .convert ss d x) (hx : L.ev x = some (.int k' (a : Int))) (hs : P.underlying ss = some u) (hd : P.underlying d = some (.int k)) (h : a < m) : Res P o L w (.int k (a : Int)) := by
  have h' := Res.convU (w := w) hk ho hx hs hd
  rw [Nat.mod_eq_of_lt h] at h'
  exact h'
theorem Res.convNeg {ss d : TypeId} {u : TypeDesc} (hk : UK k m) (ho : o.op = .convert ss d x) (hx : L.ev x = some (.int .i64 (-(a : Int)))) (hs : P.underlying ss = some u) (hd : P.underlying d = some (.int k)) (h : 0 < a ∧ a ≤ m) : Res P o L w (.int k ((m - a : Nat) : Int)) := by
  have h' := Res.conv (w := w) ho hx hs hd
  have e : (-(a : Int)) % (m : Int) = ((m - a : Nat) : Int) := by
    have e1 : ((m - a : Nat) : Int) = -(a : Int) + (m : Int) := by omega
    rw [e1, ← Int.add_emod_right]
    exact Int.emod_eq_of_lt (by omega) (by omega)
  rw [hk.wrapI, e] at h'
  exact h'
end
end Go.E
set_option linter.unusedVariables false
set_option linter.unusedSimpArgs false
namespace Go.E
open Go
def w32 (x : UInt32) : Value := .int .u32 (x.toNat : Int)
theorem wrap_u32 (x : Nat) : IntKind.u32.wrap (x : Int) = ((UInt32.ofNat x).toNat : Int) := by
  rw [uk32.wrap]; simp
section
variable {P : Program} {n : Nat} {L : Env} {w0 w : World} {M : PH} {O g : Owned} {o : Oper} {x y : Operand} {t t2 e : TypeId} {K : Env → World → Prop} {a b : UInt32} {kk : IntKind}
theorem Res.add32 (ho : o.op = .binOp .add t x y t2) (hx : L.ev x = some (w32 a)) (hy : L.ev y = some (w32 b)) : Res P o L w (w32 (a + b)) := fun n c hc =>
  run_bin ho (hc.ev hx) (hc.ev hy) rfl (by
    have : ((a.toNat : Int) + (b.toNat : Int)) = ((a.toNat + b.toNat : Nat) : Int) := by simp
    simp only [w32, binOp, Op.intArith, ne_eq, not_true_eq_false, if_false, Sem.run_pure, this, wrap_u32]
    simp)
theorem Res.xor32 (ho : o.op = .binOp .xor t x y t2) (hx : L.ev x = some (w32 a)) (hy : L.ev y = some (w32 b)) : Res P o L w (w32 (a ^^^ b)) := Res.cast (Res.xorU uk32 ho hx hy ⟨a.toNat_lt, b.toNat_lt⟩) (by rw [w32, UInt32.toNat_xor])
theorem Res.and32 (ho : o.op = .binOp .and t x y t2) (hx : L.ev x = some (w32 a)) (hy : L.ev y = some (w32 b)) : Res P o L w (w32 (a &&& b)) := Res.cast (Res.andU uk32 ho hx hy ⟨a.toNat_lt, b.toNat_lt⟩) (by rw [w32, UInt32.toNat_and])
theorem Res.or32 (ho : o.op = .binOp .or t x y t2) (hx : L.ev x = some (w32 a)) (hy : L.ev y = some (w32 b)) : Res P o L w (w32 (a ||| b)) := Res.cast (Res.orU uk32 ho hx hy ⟨a.toNat_lt, b.toNat_lt⟩) (by rw [w32, UInt32.toNat_or])
theorem Res.shl32 (k : Nat) (ho : o.op = .binOp .shl t x y t2) (hx : L.ev x = some (w32 a)) (hy : L.ev y = some (.int kk k)) (hk : k ≤ 32) : Res P o L w (w32 (UInt32.ofNat (a.toNat * 2 ^ k))) := Res.cast (Res.shlU uk32 ho hx hy hk) (by rw [w32, UInt32.toNat_ofNat'])
theorem Res.shr32 (k : Nat) (ho : o.op = .binOp .shr t x y t2) (hx : L.ev x = some (w32 a)) (hy : L.ev y = some (.int kk k)) (hk : k ≤ 32) : Res P o L w (w32 (UInt32.ofNat (a.toNat / 2 ^ k))) := Res.cast (Res.shrU ho hx hy hk) (by
  rw [w32, UInt32.toNat_ofNat', Nat.mod_eq_of_lt (Nat.lt_of_le_of_lt (Nat.div_le_self _ _) a.toNat_lt)])
theorem Res.conv32 {ss d : TypeId} {k' : IntKind} {u : TypeDesc} {c : Nat} (ho : o.op = .convert ss d x) (hx : L.ev x = some (.int k' (c : Int))) (hs : P.underlying ss = some u) (hd : P.underlying d = some (.int .u32)) : Res P o L w (w32 (UInt32.ofNat c)) :=
  Res.cast (Res.convU uk32 ho hx hs hd) (by rw [w32, UInt32.toNat_ofNat'])
def ws32 (l : List UInt32) : Array Value := (l.map w32).toArray
@[simp] theorem size_ws32 (l : List UInt32) : (ws32 l).size = l.length := by simp [ws32]
theorem ws32_get {l : List UInt32} {j : Nat} (h : j < l.length) : (ws32 l)[j]? = some (w32 (l.getD j 0)) := by
  simp [ws32, List.getD, h]
theorem ws32_set (l : List UInt32) (j : Nat) (x : UInt32) : (ws32 l).setIfInBounds j (w32 x) = ws32 (l.set j x) := by
  apply Array.toList_inj.1
  simp [ws32, List.map_set]
theorem one_ws32 (l : List UInt32) : ∀ v ∈ (ws32 l).toList, v.oneCell' = true := by
  intro v hv
  simp only [ws32, List.mem_map] at hv
  obtain ⟨n, _, rfl⟩ := hv
  rfl
theorem Stp.storeW32 (i : Nat) {b j : Nat} {l : List UInt32} {T : TypeId} (ho : o.op = .store t x y) (hx : L.ev x = some (.pointer (some ⟨b, j, none⟩))) (hy : L.ev y = some (w32 a)) (hs : SZ P t 1)
    (hd : o.dst = none) (hS : St w0 w M O) (hi : nth O i = some (b, .cells (ws32 l) T (0, 0))) (hj : j < l.length)
    (h : ∀ w', St w0 w' M (upd O i (.cells (ws32 (l.set j a)) T (0, 0))) → Put w w' b (.cells (ws32 (l.set j a)) T (0, 0)) → K L w') : Stp P n o L w K :=
  Stp.store1 i ho hx hy hs rfl hd hS hi (by simpa using hj) fun w' hw hp => by rw [ws32_set] at hw hp; exact h w' hw hp
theorem Stp.storeAllW32 (i : Nat) {b k : Nat} {l r : List UInt32} {T : TypeId} (ho : o.op = .store t x y) (hx : L.ev x = some (.pointer (some ⟨b, 0, none⟩))) (hy : L.ev y = some (.agg (ws32 r))) (hs : SZ P t k)
    (hd : o.dst = none) (hS : St w0 w M O) (hi : nth O i = some (b, .cells (ws32 l) T (0, 0))) (hk : l.length = k ∧ r.length = k)
    (h : ∀ w', St w0 w' M (upd O i (.cells (ws32 r) T (0, 0))) → Put w w' b (.cells (ws32 r) T (0, 0)) → K L w') : Stp P n o L w K :=
  Stp.storeAll i ho hx hy (by rw [size_ws32, hk.2]; exact hs) (one_ws32 r) hd hS hi (by simp; omega) h
end
def w64 (x : UInt64) : Value := .int .u64 (x.toNat : Int)
section
variable {P : Program} {n : Nat} {L : Env} {w0 w : World} {M : PH} {O g : Owned} {o : Oper} {x y : Operand} {t t2 e : TypeId} {K : Env → World → Prop} {a b : UInt64} {kk : IntKind}
def ws64 (l : List UInt64) : Array Value := (l.map w64).toArray
@[simp] theorem size_ws64 (l : List UInt64) : (ws64 l).size = l.length := by simp [ws64]
end
section
variable {P : Program} {L : Env} {w : World} {o : Oper} {x y : Operand} {t t2 : TypeId} {a : UInt32}
theorem Res.com32 {op : UnOp} (ho : o.op = .unOp op t x) (hop : op = .xor) (hx : L.ev x = some (w32 a)) : Res P o L w (w32 (~~~ a)) := Res.cast (Res.notU32 ho hop hx a.toNat_lt) (by
  rw [w32, UInt32.toNat_not]; rfl)
theorem Res.sliceALo {e : TypeId} {b k l : Nat} {kk : IntKind} (ho : o.op = .slice t x (some y) none none) (hx : L.ev x = some (.pointer (some ⟨b, 0, none⟩))) (hy : L.ev y = some (.int kk (l : Int))) (ht : P.underlying t = some (.array k e)) (hs : SZ P e 1) (hl : l < k) : Res P o L w (.slice (some ⟨b, l, none⟩) (k - l) (k - l)) := fun n ac hac => by
  unfold execOp
  have hk : ¬ k = l := by omega
  simp [ho, hac.ev hx, hac.ev hy, Instr.sliceAt, run_underlying ht, Instr.sureAddr, Instr.sliceBounds, run_sizeOf hs, run_bound (show l ≤ k by omega), hk, Addr.add, Sem.run_bind]
  exact fun h => h.symm
end
end Go.E
set_option linter.unusedVariables false
set_option linter.unusedSimpArgs false
namespace Go.E
open Go
section
variable {P : Program} {n : Nat} {L : Env} {w0 w : World} {M : PH} {O g : Owned} {o : Oper} {x y : Operand} {t t2 e : TypeId} {K : Env → World → Prop}
theorem Put.refl {b : Nat} {ob : Obj} (h : w.heap[b]? = some ob) : Put w w b ob := ⟨rfl, rfl, rfl, rfl, h, fun _ _ => rfl⟩
theorem Stp.copyR (i : Nat) {c : Call} {dT sT d b j m cp sl sc : Nat} {oa : Option Addr} {X r : List UInt8} {T : TypeId} (ho : o.op = .call c) (hf : c.callee = .builtin .copy) (ha : c.args.toList.map L.ev = [Value.slice (some ⟨b, j, none⟩) m cp, Value.slice oa sl sc].map some)
    (hat : c.argTypes = #[dT, sT]) (hu : P.underlying dT = some (.slice e)) (hs : SZ P e 1) (hd : o.dst = some d) (hn : Nat.blt d n = true) (hS : St w0 w M O) (hi : nth O i = some (b, .cells (bs X) T (0, 0)))
    (hr : r.length = Nat.min sl m) (hc : r = [] ∨ ∃ a, oa = some a ∧ ∀ k, k < r.length → w.cell? (a.add k) = some (byte (r.getD k 0))) (hfit : j + r.length ≤ X.length)
    (h : ∀ w', St w0 w' M (upd O i (.cells (bs (X.take j ++ r ++ X.drop (j + r.length))) T (0, 0))) → Put w w' b (.cells (bs (X.take j ++ r ++ X.drop (j + r.length))) T (0, 0)) → K ((d, .int .i64 (r.length : Int)) :: L) w') : Stp P n o L w K := by
  have hb := hS.get hi
  by_cases h0 : r = []
  · subst h0
    have e0 : X.take j ++ [] ++ X.drop (j + ([] : List UInt8).length) = X := by simp
    have hp : Put w w b (.cells (bs X) T (0, 0)) := Put.refl hb
    rw [e0] at h
    have hrun := run_copy_none (P := P) w dT sT o.type e (some ⟨b, j, none⟩) oa m cp sl sc hu hs (by simpa using hr.symm)
    exact Stp.resW hd hn (fun n a hfa => run_callB ho hf hfa ha fun cc => by
      simp only [builtin, hat, Sem.run_bind, hrun, Result.andThen_ok, Sem.run_pure]; rfl) (h w (hS.put hi hp) hp)
  · obtain ⟨a, rfl, hcell⟩ := hc.resolve_left h0
    have hrun := run_copy_row (P := P) w dT sT o.type e b j m cp a sl sc (bs X) T (r.map byte) hu hs hb (by simpa using hr) (fun k v hk => by
      obtain ⟨hk1, hk2⟩ := List.getElem?_eq_some_iff.1 hk
      simp only [List.length_map] at hk1
      rw [hcell k hk1, ← hk2]
      simp [List.getD, hk1]) (by simpa using hfit) (by
        intro v hv
        simp only [List.mem_map] at hv
        obtain ⟨u, _, rfl⟩ := hv
        rfl)
    have e0 : ((bs X).toList.take j ++ r.map byte ++ (bs X).toList.drop (j + (r.map byte).length)).toArray = bs (X.take j ++ r ++ X.drop (j + r.length)) := by simp [bs]
    rw [e0] at hrun
    exact Stp.resW hd hn (fun n a hfa => run_callB ho hf hfa ha fun cc => by
      simp only [builtin, hat, Sem.run_bind, hrun, Result.andThen_ok, Sem.run_pure]; simp [goInt]) (h _ (hS.put hi (put_setRow hb)) (put_setRow hb))
theorem Stp.copyB (i : Nat) {c : Call} {dT sT d b j m cp : Nat} {X l : List UInt8} {v : Value} {T : TypeId} (ho : o.op = .call c) (hf : c.callee = .builtin .copy) (ha : c.args.toList.map L.ev = [Value.slice (some ⟨b, j, none⟩) m cp, v].map some)
    (hat : c.argTypes = #[dT, sT]) (hu : P.underlying dT = some (.slice e)) (hs : SZ P e 1) (hd : o.dst = some d) (hn : Nat.blt d n = true) (hS : St w0 w M O) (hi : nth O i = some (b, .cells (bs X) T (0, 0)))
    (hv : Bs M v l) (hfit : j + min l.length m ≤ X.length)
    (h : ∀ w', St w0 w' M (upd O i (.cells (bs (X.take j ++ l.take m ++ X.drop (j + min l.length m))) T (0, 0))) → Put w w' b (.cells (bs (X.take j ++ l.take m ++ X.drop (j + min l.length m))) T (0, 0)) → K ((d, .int .i64 ((min l.length m : Nat) : Int)) :: L) w') : Stp P n o L w K := by
  obtain ⟨oa, cap, rfl, h1, h2, h3, h4⟩ := hv
  have e1 : (l.take m).length = min l.length m := by rw [List.length_take]; omega
  have e2 : (l.take m).length = Nat.min l.length m := e1
  refine Stp.copyR i (r := l.take m) ho hf ha hat hu hs hd hn hS hi e2 ?_ (by rw [e1]; exact hfit) (by rw [e1]; exact h)
  by_cases hz : l.take m = []
  · exact .inl hz
  · have hpos : 0 < (l.take m).length := List.length_pos_iff.2 hz
    obtain ⟨b', off, rfl, _⟩ := h4 0 (by omega)
    refine .inr ⟨_, rfl, fun k hk => ?_⟩
    obtain ⟨b2, off2, e3, hc⟩ := h4 k (by omega)
    simp only [Option.some.injEq, Addr.mk.injEq] at e3
    obtain ⟨rfl, rfl, _⟩ := e3
    rw [addr_add, hS.cell hc]
    congr 2
    simp only [List.getD, List.getElem?_take]
    rw [if_pos (by omega)]
end
end Go.E
set_option linter.unusedVariables false
set_option linter.unusedSimpArgs false
namespace Go.E
open Go
section
variable {P : Program} {n : Nat} {L : Env} {w0 w : World} {M : PH} {O g : Owned} {o : Oper} {x y : Operand} {t t2 e : TypeId} {K : Env → World → Prop}
theorem intc {k : IntKind} {a b : Int} (h : a = b) : some (Value.int k a) = some (.int k b) := by rw [h]
theorem Res.maxI {c : Call} {a b : Int} (ho : o.op = .call c) (hf : c.callee = .builtin .max) (ha : c.args.toList.map L.ev = [Value.int .i64 a, Value.int .i64 b].map some) : Res P o L w (.int .i64 (if b > a then b else a)) := fun n ac hac =>
  run_callB ho hf hac ha fun k => by
    simp [builtin, Builtin.max_, Builtin.max2]
theorem OwnB.some {n0 b m cap : Nat} {l : List UInt8} (h : OwnB n0 g (.slice (some ⟨b, 0, none⟩) m cap) l e) : m = l.length ∧ n0 ≤ b ∧ l.length ≤ cap ∧ cap ≤ 9223372036854775807 ∧ ∃ cs, g = [(b, .cells cs e (0, 0))] ∧ ∀ j, j < l.length → cs[j]? = Option.some (byte (l.getD j 0)) := by
  obtain ⟨h1, ⟨h2, _⟩ | ⟨b', cs, cap', hv, hb, rfl, hcs, hm, hcap, ht⟩⟩ := h
  · cases h2
  · simp only [Value.slice.injEq, Option.some.injEq, Addr.mk.injEq] at hv
    obtain ⟨⟨rfl, _⟩, rfl, rfl⟩ := hv
    refine ⟨rfl, hb, hm, hcap, cs, rfl, fun j hj => ?_⟩
    have h2 : (cs.toList.take (l.length * 1))[j]? = Option.some (byte (l.getD j 0)) := by
      rw [ht]; simp [List.getD, hj]
    rw [List.getElem?_take] at h2
    rw [if_pos (by omega)] at h2
    simpa using h2
theorem Src.drop {u : TypeId} {b cap k : Nat} {l : List UInt8} (hu : P.underlying u = some (.slice e)) (hk : k ≤ l.length) (hcap : l.length ≤ cap) (hc : ∀ j, j < l.length → w.cell? ⟨b, j, none⟩ = some (byte (l.getD j 0))) :
    Src P w u (.slice (if cap = k then some ⟨b, 0, none⟩ else (some (⟨b, 0, none⟩ : Addr)).map (·.add k)) (l.length - k) (cap - k)) (l.drop k).length 1 ((l.drop k).map byte) := by
  have hlen : (l.drop k).length = l.length - k := List.length_drop
  have key : ∀ a : Addr, (∀ j, j < l.length - k → w.cell? (a.add j) = some (byte (l.getD (k + j) 0))) → Src P w u (.slice (some a) (l.length - k) (cap - k)) (l.drop k).length 1 ((l.drop k).map byte) := fun a ha => by
    rw [hlen]
    refine Src.slice hu (by simp) (fun j v hv => ?_) (fun v hv => ?_)
    · obtain ⟨h1, h2⟩ := List.getElem?_eq_some_iff.1 hv
      simp only [List.length_map, List.length_drop] at h1
      rw [ha j h1, ← h2]
      simp [List.getD, show k + j < l.length by omega]
    · simp only [List.mem_map] at hv
      obtain ⟨u, _, rfl⟩ := hv
      rfl
  split
  · rename_i e1
    exact key _ fun j hj => by omega
  · exact key _ fun j hj => by
      simp only [addr_add]
      rw [show 0 + k + j = k + j by omega]
      exact hc _ (by omega)
end
end Go.E
set_option linter.unusedVariables false
set_option linter.unusedSimpArgs false
namespace Go.E
open Go
section
variable {P : Program} {n : Nat} {L : Env} {w0 w : World} {M : PH} {O g : Owned} {o : Oper} {x y : Operand} {t t2 e : TypeId} {K : Env → World → Prop} {v u : Value}
def ifaceD : TypeDesc → Bool
  | .interface _ => true
  | _ => false
theorem Res.mkIface {dd : TypeDesc} (ho : o.op = .makeInterface t x) (hx : L.ev x = some v) (ht : P.underlying t = some dd) (hd : ifaceD dd = false) : Res P o L w (.iface t v) := fun n a ha => by
  have h : (Instr.makeInterface t v).run P w = .ok (.iface t v) w := by
    cases dd <;> simp_all [Instr.makeInterface, run_underlying ht, ifaceD]
  unfold execOp
  simp only [ho, ha.ev hx, Sem.run_bind, h, Result.andThen_ok, Sem.run_pure]
variable {ms : Array (String × TypeId)} {tp tq : TypeId}
end
end Go.E
namespace Go.E
open Go
section
variable {P : Program} {n : Nat} {L : Env} {w0 w : World} {M : PH} {O g : Owned} {o : Oper} {x y : Operand} {t t2 e : TypeId} {K : Env → World → Prop} {v u : Value}
theorem Res.fieldA {fs : Array Field} {fd : Field} {b j i : Nat} {sz : Nat} (ho : o.op = .fieldAddr t x i) (hx : L.ev x = some (.pointer (some ⟨b, j, none⟩))) (ht : P.underlying t = some (.struct fs)) (hf : fs[i]? = some fd) (hs : SZ P fd.type sz) (hz : 0 < sz) :
    Res P o L w (.pointer (some ⟨b, j + fd.offset, none⟩)) := fun n a ha => by
  have hz' : ¬ sz = 0 := by omega
  unfold execOp
  simp [ho, ha.ev hx, Instr.fieldAt, run_underlying ht, hf, Instr.sureAddr, fieldPlace, run_sizeOf hs, hz', addr_add]
end
end Go.E
set_option linter.unusedVariables false
set_option linter.unusedSimpArgs false
namespace Go.E
open Go
section
variable {P : Program} {n : Nat} {L : Env} {w0 w : World} {M : PH} {O g : Owned} {o : Oper} {x y : Operand} {t t2 e : TypeId} {K : Env → World → Prop} {v u : Value}
theorem Res.addS {a b : List UInt8} (hl : a.length + b.length ≤ 9223372036854775807) (ho : o.op = .binOp .add t x y t2) (hx : L.ev x = some (str a)) (hy : L.ev y = some (str b)) : Res P o L w (str (a ++ b)) := fun n c hc =>
  run_bin ho (hc.ev hx) (hc.ev hy) rfl (by
    have e : (⟨a.toArray⟩ ++ ⟨b.toArray⟩ : ByteArray) = ⟨(a ++ b).toArray⟩ := by
      apply ByteArray.ext
      simp
    have hs : ((⟨a.toArray⟩ : ByteArray).size : Int) + ((⟨b.toArray⟩ : ByteArray).size : Int) ≤ 9223372036854775807 := by
      have e1 : (⟨a.toArray⟩ : ByteArray).size = a.length := by simp [ByteArray.size]
      have e2 : (⟨b.toArray⟩ : ByteArray).size = b.length := by simp [ByteArray.size]
      rw [e1, e2]; omega
    simp [str, binOp, Op.stringOp, e, hs])
theorem Res.sliceAHi {b k h : Nat} {kk : IntKind} (ho : o.op = .slice t x none (some y) none) (hx : L.ev x = some (.pointer (some ⟨b, 0, none⟩))) (hy : L.ev y = some (.int kk (h : Int))) (ht : P.underlying t = some (.array k e)) (hs : SZ P e 1) (hh : 0 < k ∧ h ≤ k) : Res P o L w (.slice (some ⟨b, 0, none⟩) h k) := fun n ac hac => by
  unfold execOp
  have hk : ¬ k = 0 := by omega
  simp [ho, hac.ev hx, hac.ev hy, Instr.sliceAt, run_underlying ht, Instr.sureAddr, Instr.sliceBounds, run_sizeOf hs, run_bound hh.2, hk, Addr.add, Sem.run_bind]
theorem Stp.copyC (i : Nat) {c : Call} {dT sT d b j m cp sl sc : Nat} {oa : Option Addr} {cs : Array Value} {r : List UInt8} {T : TypeId} (ho : o.op = .call c) (hf : c.callee = .builtin .copy) (ha : c.args.toList.map L.ev = [Value.slice (some ⟨b, j, none⟩) m cp, Value.slice oa sl sc].map some)
    (hat : c.argTypes = #[dT, sT]) (hu : P.underlying dT = some (.slice e)) (hs : SZ P e 1) (hd : o.dst = some d) (hn : Nat.blt d n = true) (hS : St w0 w M O) (hi : nth O i = some (b, .cells cs T (0, 0)))
    (hr : r.length = Nat.min sl m) (h0 : 0 < r.length) {a : Addr} (hoa : oa = some a) (hcell : ∀ k, k < r.length → w.cell? (a.add k) = some (byte (r.getD k 0))) (hfit : j + r.length ≤ cs.size)
    (h : ∀ w', St w0 w' M (upd O i (.cells (cs.toList.take j ++ r.map byte ++ cs.toList.drop (j + r.length)).toArray T (0, 0))) → K ((d, .int .i64 (r.length : Int)) :: L) w') : Stp P n o L w K := by
  have hb := hS.get hi
  subst hoa
  have hrun := run_copy_row (P := P) w dT sT o.type e b j m cp a sl sc cs T (r.map byte) hu hs hb (by simpa using hr) (fun k v hk => by
    obtain ⟨hk1, hk2⟩ := List.getElem?_eq_some_iff.1 hk
    simp only [List.length_map] at hk1
    rw [hcell k hk1, ← hk2]
    simp [List.getD, hk1]) (by simpa using hfit) (by
      intro v hv
      simp only [List.mem_map] at hv
      obtain ⟨u, _, rfl⟩ := hv
      rfl)
  rw [List.length_map] at hrun
  exact Stp.resW hd hn (fun n a hfa => run_callB ho hf hfa ha fun cc => by
    simp only [builtin, hat, Sem.run_bind, hrun, Result.andThen_ok, Sem.run_pure]; simp [goInt]) (h _ (hS.put hi (put_setRow hb)))
theorem Stp.appendFit (i : Nat) {c : Call} {uT d b len cap : Nat} {X r : List UInt8} {s : Value} {T : TypeId} (ho : o.op = .call c) (hf : c.callee = .builtin .append) (ha : c.args.toList.map L.ev = [Value.slice (some ⟨b, 0, none⟩) len cap, s].map some)
    (hat : c.argTypes = #[t, uT]) (he : ET P t e (byte 0) 1 1) (hs : Src P w uT s r.length 1 (r.map byte)) (hS : St w0 w M O) (hi : nth O i = some (b, .cells (bs X) T (0, 0))) (hfit : len + r.length ≤ cap ∧ cap ≤ X.length)
    (hd : o.dst = some d) (hn : Nat.blt d n = true)
    (h : ∀ w', St w0 w' M (upd O i (.cells (bs (X.take len ++ r ++ X.drop (len + r.length))) T (0, 0))) → K ((d, .slice (some ⟨b, 0, none⟩) (len + r.length) cap) :: L) w') : Stp P n o L w K := by
  have hb := hS.get hi
  have hrun := run_append_fits (P := P) (ty := o.type) he hs hfit.1 hb (by simpa using hfit.2)
  have e0 : ((bs X).toList.take (len * 1) ++ r.map byte ++ (bs X).toList.drop (len * 1 + (r.map byte).length)).toArray = bs (X.take len ++ r ++ X.drop (len + r.length)) := by simp [bs]
  rw [e0] at hrun
  exact Stp.resW hd hn (fun n a hfa => run_callB ho hf hfa ha fun cc => by
    simp only [builtin, hat, Sem.run_bind, hrun, Result.andThen_ok, Sem.run_pure]) (h _ (hS.put hi (put_setRow hb)))
theorem zeroCells_byte (k : Nat) : (Builtin.zeroCells (byte 0).cells k).toList = (List.replicate k (0 : UInt8)).map byte := by
  apply List.ext_getElem
  · simp [Builtin.zeroCells, byte, Value.cells]
  · intro i h1 h2
    have : i % 1 = 0 := Nat.mod_one i
    simp [Builtin.zeroCells, byte, Value.cells, this]
theorem Stp.appendZFit (i : Nat) {c : Call} {uT d b len cap m : Nat} {X : List UInt8} {T : TypeId} (ho : o.op = .call c) (hf : c.callee = .builtin .append) (ha : c.args.toList.map L.ev = [Value.slice (some ⟨b, 0, none⟩) len cap, .int .i64 (m : Int)].map some)
    (hat : c.argTypes = #[t, uT]) (he : ET P t e (byte 0) 1 1) (hu : P.underlying uT = some (.int .i64)) (hS : St w0 w M O) (hi : nth O i = some (b, .cells (bs X) T (0, 0))) (hfit : len + m ≤ cap ∧ cap ≤ X.length) (hm : m ≤ 140737488355328)
    (hd : o.dst = some d) (hn : Nat.blt d n = true)
    (h : ∀ w', St w0 w' M (upd O i (.cells (bs (X.take len ++ List.replicate m 0 ++ X.drop (len + m))) T (0, 0))) → K ((d, .slice (some ⟨b, 0, none⟩) (len + m) cap) :: L) w') : Stp P n o L w K := by
  have hb := hS.get hi
  have hst := run_storeCells_at (P := P) b len T ((List.replicate m (0 : UInt8)).map byte) 0 (bs X) w hb (by simp; omega) (fun v hv => by
    simp only [List.mem_map] at hv
    obtain ⟨u, _, rfl⟩ := hv
    rfl)
  simp only [Nat.add_zero, List.length_map, List.length_replicate] at hst
  have e0 : ((bs X).toList.take len ++ (List.replicate m (0 : UInt8)).map byte ++ (bs X).toList.drop (len + m)).toArray = bs (X.take len ++ List.replicate m 0 ++ X.drop (len + m)) := by simp [bs]
  rw [e0] at hst
  cases hq : P.info? e with
  | none => have := he.ie; simp [hq] at this
  | some i' =>
    have hie := he.ie
    simp only [hq, Option.map_some, Option.some.injEq, Prod.mk.injEq] at hie
    obtain ⟨hz1, hz2, hz3⟩ := hie
    have hw64 : IntKind.i64.wrap (m : Int) = (m : Int) := wrap_i64 (by omega)
    have hbig : ¬ ((281474976710656 : Int) < (m : Int)) := by omega
    have hneg : ¬ ((m : Int) < 0) := by omega
    have hzc := zeroCells_byte m
    have hrun : (Builtin.append_ #[t, uT] o.type #[.slice (some ⟨b, 0, none⟩) len cap, .int .i64 (m : Int)]).run P w = .ok (.slice (some ⟨b, 0, none⟩) (len + m) cap) (w.setRow b (bs (X.take len ++ List.replicate m 0 ++ X.drop (len + m)))) := by
      by_cases h0 : m = 0
      · subst h0
        have e1 : X.take len ++ List.replicate 0 0 ++ X.drop (len + 0) = X := by simp
        rw [e1]
        have e2 : w.setRow b (bs X) = w := by
          have h1 := run_storeCells_at (P := P) b len T [] 0 (bs X) w hb (by simp; omega) (fun v hv => by cases hv)
          simp [storeCells] at h1
          exact h1.symm
        have e3 : IntKind.i64.wrap 0 = 0 := by decide
        have e4 : len ≤ cap := by omega
        simp [Builtin.append_, run_underlying he.ut, run_underlying hu, sizeOf, typeInfo, hq, hz2, hz3, asInt, asIntOf, e3, e4, storeCells, addr_add]
        exact e2.symm
      · have hst2 := hst
        simp only [List.map_replicate, List.append_assoc] at hst2
        simp [Builtin.append_, run_underlying he.ut, run_underlying hu, sizeOf, typeInfo, zeroValue, hq, hz1, hz2, hz3, asInt, asIntOf, hw64, hbig, hneg, hfit.1, h0, hzc, addr_add, hst2]
    exact Stp.resW hd hn (fun n a hfa => run_callB ho hf hfa ha fun cc => by
      simp only [builtin, hat, Sem.run_bind, hrun, Result.andThen_ok, Sem.run_pure]) (h _ (hS.put hi (put_setRow hb)))
end
end Go.E
set_option linter.unusedVariables false
set_option linter.unusedSimpArgs false
namespace Go.E
open Go
def Gb (l : List UInt8) (rest : List Value) : Array Value := (l.map byte ++ rest).toArray
@[simp] theorem Gb_size (l : List UInt8) (rest : List Value) : (Gb l rest).size = l.length + rest.length := by simp [Gb]
theorem Gb_get {l : List UInt8} {rest : List Value} {j : Nat} (h : j < l.length) : (Gb l rest)[j]? = some (byte (l.getD j 0)) := by
  simp [Gb, List.getElem?_append, h, List.getD]
theorem Gb_part {x y z : List UInt8} {rest : List Value} {j : Nat} (h : j < y.length) : (Gb (x ++ y ++ z) rest)[x.length + j]? = some (byte (y.getD j 0)) := by
  rw [Gb_get (by simp; omega)]
  congr 2
  simp [List.getD, List.getElem?_append, h, show ¬ x.length + j < x.length by omega]
theorem Gb_copy (x y z : List UInt8) (rest : List Value) (r : List UInt8) (h : r.length = y.length) :
    ((Gb (x ++ y ++ z) rest).toList.take x.length ++ r.map byte ++ (Gb (x ++ y ++ z) rest).toList.drop (x.length + r.length)).toArray = Gb (x ++ r ++ z) rest := by
  have e1 : (Gb (x ++ y ++ z) rest).toList = x.map byte ++ (y.map byte ++ (z.map byte ++ rest)) := by simp [Gb]
  have e2 : x.length = (x.map byte).length := by simp
  have e3 : x.length + r.length = (x.map byte ++ y.map byte).length := by simp [h]
  rw [e1, e3, ← List.append_assoc (x.map byte) (y.map byte), List.drop_left, List.append_assoc (x.map byte) (y.map byte), e2, List.take_left]
  simp [Gb]
section
variable {P : Program} {w0 w : World} {M : PH} {O g : Owned} {e : TypeId}
theorem OwnB.gb {n0 : Nat} {v : Value} {l : List UInt8} (h : OwnB n0 g v l e) (h0 : 0 < l.length) : ∃ b rest cap, n0 ≤ b ∧ v = .slice (Option.some ⟨b, 0, none⟩) l.length cap ∧ g = [(b, .cells (Gb l rest) e (0, 0))] ∧ l.length + rest.length = cap ∧ cap ≤ 9223372036854775807 := by
  obtain ⟨h1, ⟨_, h3, _⟩ | ⟨b, cs, cap, rfl, hb, rfl, hcs, hm, hcap, ht⟩⟩ := h
  · omega
  · have e1 : cs = Gb l (cs.toList.drop l.length) := by
      apply Array.toList_inj.1
      rw [Gb]
      rw [Nat.mul_one] at ht
      rw [← ht]
      simp
    refine ⟨b, cs.toList.drop l.length, cap, hb, rfl, by rw [← e1], ?_, hcap⟩
    simp; omega
theorem OwnB.ofGb {n0 b cap : Nat} {l : List UInt8} {rest : List Value} (hb : n0 ≤ b) (hc : l.length + rest.length = cap) (hcap : cap ≤ 9223372036854775807) : OwnB n0 [(b, .cells (Gb l rest) e (0, 0))] (.slice (Option.some ⟨b, 0, none⟩) l.length cap) l e := by
  refine ⟨by simp, .inr ⟨b, _, cap, rfl, hb, rfl, by simp; omega, by omega, hcap, ?_⟩⟩
  simp [Gb]
theorem OwnB.ofGbTake {n0 b cap k : Nat} {l : List UInt8} {rest : List Value} (hb : n0 ≤ b) (hc : l.length + rest.length = cap) (hcap : cap ≤ 9223372036854775807) (hk : k ≤ l.length) : OwnB n0 [(b, .cells (Gb l rest) e (0, 0))] (.slice (Option.some ⟨b, 0, none⟩) k cap) (l.take k) e := by
  have e1 : Gb l rest = Gb (l.take k) ((l.drop k).map byte ++ rest) := by
    apply Array.toList_inj.1
    simp only [Gb, List.toList_toArray, ← List.append_assoc, ← List.map_append, List.take_append_drop]
  have e2 : (l.take k).length = k := by simp; omega
  have h := OwnB.ofGb (e := e) (cap := cap) (l := l.take k) (rest := (l.drop k).map byte ++ rest) hb (by simp; omega) hcap
  rw [e2] at h
  rw [e1]
  exact h
theorem Bs.ofGb {b cap k : Nat} {l : List UInt8} {rest : List Value} {T : TypeId} {fr : Nat × Nat} (h : M b = some (.cells (Gb l rest) T fr)) (hk : k ≤ l.length) (hc : k ≤ cap) (hcap : cap ≤ 9223372036854775807) : Bs M (.slice (some ⟨b, 0, none⟩) k cap) (l.take k) := by
  have e2 : (l.take k).length = k := by simp; omega
  refine ⟨_, cap, by rw [e2], by rw [e2]; exact hc, hcap, (fun e => by cases e), fun j hj => ⟨b, 0, rfl, ?_⟩⟩
  rw [e2] at hj
  rw [Nat.zero_add]
  refine PH.cell_of h ?_
  rw [Gb_get (by omega)]
  congr 2
  simp only [List.getD, List.getElem?_take]
  rw [if_pos hj]
end
theorem fq_noneR {P : Program} {n : Nat} {fn : Func} {R : Value → World → Prop} {L : Env} {w : World} (hr : fn.results = #[]) (h : R (.tuple #[]) w) : FQ P n fn R .ret L w :=
  ⟨_, fun a ha => by simp [results, hr], h⟩
end Go.E
set_option linter.unusedVariables false
set_option linter.unusedSimpArgs false
namespace Go.E
open Go
section
variable {P : Program} {n : Nat} {L : Env} {w0 w : World} {M : PH} {O g : Owned} {o : Oper} {x y : Operand} {t t2 e : TypeId} {K : Env → World → Prop} {a b : UInt32}
def c64 (x : UInt32) : Value := .int .u64 (x.toNat : Int)
def cs64 (l : List UInt32) : Array Value := (l.map c64).toArray
@[simp] theorem size_cs64 (l : List UInt32) : (cs64 l).size = l.length := by simp [cs64]
theorem lt64 (a : UInt32) : a.toNat < 18446744073709551616 := by have := a.toNat_lt; omega
theorem Res.andC (ho : o.op = .binOp .and t x y t2) (hx : L.ev x = some (c64 a)) (hy : L.ev y = some (c64 b)) : Res P o L w (c64 (a &&& b)) := Res.cast (Res.andU uk64 ho hx hy ⟨lt64 a, lt64 b⟩) (by rw [c64, UInt32.toNat_and])
theorem Res.xorC (ho : o.op = .binOp .xor t x y t2) (hx : L.ev x = some (c64 a)) (hy : L.ev y = some (c64 b)) : Res P o L w (c64 (a ^^^ b)) := Res.cast (Res.xorU uk64 ho hx hy ⟨lt64 a, lt64 b⟩) (by rw [c64, UInt32.toNat_xor])
theorem Res.comC (ho : o.op = .binOp .sub t x y t2) (hx : L.ev x = some (.int .u64 4294967295)) (hy : L.ev y = some (c64 b)) : Res P o L w (c64 (~~~ b)) :=
  Res.cast (Res.subU (a := 4294967295) (b := b.toNat) uk64 ho hx hy ⟨by have := b.toNat_lt; omega, by decide⟩) (by
    rw [c64, UInt32.toNat_not]; congr 2)
end
end Go.E
namespace Go.Sha
theorem ror_sum (x : UInt32) {k : Nat} (h0 : 0 < k) (h1 : k < 32) : x.toNat / 2 ^ k + (x.toNat * 2 ^ (32 - k)) % 4294967296 = (ror x k).toNat := by
  have hx := x.toNat_lt
  have e : 2 ^ (32 - k) * 2 ^ k = 4294967296 := by rw [← Nat.pow_add, show 32 - k + k = 32 by omega]
  have hd : x.toNat / 2 ^ k < 2 ^ (32 - k) := by
    rw [Nat.div_lt_iff_lt_mul (Nat.two_pow_pos k), e]; exact hx
  have hd2 : x.toNat / 2 ^ k < 4294967296 := Nat.lt_of_le_of_lt (Nat.div_le_self _ _) hx
  have em : (x.toNat * 2 ^ (32 - k)) % 4294967296 = 2 ^ (32 - k) * (x.toNat % 2 ^ k) := by
    rw [Nat.mul_comm, ← e, Nat.mul_mod_mul_left]
  rw [ror, shl, shr, UInt32.toNat_or, UInt32.toNat_ofNat', UInt32.toNat_ofNat', Nat.mod_eq_of_lt hd2]
  show _ = (x.toNat * 2 ^ (32 - k)) % 4294967296 ||| _
  rw [em, ← Nat.two_pow_add_eq_or_of_lt hd, Nat.add_comm]
theorem add32 (a b : UInt32) : UInt32.ofNat (a.toNat + b.toNat) = a + b := by
  rw [UInt32.ofNat_add, UInt32.ofNat_toNat, UInt32.ofNat_toNat]
theorem word_sum (a b c d : UInt8) : a.toNat * 16777216 + b.toNat * 65536 + c.toNat * 256 + d.toNat = (shl (up a) 24 ||| shl (up b) 16 ||| shl (up c) 8 ||| up d).toNat := by
  have ha := a.toNat_lt; have hb := b.toNat_lt; have hc := c.toNat_lt; have hd := d.toNat_lt
  have hu : ∀ z : UInt8, (up z).toNat = z.toNat := fun z => by
    have := z.toNat_lt
    rw [up, UInt32.toNat_ofNat', Nat.mod_eq_of_lt (by omega)]
  simp only [UInt32.toNat_or, shl, UInt32.toNat_ofNat', hu]
  rw [Nat.mod_eq_of_lt (a := a.toNat * 2 ^ 24) (by omega), Nat.mod_eq_of_lt (a := b.toNat * 2 ^ 16) (by omega), Nat.mod_eq_of_lt (a := c.toNat * 2 ^ 8) (by omega)]
  have e1 : a.toNat * 2 ^ 24 ||| b.toNat * 2 ^ 16 = a.toNat * 2 ^ 24 + b.toNat * 2 ^ 16 := by
    rw [Nat.mul_comm a.toNat, Nat.two_pow_add_eq_or_of_lt (i := 24) (by omega)]
  have e2 : (a.toNat * 2 ^ 24 + b.toNat * 2 ^ 16) ||| c.toNat * 2 ^ 8 = a.toNat * 2 ^ 24 + b.toNat * 2 ^ 16 + c.toNat * 2 ^ 8 := by
    rw [show a.toNat * 2 ^ 24 + b.toNat * 2 ^ 16 = 2 ^ 16 * (a.toNat * 2 ^ 8 + b.toNat) by omega, Nat.two_pow_add_eq_or_of_lt (i := 16) (by omega)]
  have e3 : (a.toNat * 2 ^ 24 + b.toNat * 2 ^ 16 + c.toNat * 2 ^ 8) ||| d.toNat = a.toNat * 2 ^ 24 + b.toNat * 2 ^ 16 + c.toNat * 2 ^ 8 + d.toNat := by
    rw [show a.toNat * 2 ^ 24 + b.toNat * 2 ^ 16 + c.toNat * 2 ^ 8 = 2 ^ 8 * (a.toNat * 2 ^ 16 + b.toNat * 2 ^ 8 + c.toNat) by omega, Nat.two_pow_add_eq_or_of_lt (i := 8) (by omega)]
  rw [e1, e2, e3]
end Go.Sha
set_option linter.unusedVariables false
set_option linter.unusedSimpArgs false
namespace Go.E
open Go
section
variable {P : Program} {n : Nat} {L : Env} {w0 w : World} {M : PH} {O g : Owned} {o : Oper} {x y : Operand} {t t2 e : TypeId} {K : Env → World → Prop} {v u : Value}
variable {ms : Array (String × TypeId)} {tp tq : TypeId}
theorem Res.neqNN (ho : o.op = .binOp .neq t x (.const .nilIface) t2) (hx : L.ev x = some .nilIface) (hi : P.underlying t = some (.interface ms)) : Res P o L w (.bool false) := fun n c hc =>
  run_bin ho (hc.ev hx) (hc.ev (x := .const .nilIface) (v := .nilIface) rfl) (by simp [eqGuard]) (by
    have h : ∀ d : Nat, (Op.equalIn (d + 1) t .nilIface .nilIface).run P w = .ok true w := fun d => by simp [Op.equalIn, run_underlying hi]
    simp only [binOp]
    simp [Op.equal, Op.maxDepth, h 9999])
theorem Res.neqIN (ho : o.op = .binOp .neq t x (.const .nilIface) t2) (hx : L.ev x = some (.iface tp v)) (hi : P.underlying t = some (.interface ms)) : Res P o L w (.bool true) := fun n c hc =>
  run_bin ho (hc.ev hx) (hc.ev (x := .const .nilIface) (v := .nilIface) rfl) (by simp [eqGuard]) (by
    have h : ∀ d : Nat, (Op.equalIn (d + 1) t (.iface tp v) .nilIface).run P w = .ok false w := fun d => by simp [Op.equalIn, run_underlying hi]
    simp only [binOp]
    simp [Op.equal, Op.maxDepth, h 9999])
end
theorem fq_tmp3 {P : Program} {n : Nat} {fn : Func} {R : Value → World → Prop} {L : Env} {w : World} {t t' t'' : Nat} {v v' v'' : Value} (hr : fn.results = #[.tmp t, .tmp t', .tmp t'']) (hv : L.get t = some v) (hv' : L.get t' = some v') (hv'' : L.get t'' = some v'') (h : R (.tuple #[v, v', v'']) w) : FQ P n fn R .ret L w :=
  ⟨_, fun a ha => by simp [results, hr, ha.has t v hv, ha.has t' v' hv', ha.has t'' v'' hv''], h⟩
end Go.E
namespace Go.E
open Go
end Go.E
set_option linter.unusedVariables false
set_option linter.unusedSimpArgs false
namespace Go.E
open Go
section
variable {P : Program} {n : Nat} {ops : Array Oper} {Q : Post} {S : World → Prop} {fuel : Nat} {listed : Array Bool} {L : Env} {w : World} {o : Oper}
theorem AL.three (i j k : Nat) {oj ok : Oper} (hi : ops[i]? = some o) (hj : ops[j]? = some oj) (hk : ops[k]? = some ok) (hr : Region.ready .any ops listed = [i, j, k]) (hgi : Wan n ops o L) (hgj : Wan n ops oj L) (hgk : Wan n ops ok L)
    (h1 : Stp P n o L w (fun L' w' => S w' ∧ AL P n ops Q S fuel (listed.setIfInBounds i true) L' w'))
    (h2 : Stp P n oj L w (fun L' w' => S w' ∧ AL P n ops Q S fuel (listed.setIfInBounds j true) L' w'))
    (h3 : Stp P n ok L w (fun L' w' => S w' ∧ AL P n ops Q S fuel (listed.setIfInBounds k true) L' w')) : AL P n ops Q S (fuel + 1) listed L w := fun a ha => by
  refine wpAnyH_all hr (by simp) fun m hm => ?_
  simp only [List.mem_cons, List.not_mem_nil, or_false] at hm
  rcases hm with rfl | rfl | rfl
  · unfold wpOp
    simp only [hi]
    rw [if_pos (hgi a ha)]
    exact .inl (Oper.wp_mono' (h1 a ha _) fun a' w' ⟨L', hf, hk⟩ => ⟨hk.1, hk.2 a' hf⟩)
  · unfold wpOp
    simp only [hj]
    rw [if_pos (hgj a ha)]
    exact .inl (Oper.wp_mono' (h2 a ha _) fun a' w' ⟨L', hf, hk⟩ => ⟨hk.1, hk.2 a' hf⟩)
  · unfold wpOp
    simp only [hk]
    rw [if_pos (hgk a ha)]
    exact .inl (Oper.wp_mono' (h3 a ha _) fun a' w' ⟨L', hf, hk⟩ => ⟨hk.1, hk.2 a' hf⟩)
end
def Vs (M : PH) (v : Value) (xs : List Value) : Prop :=
  ∃ (a : Option Addr) (cap : Nat), v = .slice a xs.length cap ∧ xs.length ≤ cap ∧ cap ≤ 9223372036854775807 ∧ (a = none → cap = 0) ∧
    ∀ j x, xs[j]? = some x → ∃ b off, a = some ⟨b, off, none⟩ ∧ M.cell b (off + j) = some x
section
variable {P : Program} {n : Nat} {L : Env} {w0 w : World} {M M' : PH} {O g : Owned} {o : Oper} {x y : Operand} {t t2 e : TypeId} {K : Env → World → Prop} {v u : Value} {xs : List Value}
theorem Vs.mono (h : M.le M') (hv : Vs M v xs) : Vs M' v xs := by
  obtain ⟨a, cap, h1, h2, h3, h4, h5⟩ := hv
  exact ⟨a, cap, h1, h2, h3, h4, fun j x hj => by
    obtain ⟨b, off, e1, e2⟩ := h5 j x hj
    exact ⟨b, off, e1, PH.cell_mono h e2⟩⟩
theorem Vs.nil (M : PH) : Vs M (.slice none 0 0) [] := ⟨none, 0, rfl, Nat.le_refl _, by omega, fun _ => rfl, fun j x hj => by simp at hj⟩
theorem Vs.of {b k : Nat} {cs : Array Value} {T : TypeId} {fr : Nat × Nat} (h : M b = some (.cells cs T fr)) (hc : cs.toList = xs) (hk : xs.length = k) (hl : k ≤ 9223372036854775807) : Vs M (.slice (some ⟨b, 0, none⟩) k k) xs := by
  subst hk
  exact ⟨_, _, rfl, Nat.le_refl _, hl, (fun e => by cases e), fun j x hj => ⟨b, 0, rfl, by
    rw [Nat.zero_add]
    exact PH.cell_of h (by rw [← hc] at hj; simpa using hj)⟩⟩
theorem Vs.at (h : Vs M v xs) (h0 : 0 < xs.length) : ∃ b off cap, v = .slice (some ⟨b, off, none⟩) xs.length cap ∧ xs.length ≤ cap ∧ cap ≤ 9223372036854775807 ∧ ∀ j x, xs[j]? = some x → M.cell b (off + j) = some x := by
  obtain ⟨a, cap, h1, h2, h3, h4, h5⟩ := h
  obtain ⟨b, off, rfl, _⟩ := h5 0 xs[0] (List.getElem?_eq_getElem h0)
  refine ⟨b, off, cap, h1, h2, h3, fun j x hj => ?_⟩
  obtain ⟨b', off', e1, e2⟩ := h5 j x hj
  simp only [Option.some.injEq, Addr.mk.injEq] at e1
  obtain ⟨rfl, rfl, _⟩ := e1
  exact e2
theorem Src.ofVs (hu : P.underlying t = some (.slice e)) (hS : St w0 w M O) (hb : Vs M v xs) (h1 : ∀ x ∈ xs, x.oneCell' = true) : Src P w t v xs.length 1 xs := by
  obtain ⟨a, cap, rfl, h2, h3, h4, h5⟩ := hb
  by_cases h0 : xs.length = 0
  · have hx : xs = [] := List.eq_nil_of_length_eq_zero h0
    subst hx
    cases a with
    | none =>
      have := h4 rfl
      subst this
      exact Src.nil hu
    | some a => exact Src.slice (a := a) hu (by simp) (fun j v hj => by simp at hj) h1
  · obtain ⟨b, off, rfl, _⟩ := h5 0 xs[0] (List.getElem?_eq_getElem (by omega))
    refine Src.slice hu (by simp) (fun j v hj => ?_) h1
    obtain ⟨b', off', e1, e2⟩ := h5 j v hj
    simp only [Option.some.injEq, Addr.mk.injEq] at e1
    obtain ⟨rfl, rfl, _⟩ := e1
    rw [addr_add]
    exact hS.cell e2
theorem Own.vs {n0 m : Nat} (h : Own n0 g v m 1 xs e) (h0 : 0 < m) : ∃ (b : Nat) (cs : Array Value) (cap : Nat), n0 ≤ b ∧ v = .slice (some ⟨b, 0, none⟩) m cap ∧ g = [(b, .cells cs e (0, 0))] ∧ xs.length = m ∧ m ≤ cap ∧ cap ≤ 9223372036854775807 ∧ ∀ (j : Nat) (x : Value), xs[j]? = some x → cs[j]? = some x := by
  obtain ⟨h1, ⟨_, h2, _⟩ | ⟨b, cs, cap, rfl, hb, rfl, hcs, hm, hcap, ht⟩⟩ := h
  · omega
  · refine ⟨b, cs, cap, hb, rfl, rfl, by omega, hm, hcap, fun j x hj => ?_⟩
    have hjl := (List.getElem?_eq_some_iff.1 hj).1
    rw [← ht, List.getElem?_take] at hj
    split at hj
    · simpa using hj
    · cases hj
theorem Own.give {m : Nat} (h : Own w0.heap.size g v m 1 xs e) (hS : St w0 w M (g ++ O)) : ∃ M', St w0 w M' O ∧ Grow w0.heap.size M M' ∧ Vs M' v xs := by
  by_cases h0 : 0 < m
  · obtain ⟨b, cs, cap, hb, rfl, rfl, hl, hm, hcap, hc⟩ := h.vs h0
    have hF := hS.freezeG (i := 0) rfl hb
    exact ⟨_, hF.1, hF.2, _, cap, by rw [hl], by omega, hcap, (fun e => by cases e), fun j x hj => ⟨b, 0, rfl, by
      rw [Nat.zero_add]
      exact PH.cell_of (PH.add_self _ _ _) (hc j x hj)⟩⟩
  · obtain ⟨h1, ⟨rfl, h2, rfl⟩ | ⟨b, cs, cap, rfl, hb, rfl, hcs, hm, hcap, ht⟩⟩ := h
    · have hx : xs = [] := List.eq_nil_of_length_eq_zero (by omega)
      subst hx
      exact ⟨M, hS, Grow.refl _ _, Vs.nil _⟩
    · have hm0 : m = 0 := by omega
      subst hm0
      have hx : xs = [] := List.eq_nil_of_length_eq_zero (by omega)
      subst hx
      have hF := hS.freezeG (i := 0) rfl hb
      exact ⟨_, hF.1, hF.2, _, cap, rfl, Nat.zero_le _, hcap, (fun e => by cases e), fun j x hj => by simp at hj⟩
end
end Go.E
namespace Go.Sha
theorem ofN_mod (m : Nat) : UInt32.ofNat (m % 18446744073709551616) = UInt32.ofNat m := by
  apply UInt32.toNat_inj.1
  rw [UInt32.toNat_ofNat', UInt32.toNat_ofNat']
  omega
theorem ofN_toNat (x : UInt32) : UInt32.ofNat x.toNat = x := UInt32.ofNat_toNat
end Go.Sha
set_option linter.unusedVariables false
set_option linter.unusedSimpArgs false
namespace Go.E
open Go
section
variable {P : Program} {n : Nat} {L : Env} {w0 w : World} {M : PH} {O g : Owned} {o : Oper} {x y : Operand} {t t2 e : TypeId} {K : Env → World → Prop} {v u : Value}
theorem Stp.s2b {d : Nat} {l : List UInt8} {s : TypeId} {ud : TypeDesc} (ho : o.op = .convert s t x) (hx : L.ev x = some (str l)) (hs : P.underlying s = some ud) (ht : P.underlying t = some (.slice e)) (he : P.underlying e = some (.int .u8)) (hl : l.length ≤ 140737488355328)
    (hS : St w0 w M O) (hd : o.dst = some d) (hn : Nat.blt d n = true)
    (h : ∀ w' v M', St w0 w' M' O → Grow w0.heap.size M M' → Bs M' v l → K ((d, v) :: L) w') : Stp P n o L w K := by
  have hrun := Lib.run_convert_string_bytes (P := P) w s t e ⟨l.toArray⟩ hs ht he
  have hz : (⟨l.toArray⟩ : ByteArray).size = l.length := by simp [ByteArray.size]
  have hge : l.length ≤ grownCap w l.length 0 e := grownCap_ge w _ _ e
  have hle : grownCap w l.length 0 e ≤ 9223372036854775807 := by
    have := grownCap_le_maxLen w l.length 0 e (by unfold maxLen; omega)
    unfold maxLen at this; omega
  have hSa := hS.drew.alloc (.cells (Lib.bytesCells w e ⟨l.toArray⟩) e (0, 0))
  have hb := hSa.get (i := 0) (b := w.heap.size) rfl
  have hp : Put (w.drew.alloc (.cells (Lib.bytesCells w e ⟨l.toArray⟩) e (0, 0))) (Lib.bytesWorld w e ⟨l.toArray⟩) w.heap.size (.cells (Lib.bytesCells w e ⟨l.toArray⟩) e ((Lib.bytesCells w e ⟨l.toArray⟩).size, (Lib.bytesCells w e ⟨l.toArray⟩).size + 1)) := by
    refine ⟨rfl, rfl, rfl, ?_, ?_, fun k hk => ?_⟩
    · simp [Lib.bytesWorld, World.freeze]
    · exact Lib.bytesWorld_at_new w e _
    · simp [Lib.bytesWorld, World.freeze, Array.getElem?_modify, Ne.symm hk]
  have hS2 := hSa.put (i := 0) (b := w.heap.size) rfl hp
  have hF := hS2.freezeG (i := 0) (b := w.heap.size) rfl hS.size
  rw [hz] at hrun
  refine Stp.resW (v := .slice (some ⟨w.heap.size, 0, none⟩) l.length (grownCap w l.length 0 e)) (w' := Lib.bytesWorld w e ⟨l.toArray⟩) hd hn (fun n a ha => by
    unfold execOp
    simp only [ho, ha.ev hx, Sem.run_bind, str, hrun, Result.andThen_ok, Sem.run_pure]) (h _ _ _ hF.1 hF.2 ?_)
  refine ⟨_, _, rfl, hge, hle, (fun e => by cases e), fun j hj => ⟨w.heap.size, 0, rfl, ?_⟩⟩
  rw [Nat.zero_add]
  refine PH.cell_of (PH.add_self _ _ _) ?_
  simp only [Lib.bytesCells]
  rw [Array.getElem?_append_left (by simpa using hj)]
  simp [byte, List.getD, hj]
theorem OwnB.slice {n0 : Nat} {l : List UInt8} (h : OwnB n0 g v l e) : ∃ a cap, v = .slice a l.length cap ∧ l.length ≤ cap ∧ cap ≤ 9223372036854775807 := by
  obtain ⟨h1, ⟨rfl, h3, _⟩ | ⟨b, cs, cap, rfl, hb, rfl, hcs, hm, hcap, ht⟩⟩ := h
  · exact ⟨none, 0, by rw [h3], by omega, by omega⟩
  · exact ⟨_, _, rfl, hm, hcap⟩
theorem Bs.one {M : PH} {v : Value} {l : List UInt8} (h : Bs M v l) : v.oneCell' = true := by
  obtain ⟨a, cap, rfl, _⟩ := h
  rfl
def Bl (M : PH) (xs : List Value) (f : Nat → List UInt8) (m : Nat) : Prop := xs.length = m ∧ ∀ j, j < m → ∃ y, xs[j]? = some y ∧ Bs M y (f j)
theorem Bl.mono {M M' : PH} {xs : List Value} {f : Nat → List UInt8} {m : Nat} (h : M.le M') (hb : Bl M xs f m) : Bl M' xs f m := ⟨hb.1, fun j hj => by
  obtain ⟨y, h1, h2⟩ := hb.2 j hj
  exact ⟨y, h1, h2.mono h⟩⟩
theorem Bl.nil (M : PH) (f : Nat → List UInt8) : Bl M [] f 0 := ⟨rfl, fun j hj => by omega⟩
theorem Bl.snoc {M : PH} {xs : List Value} {f : Nat → List UInt8} {m : Nat} {y : Value} (hb : Bl M xs f m) (hy : Bs M y (f m)) : Bl M (xs ++ [y]) f (m + 1) := by
  refine ⟨by simp [hb.1], fun j hj => ?_⟩
  by_cases e : j = m
  · subst e
    exact ⟨y, by rw [List.getElem?_append_right (by rw [hb.1]; exact Nat.le_refl _), hb.1]; simp, hy⟩
  · obtain ⟨z, h1, h2⟩ := hb.2 j (by omega)
    exact ⟨z, by rw [List.getElem?_append_left (by rw [hb.1]; omega)]; exact h1, h2⟩
theorem own_nil0 (n0 b : Nat) (e : TypeId) (h : n0 ≤ b) : Own n0 [(b, .cells #[] e (0, 0))] (.slice (some ⟨b, 0, none⟩) 0 0) 0 1 [] e := ⟨rfl, .inr ⟨b, #[], 0, rfl, h, rfl, rfl, Nat.le_refl _, by omega, rfl⟩⟩
end
end Go.E
set_option linter.unusedVariables false
namespace Go.E
open Go
section
variable {P : Program} {ops : Array Oper} {C : Exit → Act → World → Prop} {S : World → Prop} {z : List Nat}
theorem anyZ_firstP {i : Nat} {oi : Oper} {v : Value} (hi : ops[i]? = some oi) (hzi : i ∈ z) (hsel : ∀ (j : Nat) (o : Oper) cs b, ops[j]? = some o → o.op ≠ .select cs b)
    (hC : ∀ c a w, C (.panic c) (a.put oi.dst v) w → C (.panic c) a w) : ∀ (f : Nat) (listed : Array Bool) (a : Act) (w : World),
    (∀ j oj, ops[j]? = some oj → j ≠ i → listed.getD j true = false → (∀ e ∈ oj.after, Region.binds .any e = true → e.on ≠ i) → oi.apart ops oj = true) →
    i ∈ Region.ready .any ops listed → YieldsIf P ops (fun _ => True) oi v a →
    anyZ P ops C S z f (listed.setIfInBounds i true) (a.put oi.dst v) w → anyZ P ops C S z (f + 1) listed a w := by
  intro f
  induction f with
  | zero =>
    intro listed a w _ hr hy H
    refine ⟨fun h => (by rw [h] at hr; cases hr), fun j hj => ?_⟩
    by_cases hji : j = i
    · subst hji; exact hy.wpOp hi trivial ⟨fun e => absurd hzi e, H⟩
    · have := ready_mono hj hji
      rw [H.1] at this
      cases this
  | succ f ih =>
    intro listed a w hfree hr hy H
    refine ⟨fun h => (by rw [h] at hr; cases hr), fun j hj => ?_⟩
    by_cases hji : j = i
    · subst hji; exact hy.wpOp hi trivial ⟨fun e => absurd hzi e, H⟩
    · obtain ⟨hjun, oj, hoj, hall⟩ := mem_ready.1 hj
      have hiun := unlisted (mem_ready.1 hr).1
      have hnot : ∀ e ∈ oj.after, Region.binds .any e = true → e.on ≠ i := fun e he hb heq => by
        have h1 := hall e he hb
        rw [heq, hiun] at h1
        cases h1
      have h2 := wpOp_putIf hoj (hfree j oj hoj hji hjun hnot) (fun cs b => hsel i oi cs b hi) (fun cs b => hsel j oj cs b hoj) hC hy (H.2 j (ready_mono hj hji))
      have hfree' : ∀ k ok, ops[k]? = some ok → k ≠ i → (listed.setIfInBounds j true).getD k true = false → (∀ e ∈ ok.after, Region.binds .any e = true → e.on ≠ i) → oi.apart ops ok = true := fun k ok hk hki hun hno => by
        refine hfree k ok hk hki ?_ hno
        by_cases hjk : j = k
        · subst hjk; exact hjun
        · rw [getD_set_ne true hjk] at hun; exact hun
      refine wpOp_mono (fun a' w' h3 => ⟨h3.2.1, ih (listed.setIfInBounds j true) a' w' hfree' (ready_mono hr (Ne.symm hji)) h3.1 ?_⟩) h2
      rw [Array.setIfInBounds_comm _ _ hji]
      exact h3.2.2
def takeP (ops : Array Oper) (z : List Nat) (listed : Array Bool) (i : Nat) : Bool :=
  Region.noSelect ops && (Region.free .any ops listed i && ((Region.ready .any ops listed).contains i && z.contains i))
end
section
variable {P : Program} {n : Nat} {ops : Array Oper} {Q : Post} {S : World → Prop} {z : List Nat} {f : Nat} {listed : Array Bool} {L : Env} {w : World} {o : Oper}
theorem ZL.takeP {v : Value} {d : Nat} (i : Nat) (hi : ops[i]? = some o) (hc : takeP ops z listed i = true) (hg : o.guard = none) (hd : o.dst = some d) (hn : Nat.blt d n = true) (h : ∀ w, Res P o L w v)
    (k : ZL P n ops Q S z f (listed.setIfInBounds i true) ((d, v) :: L) w) : ZL P n ops Q S z (f + 1) listed L w := fun a ha => by
  simp only [Go.E.takeP, Bool.and_eq_true] at hc
  obtain ⟨h1, h2, h3, h4⟩ := hc
  refine anyZ_firstP (v := v) hi (by simpa using h4) (Region.noSelect_spec h1) (fun _ _ _ h => h) f listed a w (Region.free_spec hi h2) (by simpa using h3) (.inl ⟨by simp [Region.wanted, hg], fun w _ => h w n a ha⟩) ?_
  rw [hd]
  exact k _ (ha.put (blt_lt hn) v)
end
end Go.E
set_option linter.unusedVariables false
set_option linter.unusedSimpArgs false
namespace Go.E
open Go
section
variable {P : Program} {n : Nat} {L : Env} {w0 w : World} {M M' : PH} {O g : Owned} {o : Oper} {x y : Operand} {t t2 e : TypeId} {K : Env → World → Prop} {v u : Value} {kk : IntKind} {a s : Nat}
def Ft (M : PH) (v : Value) (ls : List (List UInt8)) : Prop :=
  ∃ fb fc, v = .slice (some ⟨fb, 0, none⟩) ls.length fc ∧ ls.length ≤ fc ∧ fc ≤ 9223372036854775807 ∧
    ∀ j, j < ls.length → ∃ a len cap, M.cell fb (2 * j) = some (.int .i64 ((j + 1 : Nat) : Int)) ∧ M.cell fb (2 * j + 1) = some (.slice a len cap) ∧ Bs M (.slice a len cap) (ls.getD j [])
theorem Ft.mono {ls : List (List UInt8)} (h : M.le M') (hv : Ft M v ls) : Ft M' v ls := by
  obtain ⟨fb, fc, h1, h2, h3, h4⟩ := hv
  exact ⟨fb, fc, h1, h2, h3, fun j hj => by
    obtain ⟨a, len, cap, e1, e2, e3⟩ := h4 j hj
    exact ⟨a, len, cap, PH.cell_mono h e1, PH.cell_mono h e2, e3.mono h⟩⟩
theorem Src.blk {b m c sz : Nat} {cs : Array Value} {T : TypeId} {fr : Nat × Nat} (hu : P.underlying t = some (.slice e)) (hS : St w0 w M O) (hb : M b = some (.cells cs T fr)) (hl : cs.toList.length = m * sz) (h1 : ∀ x ∈ cs.toList, x.oneCell' = true) : Src P w t (.slice (some ⟨b, 0, none⟩) m c) m sz cs.toList :=
  Src.slice hu hl (fun j v hj => by
    rw [addr_add, Nat.zero_add]
    exact hS.cell (PH.cell_of hb (by simpa using hj))) h1
theorem Own.open2 {n0 m sz : Nat} {xs : List Value} (h : Own n0 g v m sz xs e) (h0 : 0 < m) : ∃ (b : Nat) (cs : Array Value) (cap : Nat), n0 ≤ b ∧ v = .slice (some ⟨b, 0, none⟩) m cap ∧ g = [(b, .cells cs e (0, 0))] ∧ xs.length = m * sz ∧ m ≤ cap ∧ cap ≤ 9223372036854775807 ∧ ∀ (j : Nat) (x : Value), xs[j]? = some x → cs[j]? = some x := by
  obtain ⟨h1, ⟨_, h2, _⟩ | ⟨b, cs, cap, rfl, hb, rfl, hcs, hm, hcap, ht⟩⟩ := h
  · omega
  · refine ⟨b, cs, cap, hb, rfl, rfl, h1, hm, hcap, fun j x hj => ?_⟩
    rw [← ht, List.getElem?_take] at hj
    split at hj
    · simpa using hj
    · cases hj
theorem Own.len {n0 m sz : Nat} {xs : List Value} (h : Own n0 g v m sz xs e) : ∃ a cap, v = .slice a m cap := by
  obtain ⟨h1, ⟨rfl, rfl, _⟩ | ⟨b, cs, cap, rfl, _⟩⟩ := h
  · exact ⟨_, _, rfl⟩
  · exact ⟨_, _, rfl⟩
def Fx (M : PH) (xs : List Value) (ls : List (List UInt8)) (m : Nat) : Prop :=
  ∀ j, j < m → ∃ a len cap, xs[2 * j]? = some (.int .i64 ((j + 1 : Nat) : Int)) ∧ xs[2 * j + 1]? = some (.slice a len cap) ∧ Bs M (.slice a len cap) (ls.getD j [])
theorem Fx.mono {xs : List Value} {ls : List (List UInt8)} {m : Nat} (h : M.le M') (hf : Fx M xs ls m) : Fx M' xs ls m := fun j hj => by
  obtain ⟨a, len, cap, e1, e2, e3⟩ := hf j hj
  exact ⟨a, len, cap, e1, e2, e3.mono h⟩
theorem Fx.snoc {xs : List Value} {ls : List (List UInt8)} {m : Nat} {a : Option Addr} {len cap : Nat} (hf : Fx M xs ls m) (hl : xs.length = m * 2) (hb : Bs M (.slice a len cap) (ls.getD m [])) : Fx M (xs ++ [.int .i64 ((m + 1 : Nat) : Int), .slice a len cap]) ls (m + 1) := fun j hj => by
  by_cases e : j = m
  · subst e
    refine ⟨a, len, cap, ?_, ?_, hb⟩
    · rw [List.getElem?_append_right (by omega), show 2 * j - xs.length = 0 by omega]; rfl
    · rw [List.getElem?_append_right (by omega), show 2 * j + 1 - xs.length = 1 by omega]; rfl
  · obtain ⟨a', l', c', e1, e2, e3⟩ := hf j (by omega)
    exact ⟨a', l', c', by rw [List.getElem?_append_left (by omega)]; exact e1, by rw [List.getElem?_append_left (by omega)]; exact e2, e3⟩
end
end Go.E
namespace Go.E
open Go
theorem St.two {w0 w : World} {M : PH} {O : Owned} (hS : St w0 w M O) {fb i : Nat} {a b : Value} (h1 : M.cell fb (2 * i) = some a) (h2 : M.cell fb (2 * i + 1) = some b) : ∀ j u, ([a, b] : List Value)[j]? = some u → w.cell? ⟨fb, 0 + i * 2 + j, none⟩ = some u := fun j u hj => by
  rcases j with _ | _ | j
  · simp at hj; subst hj
    rw [show 0 + i * 2 + 0 = 2 * i by omega]; exact hS.cell h1
  · simp at hj; subst hj
    rw [show 0 + i * 2 + (0 + 1) = 2 * i + 1 by omega]; exact hS.cell h2
  · simp at hj
end Go.E
set_option linter.unusedVariables false
set_option linter.unusedSimpArgs false
namespace Go.E
open Go
section
variable {P : Program} {n : Nat} {L : Env} {w : World} {o : Oper} {x y : Operand} {t t2 : TypeId} {k : IntKind} {a b : Int}
end
end Go.E
set_option linter.unusedVariables false
set_option linter.unusedSimpArgs false
namespace Go.E
open Go
section
variable {P : Program} {n : Nat} {L : Env} {w0 w : World} {M M' : PH} {O g : Owned} {o : Oper} {x y : Operand} {t t2 e : TypeId} {K : Env → World → Prop} {v u : Value} {k kk : IntKind}
end
end Go.E
set_option linter.unusedVariables false
set_option linter.unusedSimpArgs false
namespace Go.E
open Go
section
variable {P : Program} {n : Nat} {L : Env} {w0 w : World} {M M' : PH} {O g : Owned} {o : Oper} {x y : Operand} {t t2 e : TypeId} {K : Env → World → Prop} {v u : Value} {k kk : IntKind}
theorem Res.sliceStr {l : List UInt8} {h : Nat} (ho : o.op = .slice t x none (some y) none) (hx : L.ev x = some (str l)) (hy : L.ev y = some (.int k (h : Int))) (ht : P.underlying t = some .string) (hh : h ≤ l.length) :
    Res P o L w (str (l.take h)) := fun n ac hac => by
  have e1 : (⟨l.toArray⟩ : ByteArray).size = l.length := by simp [ByteArray.size]
  have h1 := run_slice_string_h (P := P) w t ⟨l.toArray⟩ ht k (h : Int) (by omega) (by rw [e1]; omega)
  have e2 : (⟨l.toArray⟩ : ByteArray).extract 0 (h : Int).toNat = ⟨(l.take h).toArray⟩ := by
    apply ByteArray.ext
    rw [ByteArray.data_extract]
    apply Array.toList_inj.1
    simp
  unfold execOp
  simp only [ho, hac.ev hx, str, Option.map_some, Option.map_none, hac.ev hy]
  have h2 := run_sliceAt_string (P := P) (w := w) t (.string ⟨l.toArray⟩) none (some (.int k (h : Int))) none ht
  simp only [Sem.run_bind, h2, h1, e2, Result.andThen_ok, Sem.run_pure]
end
end Go.E
set_option linter.unusedVariables false
set_option linter.unusedSimpArgs false
namespace Go.E
open Go
section
variable {P : Program} {n : Nat} {L : Env} {w0 w : World} {M M' : PH} {O g : Owned} {o : Oper} {x y : Operand} {t t2 e : TypeId} {K : Env → World → Prop} {v u : Value} {k kk : IntKind}
theorem Ok.imp {f : FuncId} {args : Array Value} {Φ Ψ : PH → Value → Prop} (h : Ok P f args w M Φ) (hi : ∀ M' v, M.le M' → Φ M' v → Ψ M' v) : Ok P f args w M Ψ :=
  h.mono fun e w' ⟨v, M', h1, h2, h3, h4, h5⟩ => ⟨v, M', h1, h2, h3, h4, hi _ _ h3 h5⟩
theorem Ok.drop {f : FuncId} {args : Array Value} {p : Value → Prop} (h : Ok P f args w M (fun _ r => p r)) : Ok P f args w M (fun M' r => M = M' ∧ p r) :=
  h.mono fun e w' ⟨v, M', h1, h2, h3, h4, h5⟩ => ⟨v, M, h1, h2.known h3, PH.le.refl _, Fresh.refl _ _, rfl, h5⟩
end
end Go.E
set_option linter.unusedVariables false
set_option linter.unusedSimpArgs false
namespace Go.E
open Go Go.ChangeShapes Go.WideShapes
section
variable {H : Type} {enc : TypeId × Value → H} {P : Program} {W : World} {base b0 : Nat} {spare : Nat → Bool} {held : Bool} {t e : TypeId} {v : Value} {d : DataW H} {p : List MemPlace} {r : Reach}
theorem row_struct {n : Nat} {fs : Array Field} (ht : P.underlying t = some (.struct fs)) (hct : P.cellsOf t = n) (hv : Value.okWide P W r b0 t v) : ∃ cs, v = .agg cs ∧ cs.size = n := by
  simp only [Value.okWide, ht] at hv
  obtain ⟨cs, rfl, hsz, _⟩ := hv
  exact ⟨cs, rfl, by rw [← hct]; exact hsz⟩
theorem four {cs : Array Value} {a b c d : Value} (hn : cs.size = 4) (h0 : cs[0]? = some a) (h1 : cs[1]? = some b) (h2 : cs[2]? = some c) (h3 : cs[3]? = some d) : cs = #[a, b, c, d] := by
  apply Array.ext_getElem?
  intro i
  rcases (by omega : i = 0 ∨ i = 1 ∨ i = 2 ∨ i = 3 ∨ 4 ≤ i) with rfl | rfl | rfl | rfl | h
  · rw [h0]; rfl
  · rw [h1]; rfl
  · rw [h2]; rfl
  · rw [h3]; rfl
  · rw [Array.getElem?_eq_none (by omega), Array.getElem?_eq_none (by simpa using h)]
end
end Go.E
namespace Go.E
open Go Go.ChangeShapes Go.WideShapes
section
variable {H : Type} {enc : TypeId × Value → H} {P : Program} {W : World} {base b0 : Nat} {spare : Nat → Bool} {held : Bool} {t e : TypeId} {v : Value} {d : DataW H} {p : List MemPlace} {r : Reach}
theorem str_of (s : ByteArray) : ∃ l : List UInt8, Value.string s = str l := ⟨s.data.toList, by simp [str]⟩
end
end Go.E
