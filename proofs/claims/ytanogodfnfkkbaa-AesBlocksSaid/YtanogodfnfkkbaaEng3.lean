/- The engine's operations: numbers, bytes, arrays, slices, memory, calls. -/
import Derived.Test.YtanogodfnfkkbaaEng2
set_option linter.unusedVariables false
set_option linter.unusedSimpArgs false
namespace Go.E
open Go

section
variable {P : Program} {n : Nat} {L : Env} {w : World} {o : Oper} {x y : Operand} {t t2 : TypeId}

theorem Res.move {v : Value} (ho : o.op = .move x) (hx : L.ev x = some v) : Res P o L w v := fun n a ha => by
  unfold execOp; simp only [ho, ha.ev hx]; rfl
theorem Res.assign {v : Value} (ho : o.op = .assign x) (hx : L.ev x = some v) : Res P o L w v := fun n a ha => by
  unfold execOp; simp only [ho, ha.ev hx]; rfl
theorem Res.pick {c p q : Operand} {b : Bool} {u v : Value} (ho : o.op = .pick c p q) (hc : L.ev c = some (.bool b)) (hp : L.ev p = some u) (hq : L.ev q = some v) : Res P o L w (bif b then u else v) := fun n a ha => by
  unfold execOp; simp only [ho, ha.ev hc, ha.ev hp, ha.ev hq, asBool]; cases b <;> rfl
theorem Res.pickT {c p q : Operand} {v : Value} (ho : o.op = .pick c p q) (hc : L.ev c = some (.bool true)) (hp : L.ev p = some v) : Res P o L w v := fun n a ha => by
  unfold execOp; simp only [ho, ha.ev hc, ha.ev hp, asBool]; rfl
theorem Res.pickF {c p q : Operand} {v : Value} (ho : o.op = .pick c p q) (hc : L.ev c = some (.bool false)) (hq : L.ev q = some v) : Res P o L w v := fun n a ha => by
  unfold execOp; simp only [ho, ha.ev hc, ha.ev hq, asBool]; rfl
theorem Res.not {op : UnOp} {b : Bool} (ho : o.op = .unOp op t x) (hop : op = .not) (hx : L.ev x = some (.bool b)) : Res P o L w (.bool (!b)) := fun n a ha => by
  subst hop; unfold execOp; simp only [ho, ha.ev hx, Op.unary]; rfl

/-! ### whole numbers of kind int -/
theorem wrap_i64 {a : Int} (h : -9223372036854775808 ≤ a ∧ a ≤ 9223372036854775807) : IntKind.i64.wrap a = a := by
  simp only [IntKind.wrap, IntKind.bits, IntKind.signed]
  simp only [Bool.true_and]
  by_cases hc : a % 2 ^ 64 ≥ 2 ^ (64 - 1)
  · simp only [hc, decide_true, if_true]; omega
  · simp only [hc, decide_false, Bool.false_eq_true, if_false]; omega
theorem run_bin {op : BinOp} {u v r : Value} {a : Act} (ho : o.op = .binOp op t x y t2) (hx : a.eval x = u) (hy : a.eval y = v)
    (hg : (eqGuard op t x y u v).run P w = .ok () w) (h : (binOp op t u v).run P w = .ok r w) : (execOp a.eval o).run P w = .ok (.value r) w := by
  unfold execOp
  simp only [ho, hx, hy, Sem.run_bind, hg, h, Result.andThen_ok, Sem.run_pure]
section
variable {a b : Int}
theorem Res.add (ho : o.op = .binOp .add t x y t2) (hx : L.ev x = some (.int .i64 a)) (hy : L.ev y = some (.int .i64 b))
    (h : -9223372036854775808 ≤ a + b ∧ a + b ≤ 9223372036854775807) : Res P o L w (.int .i64 (a + b)) := fun n c hc =>
  run_bin ho (hc.ev hx) (hc.ev hy) rfl (by simp [binOp, Op.intArith, wrap_i64 h])
theorem Res.sub (ho : o.op = .binOp .sub t x y t2) (hx : L.ev x = some (.int .i64 a)) (hy : L.ev y = some (.int .i64 b))
    (h : -9223372036854775808 ≤ a - b ∧ a - b ≤ 9223372036854775807) : Res P o L w (.int .i64 (a - b)) := fun n c hc =>
  run_bin ho (hc.ev hx) (hc.ev hy) rfl (by simp [binOp, Op.intArith, wrap_i64 h])
theorem Res.mul (ho : o.op = .binOp .mul t x y t2) (hx : L.ev x = some (.int .i64 a)) (hy : L.ev y = some (.int .i64 b))
    (h : -9223372036854775808 ≤ a * b ∧ a * b ≤ 9223372036854775807) : Res P o L w (.int .i64 (a * b)) := fun n c hc =>
  run_bin ho (hc.ev hx) (hc.ev hy) rfl (by simp [binOp, Op.intArith, wrap_i64 h])
theorem Res.quo (ho : o.op = .binOp .quo t x y t2) (hx : L.ev x = some (.int .i64 a)) (hy : L.ev y = some (.int .i64 b))
    (h : 0 ≤ a ∧ a ≤ 9223372036854775807 ∧ 0 < b) : Res P o L w (.int .i64 (a / b)) := fun n c hc =>
  run_bin ho (hc.ev hx) (hc.ev hy) rfl (by
    have h1 : a.tdiv b = a / b := Int.tdiv_eq_ediv_of_nonneg h.1
    have h2 : 0 ≤ a / b := Int.ediv_nonneg h.1 (by omega)
    have h3 : a / b ≤ a := Int.ediv_le_self b h.1
    have hb : ¬ b = 0 := by omega
    simp [binOp, Op.intDiv, hb, h1, wrap_i64 (a := a / b) (by omega)])
theorem Res.rem (ho : o.op = .binOp .rem t x y t2) (hx : L.ev x = some (.int .i64 a)) (hy : L.ev y = some (.int .i64 b))
    (h : 0 ≤ a ∧ 0 < b) : Res P o L w (.int .i64 (a % b)) := fun n c hc =>
  run_bin ho (hc.ev hx) (hc.ev hy) rfl (by
    have h1 : a.tmod b = a % b := Int.tmod_eq_emod_of_nonneg h.1
    have hb : ¬ b = 0 := by omega
    simp [binOp, Op.intDiv, hb, h1])
theorem Res.lss {k : IntKind} (ho : o.op = .binOp .lss t x y t2) (hx : L.ev x = some (.int k a)) (hy : L.ev y = some (.int k b)) : Res P o L w (.bool (decide (a < b))) := fun n c hc =>
  run_bin ho (hc.ev hx) (hc.ev hy) rfl (by simp [binOp, Op.intCmp])
theorem Res.leq {k : IntKind} (ho : o.op = .binOp .leq t x y t2) (hx : L.ev x = some (.int k a)) (hy : L.ev y = some (.int k b)) : Res P o L w (.bool (decide (a ≤ b))) := fun n c hc =>
  run_bin ho (hc.ev hx) (hc.ev hy) rfl (by simp [binOp, Op.intCmp])
theorem Res.gtr {k : IntKind} (ho : o.op = .binOp .gtr t x y t2) (hx : L.ev x = some (.int k a)) (hy : L.ev y = some (.int k b)) : Res P o L w (.bool (decide (b < a))) := fun n c hc =>
  run_bin ho (hc.ev hx) (hc.ev hy) rfl (by simp [binOp, Op.intCmp])
theorem Res.geq {k : IntKind} (ho : o.op = .binOp .geq t x y t2) (hx : L.ev x = some (.int k a)) (hy : L.ev y = some (.int k b)) : Res P o L w (.bool (decide (b ≤ a))) := fun n c hc =>
  run_bin ho (hc.ev hx) (hc.ev hy) rfl (by simp [binOp, Op.intCmp])
theorem Res.eql {k : IntKind} (ho : o.op = .binOp .eql t x y t2) (hx : L.ev x = some (.int k a)) (hy : L.ev y = some (.int k b)) : Res P o L w (.bool (decide (a = b))) := fun n c hc =>
  run_bin ho (hc.ev hx) (hc.ev hy) (by simp [eqGuard]) (by simp [binOp, Op.intCmp]; rfl)
theorem Res.neq {k : IntKind} (ho : o.op = .binOp .neq t x y t2) (hx : L.ev x = some (.int k a)) (hy : L.ev y = some (.int k b)) : Res P o L w (.bool (decide (¬ a = b))) := fun n c hc =>
  run_bin ho (hc.ev hx) (hc.ev hy) (by simp [eqGuard]) (by simp [binOp, Op.intCmp]; by_cases h : a = b <;> simp [h])
end

/-! ### bytes -/
def byte (x : UInt8) : Value := .int .u8 (x.toNat : Int)
theorem wrap_u8 (x : Nat) : IntKind.u8.wrap (x : Int) = ((UInt8.ofNat x).toNat : Int) := by
  simp [IntKind.wrap, IntKind.bits, IntKind.signed]
theorem wrap_u8_id (x : UInt8) : IntKind.u8.wrap (x.toNat : Int) = (x.toNat : Int) := by
  rw [wrap_u8]; simp
section
variable {a b : UInt8}
theorem Res.addB (b : UInt8) (ho : o.op = .binOp .add t x y t2) (hx : L.ev x = some (byte a)) (hy : L.ev y = some (byte b)) : Res P o L w (byte (a + b)) := fun n c hc =>
  run_bin ho (hc.ev hx) (hc.ev hy) rfl (by
    have : ((a.toNat : Int) + (b.toNat : Int)) = ((a.toNat + b.toNat : Nat) : Int) := by simp
    simp only [byte, binOp, Op.intArith, ne_eq, not_true_eq_false, if_false, Sem.run_pure, this, wrap_u8]
    simp)
theorem Res.mulB (b : UInt8) (ho : o.op = .binOp .mul t x y t2) (hx : L.ev x = some (byte a)) (hy : L.ev y = some (byte b)) : Res P o L w (byte (a * b)) := fun n c hc =>
  run_bin ho (hc.ev hx) (hc.ev hy) rfl (by
    have : ((a.toNat : Int) * (b.toNat : Int)) = ((a.toNat * b.toNat : Nat) : Int) := by simp
    simp only [byte, binOp, Op.intArith, ne_eq, not_true_eq_false, if_false, Sem.run_pure, this, wrap_u8]
    simp)
theorem ofInt_byte (x : UInt8) : BitVec.ofInt 8 (x.toNat : Int) = x.toBitVec := by
  apply BitVec.eq_of_toNat_eq
  simp [BitVec.toNat_ofInt]
theorem back_byte (r : BitVec 8) : IntKind.u8.wrap (r.toNat : Int) = ((UInt8.ofBitVec r).toNat : Int) := by
  rw [wrap_u8]
  simp
theorem Res.xorB (b : UInt8) (ho : o.op = .binOp .xor t x y t2) (hx : L.ev x = some (byte a)) (hy : L.ev y = some (byte b)) : Res P o L w (byte (a ^^^ b)) := fun n c hc =>
  run_bin ho (hc.ev hx) (hc.ev hy) rfl (by
    simp only [byte, binOp, Op.intBits, ne_eq, not_true_eq_false, if_false, Sem.run_pure, IntKind.bits, ofInt_byte, back_byte]
    rfl)
theorem Res.andB (b : UInt8) (ho : o.op = .binOp .and t x y t2) (hx : L.ev x = some (byte a)) (hy : L.ev y = some (byte b)) : Res P o L w (byte (a &&& b)) := fun n c hc =>
  run_bin ho (hc.ev hx) (hc.ev hy) rfl (by
    simp only [byte, binOp, Op.intBits, ne_eq, not_true_eq_false, if_false, Sem.run_pure, IntKind.bits, ofInt_byte, back_byte]
    rfl)
theorem Res.orB (b : UInt8) (ho : o.op = .binOp .or t x y t2) (hx : L.ev x = some (byte a)) (hy : L.ev y = some (byte b)) : Res P o L w (byte (a ||| b)) := fun n c hc =>
  run_bin ho (hc.ev hx) (hc.ev hy) rfl (by
    simp only [byte, binOp, Op.intBits, ne_eq, not_true_eq_false, if_false, Sem.run_pure, IntKind.bits, ofInt_byte, back_byte]
    rfl)
/-- x << k, x >> k, by a constant below 8 -/
theorem Res.shlB (k : Nat) (ho : o.op = .binOp .shl t x y t2) (hx : L.ev x = some (byte a)) {kk : IntKind} (hy : L.ev y = some (.int kk k)) (hk : k < 8) : Res P o L w (byte (UInt8.ofNat (a.toNat * 2 ^ k))) := fun n c hc =>
  run_bin ho (hc.ev hx) (hc.ev hy) rfl (by
    have h1 : ¬ ((k : Int) < 0) := by omega
    have h2 : min (k : Int).toNat 8 = k := by simp; omega
    have h3 : ((a.toNat : Int) * 2 ^ k) = ((a.toNat * 2 ^ k : Nat) : Int) := by simp
    simp only [byte, binOp, Op.shift, h1, if_false, Sem.run_pure, IntKind.bits, h2, h3, wrap_u8])
theorem Res.shrB (k : Nat) (ho : o.op = .binOp .shr t x y t2) (hx : L.ev x = some (byte a)) {kk : IntKind} (hy : L.ev y = some (.int kk k)) (hk : k < 8) : Res P o L w (byte (UInt8.ofNat (a.toNat / 2 ^ k))) := fun n c hc =>
  run_bin ho (hc.ev hx) (hc.ev hy) rfl (by
    have h1 : ¬ ((k : Int) < 0) := by omega
    have h2 : min (k : Int).toNat 8 = k := by simp; omega
    have h3 : (a.toNat : Int).fdiv (2 ^ k) = ((a.toNat / 2 ^ k : Nat) : Int) := by
      have : (2 : Int) ^ k = ((2 ^ k : Nat) : Int) := by simp
      rw [this, Int.fdiv_eq_ediv_of_nonneg _ (Int.natCast_nonneg _)]
      simp
    have h4 : a.toNat / 2 ^ k < 256 := Nat.lt_of_le_of_lt (Nat.div_le_self _ _) a.toNat_lt
    simp only [byte, binOp, Op.shift, h1, if_false, Sem.run_pure, IntKind.bits, h2, h3]
    have : (UInt8.ofNat (a.toNat / 2 ^ k)).toNat = a.toNat / 2 ^ k := by simp; omega
    rw [this])
theorem Res.quoB (b : UInt8) (ho : o.op = .binOp .quo t x y t2) (hx : L.ev x = some (byte a)) (hy : L.ev y = some (byte b)) (hb : 0 < b.toNat) : Res P o L w (byte (a / b)) := fun n c hc =>
  run_bin ho (hc.ev hx) (hc.ev hy) rfl (by
    have h0 : ¬ ((b.toNat : Int) = 0) := by omega
    have h1 : (a.toNat : Int).tdiv (b.toNat : Int) = ((a.toNat / b.toNat : Nat) : Int) := by
      rw [Int.tdiv_eq_ediv_of_nonneg (by omega)]; simp
    simp only [byte, binOp, Op.intDiv, h0, h1, ne_eq, not_true_eq_false, if_false, Sem.run_pure, wrap_u8]
    have h4 : a.toNat / b.toNat < 256 := Nat.lt_of_le_of_lt (Nat.div_le_self _ _) a.toNat_lt
    have : (UInt8.ofNat (a.toNat / b.toNat)).toNat = (a / b).toNat := by simp; omega
    rw [this])
theorem Res.eqlB (b : UInt8) (ho : o.op = .binOp .eql t x y t2) (hx : L.ev x = some (byte a)) (hy : L.ev y = some (byte b)) : Res P o L w (.bool (decide (a = b))) := fun n c hc =>
  run_bin ho (hc.ev hx) (hc.ev hy) (by simp [eqGuard, byte]) (by
    have : ((a.toNat : Int) == (b.toNat : Int)) = decide (a = b) := by
      by_cases h : a = b
      · subst h; simp
      · have : ¬ (a.toNat : Int) = (b.toNat : Int) := fun e => h (UInt8.toNat_inj.1 (by omega))
        simp [h, this]
    simp only [byte, binOp, Op.intCmp, ne_eq, not_true_eq_false, if_false, Sem.run_pure, this])
theorem Res.neqB (b : UInt8) (ho : o.op = .binOp .neq t x y t2) (hx : L.ev x = some (byte a)) (hy : L.ev y = some (byte b)) : Res P o L w (.bool (decide (¬ a = b))) := fun n c hc =>
  run_bin ho (hc.ev hx) (hc.ev hy) (by simp [eqGuard, byte]) (by
    have : ((a.toNat : Int) != (b.toNat : Int)) = decide (¬ a = b) := by
      by_cases h : a = b
      · subst h; simp
      · have : ¬ (a.toNat : Int) = (b.toNat : Int) := fun e => h (UInt8.toNat_inj.1 (by omega))
        simp [h, this]
    simp only [byte, binOp, Op.intCmp, ne_eq, not_true_eq_false, if_false, Sem.run_pure, this])
end
theorem run_equalIn_bool (d : Nat) {a b : Bool} (ht : P.underlying t = some .bool) : (Op.equalIn (d + 1) t (.bool a) (.bool b)).run P w = .ok (a == b) w := by simp [Op.equalIn, run_underlying ht]
theorem run_equal_bool {a b : Bool} (ht : P.underlying t = some .bool) : (Op.equal t (.bool a) (.bool b)).run P w = .ok (a == b) w := run_equalIn_bool 9999 ht
theorem Res.eqlBool {a b : Bool} (ho : o.op = .binOp .eql t x y t2) (hx : L.ev x = some (.bool a)) (hy : L.ev y = some (.bool b)) (ht : P.underlying t = some .bool) : Res P o L w (.bool (a == b)) := fun n c hc =>
  run_bin ho (hc.ev hx) (hc.ev hy) (by simp [eqGuard]) (by
    simp only [binOp, Sem.run_bind, run_equal_bool ht, Result.andThen_ok, Sem.run_pure])
theorem Res.convB {s d : TypeId} {k' : IntKind} {k : Nat} {u : TypeDesc} (ho : o.op = .convert s d x) (hx : L.ev x = some (.int k' (k : Int))) (hs : P.underlying s = some u) (hd : P.underlying d = some (.int .u8)) : Res P o L w (byte (UInt8.ofNat k)) := fun n c hc => by
  unfold execOp
  simp only [ho, hc.ev hx, convert, Sem.run_bind, run_underlying hs, run_underlying hd, Result.andThen_ok, Conv.intToInt, Sem.run_pure, wrap_u8]
  rfl
theorem Res.conv {s d : TypeId} {k k' : IntKind} {a : Int} {u : TypeDesc} (ho : o.op = .convert s d x) (hx : L.ev x = some (.int k' a)) (hs : P.underlying s = some u) (hd : P.underlying d = some (.int k)) : Res P o L w (.int k (k.wrap a)) := fun n c hc => by
  unfold execOp
  simp only [ho, hc.ev hx, convert, Sem.run_bind, run_underlying hs, run_underlying hd, Result.andThen_ok, Conv.intToInt, Sem.run_pure]

/-! ### memory -/
/-- how many cells a value of a type has -/
abbrev SZ (P : Program) (t : TypeId) (k : Nat) : Prop := (P.info? t).map (·.size) = some k
theorem run_sizeOf {k : Nat} (h : SZ P t k) (w : World) : (sizeOf t).run P w = .ok k w := by
  cases hq : P.info? t with
  | none => simp [SZ, hq] at h
  | some i => simp [SZ, hq] at h; simp [sizeOf, typeInfo, hq, h]
def aggD : TypeDesc → Bool
  | .struct _ | .array _ _ => true
  | _ => false
theorem run_isAgg {d : TypeDesc} (h : P.underlying t = some d) (w : World) : (isAgg t).run P w = .ok (aggD d) w := by
  unfold isAgg
  rw [Sem.run_bind, run_underlying h]
  cases d <;> rfl
theorem addr_add (b i k : Nat) : (⟨b, i, none⟩ : Addr).add k = ⟨b, i + k, none⟩ := by unfold Addr.add; split <;> simp_all

/-- a run of cells of a block -/
theorem cell_of {b j : Nat} {cs : Array Value} {T : TypeId} {fr : Nat × Nat} (h : w.heap[b]? = some (.cells cs T fr)) : w.cell? ⟨b, j, none⟩ = cs[j]? := by
  simp [World.cell?, h]

/-- one cell is read -/
theorem Res.load1 {d : TypeDesc} {b i : Nat} {v : Value} (ho : o.op = .load t x) (hx : L.ev x = some (.pointer (some ⟨b, i, none⟩))) (hd : P.underlying t = some d) (ha : aggD d = false)
    (hv : w.cell? ⟨b, i, none⟩ = some v) : Res P o L w v := fun n a hfa => by
  unfold execOp
  simp only [ho, hfa.ev hx, Instr.loadAt, Instr.sureAddr, Sem.run_bind, Sem.run_pure, Result.andThen_ok, loadVar, run_isAgg hd, ha, Bool.false_eq_true, if_false, run_load, hv]
/-- a whole array or struct is read, which lies at i in its block -/
theorem Res.loadN {d : TypeDesc} {b i k : Nat} {r : List Value} (ho : o.op = .load t x) (hx : L.ev x = some (.pointer (some ⟨b, i, none⟩))) (hd : P.underlying t = some d) (ha : aggD d = true)
    (hs : SZ P t k) (hr : r.length = k) (hv : ∀ j u, r[j]? = some u → w.cell? ⟨b, i + j, none⟩ = some u) : Res P o L w (.agg r.toArray) := fun n a hfa => by
  have hl : (loadCells ⟨b, i, none⟩ r.length).run P w = .ok r.toArray w :=
    run_loadCells_list (P := P) w ⟨b, i, none⟩ r (fun j v hj => by rw [addr_add]; exact hv j v hj)
  rw [hr] at hl
  unfold execOp
  simp only [ho, hfa.ev hx, Instr.loadAt, Instr.sureAddr, Sem.run_bind, Sem.run_pure, Result.andThen_ok, loadVar, run_isAgg hd, ha, if_true, run_sizeOf hs, hl]
/-- all of a block is read -/
theorem Res.loadAll {d : TypeDesc} {b : Nat} {cs : Array Value} {T : TypeId} {fr : Nat × Nat} (ho : o.op = .load t x) (hx : L.ev x = some (.pointer (some ⟨b, 0, none⟩))) (hd : P.underlying t = some d) (ha : aggD d = true)
    (hs : SZ P t cs.size) (hb : w.heap[b]? = some (.cells cs T fr)) : Res P o L w (.agg cs) := by
  have := Res.loadN (P := P) (o := o) (L := L) (w := w) (i := 0) (r := cs.toList) ho hx hd ha hs (by simp) (fun j u hj => by rw [cell_of hb]; simpa using hj)
  simpa using this

theorem run_zeroValue {v : Value} (h : (P.info? t).map (·.zero) = some (some v)) (w : World) : (zeroValue t).run P w = .ok v w := by
  cases hq : P.info? t with
  | none => simp [hq] at h
  | some i => simp [hq] at h; simp [zeroValue, typeInfo, hq, h]

section
variable {w0 : World} {M : PH} {O : Owned} {K : Env → World → Prop}
/-- a new variable, of zeros -/
theorem Stp.alloc {d : Nat} {z : Value} {cs : Array Value} (ho : o.op = .alloc t) (hz : (P.info? t).map (·.zero) = some (some z)) (hc : z.cells = cs) (hd : o.dst = some d) (hn : Nat.blt d n = true) (hS : St w0 w M O)
    (h : ∀ b w', w0.heap.size ≤ b → St w0 w' M ((b, .cells cs t (0, 0)) :: O) → Kept w w' → w.heap[b]? = none → K ((d, .pointer (some ⟨b, 0, none⟩)) :: L) w') : Stp P n o L w K :=
  Stp.resW (w' := w.alloc (.cells cs t (0, 0))) hd hn (fun n a ha => by
    unfold execOp
    simp only [ho, Instr.alloc, Sem.run_bind, run_zeroValue hz, Result.andThen_ok, newVar, newRow, run_newObj, Sem.run_pure, hc]
    rfl) (h _ _ hS.size (hS.alloc _) (Kept.alloc _ _) (new_none _))
/-- a new variable that holds a value -/
theorem Stp.box {d : Nat} {v : Value} {cs : Array Value} (ho : o.op = .box t x) (hx : L.ev x = some v) (hc : v.cells = cs) (hd : o.dst = some d) (hn : Nat.blt d n = true) (hS : St w0 w M O)
    (h : ∀ b w', w0.heap.size ≤ b → St w0 w' M ((b, .cells cs t (0, 0)) :: O) → Kept w w' → w.heap[b]? = none → K ((d, .pointer (some ⟨b, 0, none⟩)) :: L) w') : Stp P n o L w K :=
  Stp.resW (w' := w.alloc (.cells cs t (0, 0))) hd hn (fun n a ha => by
    unfold execOp
    simp only [ho, ha.ev hx, Instr.box, Sem.run_bind, Result.andThen_ok, newVar, newRow, run_newObj, Sem.run_pure, hc]
    rfl) (h _ _ hS.size (hS.alloc _) (Kept.alloc _ _) (new_none _))
/-- a new variable that holds an array or a struct -/
theorem Stp.boxA {d : Nat} {cs : Array Value} (ho : o.op = .box t x) (hx : L.ev x = some (.agg cs)) (hd : o.dst = some d) (hn : Nat.blt d n = true) (hS : St w0 w M O)
    (h : ∀ b w', w0.heap.size ≤ b → St w0 w' M ((b, .cells cs t (0, 0)) :: O) → Kept w w' → w.heap[b]? = none → K ((d, .pointer (some ⟨b, 0, none⟩)) :: L) w') : Stp P n o L w K :=
  Stp.box ho hx rfl hd hn hS h
/-- one cell is written -/
theorem Stp.store1 (i : Nat) {b j : Nat} {cs : Array Value} {T : TypeId} {v : Value} (ho : o.op = .store t x y) (hx : L.ev x = some (.pointer (some ⟨b, j, none⟩))) (hy : L.ev y = some v) (hs : SZ P t 1) (h1 : v.oneCell' = true)
    (hd : o.dst = none) (hS : St w0 w M O) (hi : nth O i = some (b, .cells cs T (0, 0))) (hj : j < cs.size)
    (h : ∀ w', St w0 w' M (upd O i (.cells (cs.setIfInBounds j v) T (0, 0))) → Put w w' b (.cells (cs.setIfInBounds j v) T (0, 0)) → K L w') : Stp P n o L w K :=
  have hb := hS.get hi
  Stp.unitW (w' := w.setCell ⟨b, j, none⟩ v) hd (fun n a ha => by
    have hc : v.cells = #[v] := by cases v <;> first | rfl | (simp [Value.oneCell'] at h1; done)
    have hst : (store ⟨b, j, none⟩ v).run P w = .ok () (w.setCell ⟨b, j, none⟩ v) := by
      have hcell : w.cell? ⟨b, j, none⟩ = some cs[j] := by rw [cell_of hb]; simp [hj]
      have hfro : w.frozen? ⟨b, j, none⟩ = false := by simp [World.frozen?, hb]
      rw [run_store P w _ v _ h1, hcell]; simp [hfro]
    unfold execOp
    simp only [ho, ha.ev hx, ha.ev hy, Instr.storeAt, Instr.sureAddr, Sem.run_bind, Sem.run_pure, Result.andThen_ok, storeVar, run_sizeOf hs, hc]
    simp only [List.size_toArray, List.length_cons, List.length_nil, Nat.zero_add, ne_eq, not_true_eq_false, if_false, storeCells, addr_add, Nat.add_zero, Sem.run_bind, hst, Result.andThen_ok, Sem.run_pure]) (h _ (hS.put hi (put_setCell v hb)) (put_setCell v hb))
/-- a whole array or struct is written into its block, at j -/
theorem Stp.storeN (i : Nat) {b j k : Nat} {cs r : Array Value} {T : TypeId} (ho : o.op = .store t x y) (hx : L.ev x = some (.pointer (some ⟨b, j, none⟩))) (hy : L.ev y = some (.agg r)) (hs : SZ P t k) (hk : r.size = k) (h1 : ∀ v ∈ r.toList, v.oneCell' = true)
    (hd : o.dst = none) (hS : St w0 w M O) (hi : nth O i = some (b, .cells cs T (0, 0))) (hj : j + k ≤ cs.size)
    (h : ∀ w', St w0 w' M (upd O i (.cells (cs.toList.take j ++ r.toList ++ cs.toList.drop (j + k)).toArray T (0, 0))) → Put w w' b (.cells (cs.toList.take j ++ r.toList ++ cs.toList.drop (j + k)).toArray T (0, 0)) → K L w') : Stp P n o L w K :=
  have hb := hS.get hi
  Stp.unitW (w' := w.setRow b (cs.toList.take j ++ r.toList ++ cs.toList.drop (j + k)).toArray) hd (fun n a ha => by
    have hst := run_storeCells_at (P := P) b j T r.toList 0 cs w hb (by simp; omega) h1
    simp only [Nat.add_zero, Array.length_toList, hk] at hst
    unfold execOp
    simp only [ho, ha.ev hx, ha.ev hy, Instr.storeAt, Instr.sureAddr, Sem.run_bind, Sem.run_pure, Result.andThen_ok, storeVar, run_sizeOf hs, Value.cells, hk]
    simp only [ne_eq, not_true_eq_false, if_false, hst, Result.andThen_ok]) (h _ (hS.put hi (put_setRow hb)) (put_setRow hb))
/-- all of a block is written -/
theorem Stp.storeAll (i : Nat) {b : Nat} {cs r : Array Value} {T : TypeId} (ho : o.op = .store t x y) (hx : L.ev x = some (.pointer (some ⟨b, 0, none⟩))) (hy : L.ev y = some (.agg r)) (hs : SZ P t r.size) (h1 : ∀ v ∈ r.toList, v.oneCell' = true)
    (hd : o.dst = none) (hS : St w0 w M O) (hi : nth O i = some (b, .cells cs T (0, 0))) (hk : cs.size = r.size)
    (h : ∀ w', St w0 w' M (upd O i (.cells r T (0, 0))) → Put w w' b (.cells r T (0, 0)) → K L w') : Stp P n o L w K := by
  refine Stp.storeN i ho hx hy hs rfl h1 hd hS hi (by omega) fun w' hw hp => ?_
  have : (cs.toList.take 0 ++ r.toList ++ cs.toList.drop (0 + r.size)).toArray = r := by
    rw [List.drop_eq_nil_of_le (by simp; omega)]; simp
  rw [this] at hw hp
  exact h w' hw hp
/-- a function that a call enters -/
def Callable (P : Program) (f : FuncId) : Prop := ∃ fn, P.funcs[f]? = some fn ∧ fn.body.isSome = true ∧ (fn.name == "runtime.NumGoroutine") = false
/-- a call by its contract -/
theorem Stp.call {c : Call} {f : FuncId} {args : List Value} {d : Nat} {R : Ending → World → Prop} (ho : o.op = .call c) (hf : c.callee = .value (.func f)) (ha : c.args.toList.map L.ev = args.map some)
    (hcl : Callable P f) (hd : o.dst = some d) (hn : Nat.blt d n = true)
    (hc : Calls P f args.toArray w R) (h : ∀ e w', R e w' → ∃ v, e = .returned v ∧ K ((d, v) :: L) w') : Stp P n o L w K := fun a hfa Q => by
  obtain ⟨fn, hfn, hb, hm⟩ := hcl
  unfold Oper.wp
  have hargs : c.args.map a.eval = args.toArray := by
    apply Array.toList_inj.1
    simp only [Array.toList_map]
    have : ∀ (l : List Operand) (r : List Value), l.map L.ev = r.map some → l.map a.eval = r := by
      intro l
      induction l with
      | nil => intro r hr; cases r with
        | nil => rfl
        | cons => simp at hr
      | cons y l ih => intro r hr; cases r with
        | nil => simp at hr
        | cons v r =>
          simp only [List.map_cons, List.cons.injEq] at hr
          rw [List.map_cons, hfa.ev hr.1, ih r hr.2]
    exact this _ _ ha
  have hrun : (execOp a.eval o).run P w = .ok (.enter f args.toArray) w := by
    unfold execOp
    simp only [ho, resolve, hargs, hf, Act.eval, Deferred.ofValue, Sem.run_bind, Sem.run_pure, Result.andThen_ok, invoke, callFunc, run_program, hfn, hm, Bool.false_eq_true, if_false]
    cases hbb : fn.body with
    | none => simp [hbb] at hb
    | some _ => simp
  rw [hrun]
  simp only [Oper.upon]
  refine hc.mono fun e w' he => ?_
  obtain ⟨v, rfl, hk⟩ := h e w' he
  simp only [hd]
  exact ⟨_, hfa.put (blt_lt hn) v, hk⟩
/-- a call of a function that only reckons -/
theorem Stp.callA {c : Call} {f : FuncId} {args : List Value} {d : Nat} {r : Value} (ho : o.op = .call c) (hf : c.callee = .value (.func f)) (ha : c.args.toList.map L.ev = args.map some)
    (hcl : Callable P f) (hd : o.dst = some d) (hn : Nat.blt d n = true)
    (hc : Calls P f args.toArray w fun e w' => ∃ v, e = .returned v ∧ v = r ∧ w' = w) (h : K ((d, r) :: L) w) : Stp P n o L w K :=
  Stp.call ho hf ha hcl hd hn hc fun e w' ⟨v, he, hv, hw⟩ => ⟨v, he, by rw [hv, hw]; exact h⟩
/-- a call of a function that owns nothing of ours -/
theorem Stp.callB {c : Call} {f : FuncId} {args : List Value} {d : Nat} {Φ : PH → Value → Prop} (ho : o.op = .call c) (hf : c.callee = .value (.func f)) (ha : c.args.toList.map L.ev = args.map some)
    (hcl : Callable P f) (hd : o.dst = some d) (hn : Nat.blt d n = true) (hS : St w0 w M O)
    (hc : Ok P f args.toArray w M Φ) (h : ∀ v w' M', St w0 w' M' O → M.le M' → Fresh M M' w.heap.size → Kept w w' → Φ M' v → K ((d, v) :: L) w') : Stp P n o L w K :=
  Stp.call ho hf ha hcl hd hn hc fun e w' ⟨v, M', he, hw, hl, hfr, hp⟩ => ⟨v, he, h v w' M' (hS.call hw hfr) hl hfr hw.kept hp⟩
/-- a call of a function that owns one block of ours -/
theorem Stp.callO (i : Nat) {c : Call} {f : FuncId} {args : List Value} {d b : Nat} {ob : Obj} {Φ : PH → Obj → Value → Prop} (ho : o.op = .call c) (hf : c.callee = .value (.func f)) (ha : c.args.toList.map L.ev = args.map some)
    (hcl : Callable P f) (hd : o.dst = some d) (hn : Nat.blt d n = true) (hS : St w0 w M O) (hi : nth O i = some (b, ob))
    (hc : OkO P f args.toArray w M b Φ) (h : ∀ v w' M' o', St w0 w' M' (upd O i o') → M.le M' → Fresh M M' w.heap.size → w.heap.size ≤ w'.heap.size → Φ M' o' v → K ((d, v) :: L) w') : Stp P n o L w K :=
  Stp.call ho hf ha hcl hd hn hc fun e w' ⟨v, M', o', he, hw, hl, hfr, hp⟩ => ⟨v, he, h v w' M' o' (hS.callO hi hw hfr) hl hfr hw.size hp⟩
end

/-! ### addresses -/
theorem Res.nilCheck {a : Addr} (ho : o.op = .nilCheck x) (hx : L.ev x = some (.pointer (some a))) : Res P o L w (.pointer (some a)) := fun n c hc => by
  unfold execOp; simp only [ho, hc.ev hx]; rfl
/-- the address of an array's element -/
theorem Res.idxA {e : TypeId} {len b j k : Nat} {i : Int} {kk : IntKind} (sz : Nat) (ho : o.op = .indexAddr t x y) (hx : L.ev x = some (.pointer (some ⟨b, j, none⟩))) (hy : L.ev y = some (.int kk i)) (ht : P.underlying t = some (.array len e)) (hs : SZ P e sz)
    (hk : i.toNat = k) (hi : 0 ≤ i ∧ i < len) : Res P o L w (.pointer (some ⟨b, j + k * sz, none⟩)) := fun n a ha => by
  unfold execOp
  simp only [ho, ha.ev hx, ha.ev hy, Instr.indexAt, asIntOf, Sem.run_bind, Sem.run_pure, Result.andThen_ok, run_underlying ht, Instr.sureAddr]
  simp only [hi.1, hi.2, and_self, if_true, Sem.run_bind, run_sizeOf hs, Result.andThen_ok, Sem.run_pure, hk, addr_add]
/-- the address of a slice's element -/
theorem Res.idxS {e : TypeId} {len cap b j k : Nat} {i : Int} {kk : IntKind} (sz : Nat) (ho : o.op = .indexAddr t x y) (hx : L.ev x = some (.slice (some ⟨b, j, none⟩) len cap)) (hy : L.ev y = some (.int kk i)) (ht : P.underlying t = some (.slice e)) (hs : SZ P e sz)
    (hk : i.toNat = k) (hi : 0 ≤ i ∧ i < len) : Res P o L w (.pointer (some ⟨b, j + k * sz, none⟩)) := fun n a ha => by
  unfold execOp
  simp only [ho, ha.ev hx, ha.ev hy, Instr.indexAt, asIntOf, Sem.run_bind, Sem.run_pure, Result.andThen_ok, run_underlying ht]
  simp only [hi.1, hi.2, and_self, if_true, Sem.run_bind, run_sizeOf hs, Result.andThen_ok, Sem.run_pure, hk, addr_add]
theorem Res.idxA0 {e : TypeId} {len b k : Nat} {i : Int} {kk : IntKind} (ho : o.op = .indexAddr t x y) (hx : L.ev x = some (.pointer (some ⟨b, 0, none⟩))) (hy : L.ev y = some (.int kk i)) (ht : P.underlying t = some (.array len e)) (hs : SZ P e 1)
    (hk : i.toNat = k) (hi : 0 ≤ i ∧ i < len) : Res P o L w (.pointer (some ⟨b, k, none⟩)) := by
  have := Res.idxA (P := P) (w := w) 1 ho hx hy ht hs hk hi
  simpa using this
theorem Res.idxA1 {e : TypeId} {len b j k : Nat} {i : Int} {kk : IntKind} (ho : o.op = .indexAddr t x y) (hx : L.ev x = some (.pointer (some ⟨b, j, none⟩))) (hy : L.ev y = some (.int kk i)) (ht : P.underlying t = some (.array len e)) (hs : SZ P e 1)
    (hk : i.toNat = k) (hi : 0 ≤ i ∧ i < len) : Res P o L w (.pointer (some ⟨b, j + k, none⟩)) := by
  have := Res.idxA (P := P) (w := w) 1 ho hx hy ht hs hk hi
  simpa using this
theorem Res.idxAN {e : TypeId} {len b k sz : Nat} {i : Int} {kk : IntKind} (ho : o.op = .indexAddr t x y) (hx : L.ev x = some (.pointer (some ⟨b, 0, none⟩))) (hy : L.ev y = some (.int kk i)) (ht : P.underlying t = some (.array len e)) (hs : SZ P e sz)
    (hk : i.toNat = k) (hi : 0 ≤ i ∧ i < len) : Res P o L w (.pointer (some ⟨b, k * sz, none⟩)) := by
  have := Res.idxA (P := P) (w := w) sz ho hx hy ht hs hk hi
  simpa using this
theorem Res.idxS0 {e : TypeId} {len cap b k : Nat} {i : Int} {kk : IntKind} (ho : o.op = .indexAddr t x y) (hx : L.ev x = some (.slice (some ⟨b, 0, none⟩) len cap)) (hy : L.ev y = some (.int kk i)) (ht : P.underlying t = some (.slice e)) (hs : SZ P e 1)
    (hk : i.toNat = k) (hi : 0 ≤ i ∧ i < len) : Res P o L w (.pointer (some ⟨b, k, none⟩)) := by
  have := Res.idxS (P := P) (w := w) 1 ho hx hy ht hs hk hi
  simpa using this
theorem Res.idxS1 {e : TypeId} {len cap b j k : Nat} {i : Int} {kk : IntKind} (ho : o.op = .indexAddr t x y) (hx : L.ev x = some (.slice (some ⟨b, j, none⟩) len cap)) (hy : L.ev y = some (.int kk i)) (ht : P.underlying t = some (.slice e)) (hs : SZ P e 1)
    (hk : i.toNat = k) (hi : 0 ≤ i ∧ i < len) : Res P o L w (.pointer (some ⟨b, j + k, none⟩)) := by
  have := Res.idxS (P := P) (w := w) 1 ho hx hy ht hs hk hi
  simpa using this
/-- an element of an array, which is a value -/
theorem Res.index1 {e : TypeId} {d : TypeDesc} {len k : Nat} {cs : Array Value} {i : Int} {kk : IntKind} {v : Value} (ho : o.op = .index t x y) (hx : L.ev x = some (.agg cs)) (hy : L.ev y = some (.int kk i)) (ht : P.underlying t = some (.array len e)) (hs : SZ P e 1)
    (hd : P.underlying e = some d) (ha : aggD d = false) (hk : i.toNat = k) (hi : 0 ≤ i ∧ i < len) (hv : cs[k]? = some v) : Res P o L w v := fun n a hfa => by
  unfold execOp
  simp only [ho, hfa.ev hx, hfa.ev hy, Instr.index, asIntOf, Sem.run_bind, Sem.run_pure, Result.andThen_ok, run_underlying ht]
  simp only [hi.1, hi.2, and_self, if_true, Sem.run_bind, run_sizeOf hs, Result.andThen_ok, Sem.run_pure, hk, part, run_isAgg hd, ha, Bool.false_eq_true, if_false, Nat.mul_one, hv]
theorem Res.extract {l : List Value} {i : Nat} {v : Value} (ho : o.op = .extract x i) (hx : L.ev x = some (.tuple l.toArray)) (hv : l[i]? = some v) : Res P o L w v := fun n a ha => by
  unfold execOp
  simp only [ho, ha.ev hx, Instr.extract]
  simp [hv]
theorem run_callB {c : Call} {b : Builtin} {args : List Value} {r : Value} {w' : World} {a : Act} (ho : o.op = .call c) (hf : c.callee = .builtin b) (hfa : Fits n L a) (ha : c.args.toList.map L.ev = args.map some)
    (h : ∀ k, (builtin b c.argTypes o.type k args.toArray).run P w = .ok (.value r) w') : (execOp a.eval o).run P w = .ok (.value r) w' := by
  have hargs : c.args.map a.eval = args.toArray := by
    apply Array.toList_inj.1
    simp only [Array.toList_map]
    have : ∀ (l : List Operand) (r : List Value), l.map L.ev = r.map some → l.map a.eval = r := by
      intro l
      induction l with
      | nil => intro r hr; cases r with
        | nil => rfl
        | cons => simp at hr
      | cons y l ih => intro r hr; cases r with
        | nil => simp at hr
        | cons v r =>
          simp only [List.map_cons, List.cons.injEq] at hr
          rw [List.map_cons, hfa.ev hr.1, ih r hr.2]
    exact this _ _ ha
  unfold execOp
  simp only [ho, resolve, hargs, hf, Sem.run_bind, Sem.run_pure, Result.andThen_ok, invoke]
  exact h _
theorem Res.len {c : Call} {a : Option Addr} {m k : Nat} {ts : TypeId} {e : TypeId} (ho : o.op = .call c) (hf : c.callee = .builtin .len) (ha : c.args.toList.map L.ev = [Value.slice a m k].map some)
    (hat : c.argTypes[0]? = some ts) (ht : P.underlying ts = some (.slice e)) : Res P o L w (.int .i64 m) := fun n ac hac =>
  run_callB ho hf hac ha fun k => by
    simp [builtin, Builtin.len_, hat, run_underlying ht, goInt]
theorem Res.lenStr {c : Call} {s : ByteArray} {ts : TypeId} (ho : o.op = .call c) (hf : c.callee = .builtin .len) (ha : c.args.toList.map L.ev = [Value.string s].map some)
    (hat : c.argTypes[0]? = some ts) (ht : P.underlying ts = some .string) : Res P o L w (.int .i64 s.size) := fun n ac hac =>
  run_callB ho hf hac ha fun k => by
    simp [builtin, Builtin.len_, hat, run_underlying ht, goInt]
/-- an array or struct that is built of its parts -/
theorem Res.build {parts : Array (Nat × Operand)} {vals : List (Nat × Value)} {cs : Array Value} (ho : o.op = .build t parts) (hv : parts.toList.map (fun p => (p.1, L.ev p.2)) = vals.map (fun p => (p.1, some p.2)))
    (h : ∀ w, (Instr.build t vals.toArray).run P w = .ok (.agg cs) w) : Res P o L w (.agg cs) := fun n a ha => by
  have hargs : (parts.map fun (i, x) => (i, a.eval x)) = vals.toArray := by
    apply Array.toList_inj.1
    simp only [Array.toList_map]
    have : ∀ (l : List (Nat × Operand)) (r : List (Nat × Value)), l.map (fun p => (p.1, L.ev p.2)) = r.map (fun p => (p.1, some p.2)) → l.map (fun (i, x) => (i, a.eval x)) = r := by
      intro l
      induction l with
      | nil => intro r hr; cases r with
        | nil => rfl
        | cons => simp at hr
      | cons y l ih => intro r hr; cases r with
        | nil => simp at hr
        | cons v r =>
          simp only [List.map_cons, List.cons.injEq, Prod.mk.injEq] at hr
          obtain ⟨⟨h1, h2⟩, h3⟩ := hr
          obtain ⟨y1, y2⟩ := y
          obtain ⟨v1, v2⟩ := v
          simp only at h1 h2
          subst h1
          simp only [List.map_cons, ha.ev h2, ih r h3]
    exact this _ _ hv
  unfold execOp
  simp only [ho, hargs, h, Sem.run_bind, Result.andThen_ok, Sem.run_pure]
/-- the address of the array that a slice begins with -/
theorem Res.s2a {e : TypeId} {a : Option Addr} {k m c : Nat} (ho : o.op = .sliceToArrayPointer t x) (hx : L.ev x = some (.slice a m c)) (ht : P.underlying t = some (.array k e)) (hk : k ≤ m) : Res P o L w (.pointer a) := fun n ac hac => by
  unfold execOp
  have : ¬ m < k := by omega
  simp only [ho, hac.ev hx, Instr.arrayAt, Sem.run_bind, run_underlying ht, Result.andThen_ok, this, if_false, Sem.run_pure]
/-- a whole array as a slice -/
theorem Res.sliceA {e : TypeId} {b j k : Nat} (ho : o.op = .slice t x none none none) (hx : L.ev x = some (.pointer (some ⟨b, j, none⟩))) (ht : P.underlying t = some (.array k e)) (h0 : 0 < k) {sz : Nat} (hs : SZ P e sz) : Res P o L w (.slice (some ⟨b, j, none⟩) k k) := fun n ac hac => by
  unfold execOp
  have hk : ¬ k = 0 := by omega
  simp [ho, hac.ev hx, Instr.sliceAt, run_underlying ht, Instr.sureAddr, Instr.sliceBounds, run_sizeOf hs, hk, Addr.add]
end
end Go.E
