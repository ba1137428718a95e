/- The engine's byte slices, growing slices, results. -/
import Derived.Test.YtanogodfnfkkbaaEng3
set_option linter.unusedVariables false
set_option linter.unusedSimpArgs false
namespace Go.E
open Go

def PH.cell (M : PH) (b j : Nat) : Option Value := match M b with
  | some (.cells cs _ _) => cs[j]?
  | _ => none
theorem PH.cell_mono {M M' : PH} (h : M.le M') {b j : Nat} {v : Value} (hc : M.cell b j = some v) : M'.cell b j = some v := by
  unfold PH.cell at *
  cases hm : M b with
  | none => simp [hm] at hc
  | some o => rw [h _ _ hm]; rw [hm] at hc; exact hc
theorem PH.cell_of {M : PH} {b j : Nat} {cs : Array Value} {T : TypeId} {fr : Nat × Nat} {v : Value} (h : M b = some (.cells cs T fr)) (hv : cs[j]? = some v) : M.cell b j = some v := by
  unfold PH.cell; rw [h]; exact hv
section
variable {P : Program} {w0 w : World} {M : PH} {O : Owned}
theorem St.cell (h : St w0 w M O) {b j : Nat} {v : Value} (hc : M.cell b j = some v) : w.cell? ⟨b, j, none⟩ = some v := by
  unfold PH.cell at hc
  cases hm : M b with
  | none => simp [hm] at hc
  | some o =>
    have := h.on _ _ hm
    cases o with
    | cells cs T fr => rw [hm] at hc; rw [cell_of this]; exact hc
    | _ => simp [hm] at hc
theorem St.ocell (h : St w0 w M O) {i b j : Nat} {cs : Array Value} {T : TypeId} {fr : Nat × Nat} {v : Value} (hi : nth O i = some (b, .cells cs T fr)) (hc : cs[j]? = some v) : w.cell? ⟨b, j, none⟩ = some v := by
  rw [cell_of (h.get hi)]; exact hc

/-! ### blocks of bytes -/
def bs (l : List UInt8) : Array Value := (l.map byte).toArray
@[simp] theorem size_bs (l : List UInt8) : (bs l).size = l.length := by simp [bs]
theorem bs_get {l : List UInt8} {j : Nat} (h : j < l.length) : (bs l)[j]? = some (byte (l.getD j 0)) := by
  simp [bs, List.getD, h]
theorem bs_set (l : List UInt8) (j : Nat) (x : UInt8) : (bs l).setIfInBounds j (byte x) = bs (l.set j x) := by
  apply Array.toList_inj.1
  simp [bs, List.map_set]
def tabV (l : List UInt8) : List (Nat × Value) := l.zipIdx.map fun p => (p.2, byte p.1)
theorem one_byte (x : UInt8) : (byte x).oneCell' = true := rfl
theorem one_bs (l : List UInt8) : ∀ v ∈ (bs l).toList, v.oneCell' = true := by
  intro v hv
  simp only [bs, List.toList_toArray, List.mem_map] at hv
  obtain ⟨x, _, rfl⟩ := hv
  rfl
theorem bs_inj {l l' : List UInt8} (h : bs l = bs l') : l = l' := by
  have h1 : l.map byte = l'.map byte := by have := congrArg Array.toList h; simpa [bs] using this
  have inj : ∀ x y, byte x = byte y → x = y := fun x y h => by
    simp only [byte, Value.int.injEq, true_and] at h
    exact UInt8.toNat_inj.1 (by omega)
  exact (List.map_inj_right inj).1 h1

/-- a slice of bytes -/
def Bs (M : PH) (v : Value) (l : List UInt8) : Prop :=
  ∃ oa cap, v = .slice oa l.length cap ∧ l.length ≤ cap ∧ cap ≤ 9223372036854775807 ∧ (oa = none → cap = 0) ∧
    ∀ j, j < l.length → ∃ b off, oa = some ⟨b, off, none⟩ ∧ M.cell b (off + j) = some (byte (l.getD j 0))
theorem Bs.mono {M M' : PH} (h : M.le M') {v : Value} {l : List UInt8} (hb : Bs M v l) : Bs M' v l := by
  obtain ⟨oa, cap, h1, h2, h3, h4, h5⟩ := hb
  exact ⟨oa, cap, h1, h2, h3, h4, fun j hj => let ⟨b, off, a1, a2⟩ := h5 j hj; ⟨b, off, a1, PH.cell_mono h a2⟩⟩
theorem Bs.nil (M : PH) : Bs M (.slice none 0 0) [] := ⟨none, 0, rfl, Nat.le_refl _, by omega, fun _ => rfl, fun j hj => by simp at hj⟩
/-- a slice over a whole block that is known -/
theorem Bs.of {M : PH} {b : Nat} {l : List UInt8} {T : TypeId} {fr : Nat × Nat} (h : M b = some (.cells (bs l) T fr)) (hl : l.length ≤ 9223372036854775807) : Bs M (.slice (some ⟨b, 0, none⟩) l.length l.length) l :=
  ⟨_, _, rfl, Nat.le_refl _, hl, (fun e => by cases e), fun j hj => ⟨b, 0, rfl, by rw [Nat.zero_add]; exact PH.cell_of h (bs_get hj)⟩⟩
/-- where it lies, if it is not empty -/
theorem Bs.at {M : PH} {v : Value} {l : List UInt8} (h : Bs M v l) (h0 : 0 < l.length) : ∃ b off cap, v = .slice (some ⟨b, off, none⟩) l.length cap ∧ l.length ≤ cap ∧ cap ≤ 9223372036854775807 ∧
    ∀ j, j < l.length → M.cell b (off + j) = some (byte (l.getD j 0)) := by
  obtain ⟨oa, cap, h1, h2, h3, h4, h5⟩ := h
  obtain ⟨b, off, rfl, h6⟩ := h5 0 h0
  exact ⟨b, off, cap, h1, h2, h3, fun j hj => by
    obtain ⟨b', off', e, h7⟩ := h5 j hj
    simp only [Option.some.injEq, Addr.mk.injEq] at e
    obtain ⟨rfl, rfl, _⟩ := e
    exact h7⟩
theorem Bs.len_le {M : PH} {v : Value} {l : List UInt8} (h : Bs M v l) : l.length ≤ 9223372036854775807 := by
  obtain ⟨oa, cap, h1, h2, h3, h4, h5⟩ := h; omega

/-! ### slices that grow -/
/-- the type facts that an append wants: the slice type t, its element e of sz cells and so many bytes -/
structure ET (P : Program) (t e : TypeId) (z : Value) (sz byt : Nat) : Prop where
  ut : P.underlying t = some (.slice e)
  ie : (P.info? e).map (fun i => (i.zero, i.size, i.bytes)) = some (some z, sz, byt)
/-- the slice value v owns the blocks g; its elements' cells are xs -/
def Own (n0 : Nat) (g : Owned) (v : Value) (m sz : Nat) (xs : List Value) (e : TypeId) : Prop :=
  xs.length = m * sz ∧
  ((v = .slice none 0 0 ∧ m = 0 ∧ g = []) ∨
   ∃ b cs cap, v = .slice (some ⟨b, 0, none⟩) m cap ∧ n0 ≤ b ∧ g = [(b, .cells cs e (0, 0))] ∧ cs.size = cap * sz ∧ m ≤ cap ∧ cap ≤ 9223372036854775807 ∧ cs.toList.take (m * sz) = xs)
theorem Own.nil (n0 : Nat) (sz : Nat) (e : TypeId) : Own n0 [] (.slice none 0 0) 0 sz [] e := ⟨by simp, .inl ⟨rfl, rfl, rfl⟩⟩

theorem St.cons_drop {x : Nat × Obj} (h : St w0 w M (x :: O)) (hb : w0.heap.size ≤ x.1) : St w0 w M O := h.drop (i := 0) (b := x.1) (o := x.2) rfl hb

/-- what an append's second operand yields -/
def intD : TypeDesc → Bool
  | .int _ => true
  | _ => false
structure Src (P : Program) (w : World) (u : TypeId) (x : Value) (m sz : Nat) (news : List Value) : Prop where
  d : ∃ du, P.underlying u = some du ∧ intD du = false
  len : ∀ w, (Builtin.lenOf x).run P w = .ok m w
  cells : ∀ w', w'.heap = w.heap → (Builtin.firstCells sz m x).run P w' = .ok news.toArray w'
  one : ∀ v ∈ news, v.oneCell' = true
  size : news.length = m * sz

set_option maxHeartbeats 4000000 in
theorem run_append {t u ty e : TypeId} {z : Value} {sz byt m sLen sCap : Nat} {base : Option Addr} {x : Value} {news olds : List Value} (he : ET P t e z sz byt) (hsz : 0 < sz) (hz : z.cells.size = sz) (hs : Src P w u x m sz news)
    (hlo : olds.length = sLen * sz) (hold : ∀ w', w'.heap = w.heap → (Builtin.firstCells sz sLen (.slice base sLen sCap)).run P w' = .ok olds.toArray w')
    (hg : sCap < sLen + m) (h63 : sLen + m ≤ 4611686018427387904) (hby : (sLen + m) * byt ≤ 140737488355328) :
    ∃ (cap : Nat) (rest : List Value), sLen + m ≤ cap ∧ cap ≤ 9223372036854775807 ∧ (olds ++ news).length + rest.length = cap * sz ∧ 
    (Builtin.append_ #[t, u] ty #[.slice base sLen sCap, x]).run P w = .ok (.slice (some ⟨w.heap.size, 0, none⟩) (sLen + m) cap) (w.drew.alloc (.cells ((olds ++ news).toArray ++ rest.toArray) e (0, 0))) := by
  obtain ⟨du, hdu, hnu⟩ := hs.d
  cases hq : P.info? e with
  | none => have := he.ie; simp [hq] at this
  | some i =>
    have hie := he.ie
    simp only [hq, Option.map_some, Option.some.injEq, Prod.mk.injEq] at hie
    obtain ⟨hz1, hz2, hz3⟩ := hie
    have hge : sLen + m ≤ grownCap w (sLen + m) sCap e := grownCap_ge w _ _ e
    have hle : grownCap w (sLen + m) sCap e ≤ 9223372036854775807 := by
      have := grownCap_le_maxLen w (sLen + m) sCap e (by unfold maxLen; omega)
      unfold maxLen at this; omega
    refine ⟨grownCap w (sLen + m) sCap e, (Builtin.zeroCells z.cells (grownCap w (sLen + m) sCap e - (sLen + m))).toList, hge, hle, ?_, ?_⟩
    · rw [List.length_append, hlo, hs.size, Array.length_toList, size_zeroCells, hz, ← Nat.add_mul, ← Nat.add_mul]
      congr 1; omega
    · have hn : ¬ (sLen + m ≤ sCap) := by omega
      have h63' : ¬ (9223372036854775807 < ((sLen : Int) + (m : Int))) := by omega
      have h48' : ¬ (281474976710656 < Builtin.nextslicecap (sLen + m) sCap * byt) := by
        have := growslice_fits hg hby; omega
      have hf := hs.cells w.drew rfl
      have ho := hold w.drew rfl
      have hl := hs.len w
      have hd : ({ w with drawn := w.drawn + 1 } : World) = w.drew := rfl
      cases du with
      | int k => simp [intD] at hnu
      | _ =>
        rw [show (olds ++ news).toArray = olds.toArray ++ news.toArray by simp, Array.append_assoc]
        simp [Builtin.append_, run_underlying he.ut, run_underlying hdu, sizeOf, typeInfo, zeroValue, hq, hz1, hz2, hz3, hl, hn, h63', h48', Question.forced, newRow, hd, ho, hf, grownCap]

theorem Src.slice {u e : TypeId} {a : Addr} {m c sz : Nat} {news : List Value} (hu : P.underlying u = some (.slice e)) (hl : news.length = m * sz) (hc : ∀ j v, news[j]? = some v → w.cell? (a.add j) = some v) (h1 : ∀ v ∈ news, v.oneCell' = true) :
    Src P w u (.slice (some a) m c) m sz news :=
  ⟨⟨_, hu, rfl⟩, fun w => rfl, fun w' hw => run_firstCells_some w' sz m a m c news hl fun j v hj => by
    have := hc j v hj
    simp only [World.cell?, hw] at *; exact this, h1, hl⟩
theorem Src.nil {u e : TypeId} {sz : Nat} (hu : P.underlying u = some (.slice e)) : Src P w u (.slice none 0 0) 0 sz [] :=
  ⟨⟨_, hu, rfl⟩, fun w => rfl, fun w' hw => run_firstCells_none w' sz 0 0 0, (fun v hv => by cases hv), by simp⟩
theorem Src.str {u : TypeId} {s : ByteArray} (hu : P.underlying u = some .string) : Src P w u (.string s) s.size 1 (s.data.toList.map byte) :=
  ⟨⟨_, hu, rfl⟩, fun w => rfl, fun w' hw => by
    simp only [Builtin.firstCells]
    have : s.extract 0 s.size = s := by
      apply ByteArray.ext; simp
    rw [this]
    have h2 : (s.data.map fun b => Value.int IntKind.u8 (b.toNat : Int)) = (s.data.toList.map byte).toArray := by
      apply Array.toList_inj.1; simp [byte]
    rw [h2]
    rfl
    , fun v hv => by
      simp only [List.mem_map] at hv
      obtain ⟨x, _, rfl⟩ := hv
      rfl, by simp⟩

/-! ### stores of bytes -/
section
variable {n : Nat} {L : Env} {o : Oper} {x y : Operand} {t : TypeId} {K : Env → World → Prop}
theorem Stp.storeB {a : UInt8} (i : Nat) {b j : Nat} {l : List UInt8} {T : TypeId} (ho : o.op = .store t x y) (hx : L.ev x = some (.pointer (some ⟨b, j, none⟩))) (hy : L.ev y = some (byte a)) (hs : SZ P t 1)
    (hd : o.dst = none) (hS : St w0 w M O) (hi : nth O i = some (b, .cells (bs l) T (0, 0))) (hj : j < l.length)
    (h : ∀ w', St w0 w' M (upd O i (.cells (bs (l.set j a)) T (0, 0))) → Put w w' b (.cells (bs (l.set j a)) T (0, 0)) → K L w') : Stp P n o L w K :=
  Stp.store1 i ho hx hy hs rfl hd hS hi (by simpa using hj) fun w' hw hp => by rw [bs_set] at hw hp; exact h w' hw hp
theorem Stp.storeAllB (i : Nat) {b k : Nat} {l r : List UInt8} {T : TypeId} (ho : o.op = .store t x y) (hx : L.ev x = some (.pointer (some ⟨b, 0, none⟩))) (hy : L.ev y = some (.agg (bs r))) (hs : SZ P t k)
    (hd : o.dst = none) (hS : St w0 w M O) (hi : nth O i = some (b, .cells (bs l) T (0, 0))) (hk : l.length = k ∧ r.length = k)
    (h : ∀ w', St w0 w' M (upd O i (.cells (bs r) T (0, 0))) → Put w w' b (.cells (bs r) T (0, 0)) → K L w') : Stp P n o L w K :=
  Stp.storeAll i ho hx hy (by rw [size_bs, hk.2]; exact hs) (one_bs r) hd hS hi (by simp; omega) h
/-- an array of bytes is written into a block of bytes, at j -/
theorem Stp.storeNB (i : Nat) {b j k : Nat} {l r : List UInt8} {T : TypeId} (ho : o.op = .store t x y) (hx : L.ev x = some (.pointer (some ⟨b, j, none⟩))) (hy : L.ev y = some (.agg (bs r))) (hs : SZ P t k)
    (hd : o.dst = none) (hS : St w0 w M O) (hi : nth O i = some (b, .cells (bs l) T (0, 0))) (hk : r.length = k) (hj : j + k ≤ l.length)
    (h : ∀ w', St w0 w' M (upd O i (.cells (bs (l.take j ++ r ++ l.drop (j + k))) T (0, 0))) → Put w w' b (.cells (bs (l.take j ++ r ++ l.drop (j + k))) T (0, 0)) → K L w') : Stp P n o L w K :=
  Stp.storeN i ho hx hy hs (by simpa using hk) (one_bs r) hd hS hi (by simpa using hj) fun w' hw hp => by
    have e : ((bs l).toList.take j ++ (bs r).toList ++ (bs l).toList.drop (j + k)).toArray = bs (l.take j ++ r ++ l.drop (j + k)) := by simp [bs]
    rw [e] at hw hp
    exact h w' hw hp
/-- bytes read at once out of a block of bytes -/
theorem Res.loadNB {d : TypeDesc} {b i k : Nat} {l : List UInt8} (ho : o.op = .load t x) (hx : L.ev x = some (.pointer (some ⟨b, i, none⟩))) (hd : P.underlying t = some d) (ha : aggD d = true)
    (hs : SZ P t k) (hl : l.length = k) (hv : ∀ j, j < k → w.cell? ⟨b, i + j, none⟩ = some (byte (l.getD j 0))) : Res P o L w (.agg (bs l)) := by
  refine Res.loadN (r := l.map byte) ho hx hd ha hs (by simpa using hl) fun j u hj => ?_
  have hlt : j < l.length := by have := (List.getElem?_eq_some_iff.1 hj).1; simpa using this
  rw [hv j (by omega)]
  have := bs_get hlt
  simp only [bs, List.getElem?_toArray] at this
  rw [← this]; exact hj
end

/-! ### whole numbers' bits -/
section
variable {L : Env} {o : Oper} {x y : Operand} {t t2 : TypeId} {a b : Nat}
theorem ofInt_nat (a : Nat) : BitVec.ofInt 64 (a : Int) = BitVec.ofNat 64 a := by
  apply BitVec.eq_of_toNat_eq; simp [BitVec.toNat_ofInt]
theorem Res.xorI (ho : o.op = .binOp .xor t x y t2) (hx : L.ev x = some (.int .i64 (a : Int))) (hy : L.ev y = some (.int .i64 (b : Int)))
    (h : a < 2 ^ 62 ∧ b < 2 ^ 62) : Res P o L w (.int .i64 ((a ^^^ b : Nat) : Int)) := fun n c hc =>
  run_bin ho (hc.ev hx) (hc.ev hy) rfl (by
    have h1 : a ^^^ b < 2 ^ 62 := Nat.xor_lt_two_pow h.1 h.2
    have h2 : (BitVec.ofNat 64 a ^^^ BitVec.ofNat 64 b).toNat = a ^^^ b := by
      simp only [BitVec.toNat_xor, BitVec.toNat_ofNat]
      rw [Nat.mod_eq_of_lt (by omega), Nat.mod_eq_of_lt (by omega)]
    have h3 : (binOp .xor t (.int .i64 (a : Int)) (.int .i64 (b : Int))).run P w = .ok (.int .i64 (IntKind.i64.wrap (((BitVec.ofInt 64 (a : Int) ^^^ BitVec.ofInt 64 (b : Int)).toNat : Nat) : Int))) w := rfl
    rw [h3, ofInt_nat, ofInt_nat, h2, wrap_i64 (by omega)])
theorem Res.andI (ho : o.op = .binOp .and t x y t2) (hx : L.ev x = some (.int .i64 (a : Int))) (hy : L.ev y = some (.int .i64 (b : Int)))
    (h : a < 2 ^ 62 ∧ b < 2 ^ 62) : Res P o L w (.int .i64 ((a &&& b : Nat) : Int)) := fun n c hc =>
  run_bin ho (hc.ev hx) (hc.ev hy) rfl (by
    have h1 : a &&& b < 2 ^ 62 := Nat.and_lt_two_pow _ h.2
    have h2 : (BitVec.ofNat 64 a &&& BitVec.ofNat 64 b).toNat = a &&& b := by
      simp only [BitVec.toNat_and, BitVec.toNat_ofNat]
      rw [Nat.mod_eq_of_lt (by omega), Nat.mod_eq_of_lt (by omega)]
    have h3 : (binOp .and t (.int .i64 (a : Int)) (.int .i64 (b : Int))).run P w = .ok (.int .i64 (IntKind.i64.wrap (((BitVec.ofInt 64 (a : Int) &&& BitVec.ofInt 64 (b : Int)).toNat : Nat) : Int))) w := rfl
    rw [h3, ofInt_nat, ofInt_nat, h2, wrap_i64 (by omega)])
theorem Res.orI (ho : o.op = .binOp .or t x y t2) (hx : L.ev x = some (.int .i64 (a : Int))) (hy : L.ev y = some (.int .i64 (b : Int)))
    (h : a < 2 ^ 62 ∧ b < 2 ^ 62) : Res P o L w (.int .i64 ((a ||| b : Nat) : Int)) := fun n c hc =>
  run_bin ho (hc.ev hx) (hc.ev hy) rfl (by
    have h1 : a ||| b < 2 ^ 62 := Nat.or_lt_two_pow h.1 h.2
    have h2 : (BitVec.ofNat 64 a ||| BitVec.ofNat 64 b).toNat = a ||| b := by
      simp only [BitVec.toNat_or, BitVec.toNat_ofNat]
      rw [Nat.mod_eq_of_lt (by omega), Nat.mod_eq_of_lt (by omega)]
    have h3 : (binOp .or t (.int .i64 (a : Int)) (.int .i64 (b : Int))).run P w = .ok (.int .i64 (IntKind.i64.wrap (((BitVec.ofInt 64 (a : Int) ||| BitVec.ofInt 64 (b : Int)).toNat : Nat) : Int))) w := rfl
    rw [h3, ofInt_nat, ofInt_nat, h2, wrap_i64 (by omega)])
theorem Res.andNotI (ho : o.op = .binOp .andNot t x y t2) (hx : L.ev x = some (.int .i64 (a : Int))) (hy : L.ev y = some (.int .i64 (b : Int)))
    (h : a < 2 ^ 62 ∧ b < 2 ^ 62) : Res P o L w (.int .i64 ((a ^^^ (a &&& b) : Nat) : Int)) := fun n c hc =>
  run_bin ho (hc.ev hx) (hc.ev hy) rfl (by
    have h0 : a &&& b < 2 ^ 62 := Nat.and_lt_two_pow _ h.2
    have h1 : a ^^^ (a &&& b) < 2 ^ 62 := Nat.xor_lt_two_pow h.1 h0
    have h2 : (BitVec.ofNat 64 a &&& ~~~ BitVec.ofNat 64 b).toNat = a ^^^ (a &&& b) := by
      have e : BitVec.ofNat 64 a &&& ~~~ BitVec.ofNat 64 b = BitVec.ofNat 64 a ^^^ (BitVec.ofNat 64 a &&& BitVec.ofNat 64 b) := by
        apply BitVec.eq_of_getElem_eq
        intro i hi
        simp only [BitVec.getElem_and, BitVec.getElem_not, BitVec.getElem_xor]
        cases (BitVec.ofNat 64 a)[i] <;> cases (BitVec.ofNat 64 b)[i] <;> rfl
      rw [e]
      simp only [BitVec.toNat_xor, BitVec.toNat_and, BitVec.toNat_ofNat]
      rw [Nat.mod_eq_of_lt (by omega : a < 2 ^ 64), Nat.mod_eq_of_lt (by omega : b < 2 ^ 64)]
    have h3 : (binOp .andNot t (.int .i64 (a : Int)) (.int .i64 (b : Int))).run P w = .ok (.int .i64 (IntKind.i64.wrap (((BitVec.ofInt 64 (a : Int) &&& ~~~ BitVec.ofInt 64 (b : Int)).toNat : Nat) : Int))) w := rfl
    rw [h3, ofInt_nat, ofInt_nat, h2, wrap_i64 (by omega)])
end
end
end Go.E
