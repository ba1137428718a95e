/- The engine: made slices, texts, growing byte slices. -/
import Derived.Test.YtanogodfnfkkbaaEng6
import Derived.Laws.BytesArg
import Derived.Lib.SlBytesConst
set_option linter.unusedVariables false
set_option linter.unusedSimpArgs false
namespace Go.E
open Go
section
variable {P : Program} {n : Nat} {L : Env} {w0 w : World} {M : PH} {O g : Owned} {o : Oper} {x y : Operand} {t e : TypeId} {K : Env → World → Prop}

theorem madeCells_byte (k : Nat) : madeCells (byte 0).cells k = bs (List.replicate k 0) := by
  apply Array.toList_inj.1
  apply List.ext_getElem
  · simp [madeCells, bs]
  · intro i h1 h2
    have : i % 1 = 0 := Nat.mod_one i
    simp [madeCells, bs, byte, Value.cells, this]
/-- make([]byte, k, c) -/
theorem Stp.makeB {d k c : Nat} {kl kc : IntKind} (ho : o.op = .makeSlice t x y) (hx : L.ev x = some (.int kl (k : Int))) (hy : L.ev y = some (.int kc (c : Int))) (he : ET P t e (byte 0) 1 1) (hkc : k ≤ c ∧ c ≤ 281474976710656)
    (hd : o.dst = some d) (hn : Nat.blt d n = true) (hS : St w0 w M O)
    (h : ∀ b w', w0.heap.size ≤ b → St w0 w' M ((b, .cells (bs (List.replicate c 0)) e (0, 0)) :: O) → Kept w w' → w.heap[b]? = none → K ((d, .slice (some ⟨b, 0, none⟩) k c) :: L) w') : Stp P n o L w K := by
  cases hq : P.info? e with
  | none => have := he.ie; simp [hq] at this
  | some i =>
    have hie := he.ie
    simp only [hq, Option.map_some, Option.some.injEq, Prod.mk.injEq] at hie
    obtain ⟨h1, h2, h3⟩ := hie
    have hr := run_make (P := P) w t e i (byte 0) he.ut hq h1 kl kc (k : Int) (c : Int) (by omega) (by omega) (by rw [h3]; omega) (by omega)
    simp only [Int.toNat_natCast, h2, Nat.mul_one, madeCells_byte] at hr
    exact Stp.resW (w' := w.alloc (.cells (bs (List.replicate c 0)) e (0, 0))) hd hn (fun n a ha => by
      unfold execOp
      simp only [ho, ha.ev hx, ha.ev hy, Sem.run_bind, hr, Result.andThen_ok, Sem.run_pure]) (h _ _ hS.size (hS.alloc _) (Kept.alloc _ _) (new_none _))
/-- a slice literal -/
theorem Stp.lit {d k : Nat} {parts : Array (Nat × Operand)} {vals : List (Nat × Value)} {cs : Array Value} (ho : o.op = .buildSlice t k parts) (hv : parts.toList.map (fun p => (p.1, L.ev p.2)) = vals.map (fun p => (p.1, some p.2)))
    (hr : ∀ w, (Instr.buildSlice t k vals.toArray).run P w = .ok (.slice (some ⟨w.heap.size, 0, none⟩) k k) (w.alloc (.cells cs e (0, 0))))
    (hd : o.dst = some d) (hn : Nat.blt d n = true) (hS : St w0 w M O)
    (h : ∀ b w', w0.heap.size ≤ b → St w0 w' M ((b, .cells cs e (0, 0)) :: O) → Kept w w' → w.heap[b]? = none → K ((d, .slice (some ⟨b, 0, none⟩) k k) :: L) w') : Stp P n o L w K :=
  Stp.resW (w' := w.alloc (.cells cs e (0, 0))) hd hn (fun n a ha => by
    have hargs : (parts.map fun (i, x) => (i, a.eval x)) = vals.toArray := by
      apply Array.toList_inj.1
      simp only [Array.toList_map]
      have : ∀ (l : List (Nat × Operand)) (r : List (Nat × Value)), l.map (fun p => (p.1, L.ev p.2)) = r.map (fun p => (p.1, some p.2)) → l.map (fun (i, x) => (i, a.eval x)) = r := by
        intro l
        induction l with
        | nil => intro r hr; cases r with
          | nil => rfl
          | cons => simp at hr
        | cons y l ih => intro r hr; cases r with
          | nil => simp at hr
          | cons v r =>
            simp only [List.map_cons, List.cons.injEq, Prod.mk.injEq] at hr
            obtain ⟨⟨h1, h2⟩, h3⟩ := hr
            obtain ⟨y1, y2⟩ := y
            obtain ⟨v1, v2⟩ := v
            simp only at h1 h2
            subst h1
            simp only [List.map_cons, ha.ev h2, ih r h3]
      exact this _ _ hv
    unfold execOp
    simp only [ho, hargs, hr, Sem.run_bind, Result.andThen_ok, Sem.run_pure]) (h _ _ hS.size (hS.alloc _) (Kept.alloc _ _) (new_none _))

/-! ### texts -/
def str (l : List UInt8) : Value := .string ⟨l.toArray⟩
theorem toNat_byte (l : List UInt8) : (l.map fun b => (b.toNat : Int)).map (fun n => UInt8.ofNat n.toNat) = l := by
  rw [List.map_map]
  conv => rhs; rw [← List.map_id l]
  apply List.map_congr_left
  intro b _
  simp
theorem run_b2s (hS : St w0 w M O) {v : Value} {l : List UInt8} (hb : Bs M v l) {s d u : TypeId} (hs : P.underlying s = some (.slice u)) (hu : P.underlying u = some (.int .u8)) (hd : P.underlying d = some .string) :
    (convert s d v).run P w = .ok (str l) w := by
  obtain ⟨oa, cap, rfl, h2, h3, h4, h5⟩ := hb
  have hstr : strOfNums (l.map fun b => (b.toNat : Int)) = ⟨l.toArray⟩ := by
    apply ByteArray.ext
    apply Array.toList_inj.1
    rw [strOfNums_data, toNat_byte]
  by_cases h0 : 0 < l.length
  · obtain ⟨b, off, rfl, _⟩ := h5 0 h0
    have := run_convert_bytes_arg (P := P) w s u hs hu b off l.length cap (l.map fun b => (b.toNat : Int)) (by simp) (fun i hi => by
      obtain ⟨b', off', e, h7⟩ := h5 i hi
      simp only [Option.some.injEq, Addr.mk.injEq] at e
      obtain ⟨rfl, rfl, _⟩ := e
      rw [hS.cell h7]
      simp [byte, List.getD, hi]) d hd
    rw [this, hstr]; rfl
  · have hl : l = [] := List.eq_nil_of_length_eq_zero (by omega)
    subst hl
    cases oa with
    | none =>
      rw [run_convert_bytes_nil w s u hs hu _ _ d hd]; rfl
    | some a =>
      rw [run_convert_bytes_string w s d u _ _ cap hs hu hd]
      simp [Conv.bytesToString, loadCells, loadCellsFrom, str, ByteArray.empty, ByteArray.emptyWithCapacity]
      rfl
theorem Res.b2s {v : Value} {l : List UInt8} {s d u : TypeId} (ho : o.op = .convert s d x) (hx : L.ev x = some v) (hS : St w0 w M O) (hb : Bs M v l) (hs : P.underlying s = some (.slice u)) (hu : P.underlying u = some (.int .u8)) (hd : P.underlying d = some .string) : Res P o L w (str l) := fun n a ha => by
  unfold execOp
  simp only [ho, ha.ev hx, Sem.run_bind, run_b2s hS hb hs hu hd, Result.andThen_ok, Sem.run_pure]
theorem str_inj {a b : List UInt8} (h : str a = str b) : a = b := by
  simp only [str, Value.string.injEq, ByteArray.mk.injEq] at h
  have := congrArg Array.toList h
  simpa using this
theorem Res.eqlS {a b : List UInt8} {t2 : TypeId} (ho : o.op = .binOp .eql t x y t2) (hx : L.ev x = some (str a)) (hy : L.ev y = some (str b)) : Res P o L w (.bool (decide (a = b))) := fun n c hc =>
  run_bin ho (hc.ev hx) (hc.ev hy) (by simp [eqGuard, str]) (by
    simp only [str, binOp, Op.stringOp, Sem.run_pure, ByteArray.toList_mk]
    congr 2
    by_cases h : a = b <;> simp [h])
theorem Res.neqS {a b : List UInt8} {t2 : TypeId} (ho : o.op = .binOp .neq t x y t2) (hx : L.ev x = some (str a)) (hy : L.ev y = some (str b)) : Res P o L w (.bool (decide (¬ a = b))) := fun n c hc =>
  run_bin ho (hc.ev hx) (hc.ev hy) (by simp [eqGuard, str]) (by
    simp only [str, binOp, Op.stringOp, Sem.run_pure, ByteArray.toList_mk]
    congr 2
    by_cases h : a = b <;> simp [h])

/-! ### growing byte slices -/
def OwnB (n0 : Nat) (g : Owned) (v : Value) (l : List UInt8) (e : TypeId) : Prop := Own n0 g v l.length 1 (l.map byte) e
theorem OwnB.nil (n0 : Nat) (e : TypeId) : OwnB n0 [] (.slice none 0 0) [] e := Own.nil n0 1 e
theorem OwnB.of {n0 b : Nat} {l : List UInt8} {c k : Nat} (hb : n0 ≤ b) (hk : k ≤ c) (hc : c ≤ 9223372036854775807) (l' : List UInt8) (hl : l.length = c) (hl' : l.take k = l') : OwnB n0 [(b, .cells (bs l) e (0, 0))] (.slice (some ⟨b, 0, none⟩) k c) l' e := by
  subst hl'
  have e1 : (l.take k).length = k := by simp; omega
  refine ⟨by simp, .inr ⟨b, _, c, by rw [e1], hb, rfl, by simp [hl], by omega, hc, ?_⟩⟩
  rw [e1, Nat.mul_one]
  simp [bs]
theorem Src.ofBs {v : Value} {l : List UInt8} {u : TypeId} (hu : P.underlying u = some (.slice e)) (hS : St w0 w M O) (hb : Bs M v l) : Src P w u v l.length 1 (l.map byte) := by
  obtain ⟨oa, cap, rfl, h2, h3, h4, h5⟩ := hb
  have hone : ∀ v ∈ l.map byte, v.oneCell' = true := fun v hv => by
    obtain ⟨x, _, rfl⟩ := List.mem_map.1 hv
    rfl
  by_cases h0 : 0 < l.length
  · obtain ⟨b, off, rfl, _⟩ := h5 0 h0
    refine Src.slice hu (by simp) (fun j v hj => ?_) hone
    have hjl : j < l.length := by have := (List.getElem?_eq_some_iff.1 hj).1; simpa using this
    obtain ⟨b', off', e', h7⟩ := h5 j hjl
    simp only [Option.some.injEq, Addr.mk.injEq] at e'
    obtain ⟨rfl, rfl, _⟩ := e'
    rw [addr_add, hS.cell h7]
    have := bs_get hjl
    simp only [bs, List.getElem?_toArray] at this
    rw [← this]; exact hj
  · have hl : l = [] := List.eq_nil_of_length_eq_zero (by omega)
    subst hl
    exact ⟨⟨_, hu, rfl⟩, fun w => rfl, fun w' _ => by cases oa <;> simp [Builtin.firstCells, loadCells, loadCellsFrom], hone, by simp⟩
theorem Src.ofStr {l : List UInt8} {u : TypeId} (hu : P.underlying u = some .string) : Src P w u (Go.E.str l) l.length 1 (l.map byte) := Src.str (s := ⟨l.toArray⟩) hu
theorem Stp.appendB {c : Call} {v s : Value} {u d : Nat} {l r : List UInt8} (ho : o.op = .call c) (hf : c.callee = .builtin .append) (ha : c.args.toList.map L.ev = [v, s].map some)
    (hat : c.argTypes = #[t, u]) (he : ET P t e (byte 0) 1 1) (hs : Src P w u s r.length 1 (r.map byte)) (hS : St w0 w M (g ++ O)) (hw : OwnB w0.heap.size g v l e)
    (h63 : l.length + r.length ≤ 140737488355328) (hd : o.dst = some d) (hn : Nat.blt d n = true)
    (h : ∀ v' w' g', St w0 w' M (g' ++ O) → OwnB w0.heap.size g' v' (l ++ r) e → K ((d, v') :: L) w') : Stp P n o L w K :=
  Stp.append ho hf ha hat he (by decide) rfl hs hS hw (by omega) (by omega) hd hn fun v' w' g' h1 h2 => h v' w' g' h1 (by
    unfold OwnB
    rw [List.length_append, List.map_append]
    exact h2)
/-- a grown slice is given away -/
theorem OwnB.give {v : Value} {l : List UInt8} (h : OwnB w0.heap.size g v l e) (hS : St w0 w M (g ++ O)) : ∃ M', St w0 w M' O ∧ M.le M' ∧ Fresh M M' w0.heap.size ∧ Bs M' v l := by
  obtain ⟨h1, ⟨rfl, h3, rfl⟩ | ⟨b, cs, cap, rfl, hb, rfl, hcs, hm, hcap, ht⟩⟩ := h
  · have hl : l = [] := List.eq_nil_of_length_eq_zero h3
    subst hl
    exact ⟨M, hS, PH.le.refl _, Fresh.refl _ _, Bs.nil M⟩
  · have hf := hS.freeze (i := 0) (b := b) rfl hb
    refine ⟨_, hf.1, hf.2, Fresh.add _ hb, some ⟨b, 0, none⟩, cap, rfl, hm, hcap, (fun e => by cases e), fun j hj => ⟨b, 0, rfl, ?_⟩⟩
    rw [Nat.zero_add]
    refine PH.cell_of (PH.add_self _ _ _) ?_
    have e1 : (l.map byte)[j]? = some (byte (l.getD j 0)) := by
      have := bs_get hj
      simp only [bs, List.getElem?_toArray] at this
      exact this
    rw [← ht, List.getElem?_take] at e1
    rw [if_pos (by omega)] at e1
    simpa using e1
/-- where a grown slice lies, if it is not empty -/
theorem OwnB.at {n0 : Nat} {v : Value} {l : List UInt8} (h : OwnB n0 g v l e) (h0 : 0 < l.length) : ∃ b cs cap, v = .slice (some ⟨b, 0, none⟩) l.length cap ∧ g = [(b, .cells cs e (0, 0))] ∧ ∀ j, j < l.length → cs[j]? = some (byte (l.getD j 0)) := by
  obtain ⟨h1, ⟨rfl, h3, rfl⟩ | ⟨b, cs, cap, rfl, hb, rfl, hcs, hm, hcap, ht⟩⟩ := h
  · omega
  · refine ⟨b, cs, cap, rfl, rfl, fun j hj => ?_⟩
    have e1 : (l.map byte)[j]? = some (byte (l.getD j 0)) := by
      have := bs_get hj
      simp only [bs, List.getElem?_toArray] at this
      exact this
    rw [← ht, List.getElem?_take] at e1
    rw [if_pos (by omega)] at e1
    simpa using e1
end
end Go.E
