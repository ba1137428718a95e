/- The engine's append. -/
import Derived.Test.YtanogodfnfkkbaaEng4
set_option linter.unusedVariables false
set_option linter.unusedSimpArgs false
namespace Go.E
open Go
section
variable {P : Program} {n : Nat} {L : Env} {w0 w : World} {M : PH} {O g : Owned} {o : Oper} {K : Env → World → Prop}

theorem setRow_take (l : List Value) (k : Nat) (news : List Value) (h : k + news.length ≤ l.length) (xs : List Value) (hx : l.take k = xs) :
    (l.take k ++ news ++ l.drop (k + news.length)).take (k + news.length) = xs ++ news := by
  have h1 : (l.take k ++ news).length = k + news.length := by simp; omega
  rw [← h1, List.take_left, hx]

set_option maxHeartbeats 4000000 in
theorem run_append_fits {t u ty e : TypeId} {z : Value} {sz byt m sLen sCap b : Nat} {x : Value} {news : List Value} {cs : Array Value} {T : TypeId} (he : ET P t e z sz byt) (hs : Src P w u x m sz news)
    (hg : sLen + m ≤ sCap) (hb : w.heap[b]? = some (.cells cs T (0, 0))) (hc : sCap * sz ≤ cs.size) :
    (Builtin.append_ #[t, u] ty #[.slice (some ⟨b, 0, none⟩) sLen sCap, x]).run P w = .ok (.slice (some ⟨b, 0, none⟩) (sLen + m) sCap)
      (w.setRow b (cs.toList.take (sLen * sz) ++ news ++ cs.toList.drop (sLen * sz + news.length)).toArray) := by
  obtain ⟨du, hdu, hnu⟩ := hs.d
  have hfit : sLen * sz + news.length ≤ cs.size := by
    rw [hs.size, ← Nat.add_mul]; exact Nat.le_trans (Nat.mul_le_mul_right _ hg) hc
  cases hq : P.info? e with
  | none => have := he.ie; simp [hq] at this
  | some i =>
    have hie := he.ie
    simp only [hq, Option.map_some, Option.some.injEq, Prod.mk.injEq] at hie
    obtain ⟨hz1, hz2, hz3⟩ := hie
    have hf := hs.cells w rfl
    have hl := hs.len w
    have hst := run_storeCells_at (P := P) b (sLen * sz) T news 0 cs w hb (by simpa using hfit) hs.one
    simp only [Nat.add_zero] at hst
    cases du with
    | int k => simp [intD] at hnu
    | _ =>
      simp [Builtin.append_, run_underlying he.ut, run_underlying hdu, sizeOf, typeInfo, hq, hz2, hl, hg, hf, addr_add, hst]

set_option maxHeartbeats 4000000 in
theorem run_append_none {t u ty e : TypeId} {z : Value} {sz byt : Nat} {x : Value} (he : ET P t e z sz byt) (hs : Src P w u x 0 sz []) :
    (Builtin.append_ #[t, u] ty #[.slice none 0 0, x]).run P w = .ok (.slice none 0 0) w := by
  obtain ⟨du, hdu, hnu⟩ := hs.d
  have hie := he.ie
  cases hq : P.info? e with
  | none => simp [hq] at hie
  | some i =>
    simp only [hq, Option.map_some, Option.some.injEq, Prod.mk.injEq] at hie
    have hl := hs.len w
    have hf := hs.cells w rfl
    cases du with
    | int k => simp [intD] at hnu
    | _ => simp [Builtin.append_, run_underlying he.ut, run_underlying hdu, sizeOf, typeInfo, hq, hie.2.1, hl, hf]

set_option maxHeartbeats 1000000 in
theorem Stp.append {c : Call} {v x : Value} {t u e : TypeId} {z : Value} {sz byt m k d : Nat} {xs news : List Value} (ho : o.op = .call c) (hf : c.callee = .builtin .append) (ha : c.args.toList.map L.ev = [v, x].map some)
    (hat : c.argTypes = #[t, u]) (he : ET P t e z sz byt) (hsz : 0 < sz) (hz : z.cells.size = sz) (hs : Src P w u x m sz news) (hS : St w0 w M (g ++ O)) (hw : Own w0.heap.size g v k sz xs e)
    (h63 : k + m ≤ 4611686018427387904) (hby : (k + m) * byt ≤ 140737488355328) (hd : o.dst = some d) (hn : Nat.blt d n = true)
    (h : ∀ v' w' g', St w0 w' M (g' ++ O) → Own w0.heap.size g' v' (k + m) sz (xs ++ news) e → K ((d, v') :: L) w') : Stp P n o L w K := by
  have fin : ∀ v' w', (Builtin.append_ #[t, u] o.type #[v, x]).run P w = .ok v' w' → (∃ g', St w0 w' M (g' ++ O) ∧ Own w0.heap.size g' v' (k + m) sz (xs ++ news) e) → Stp P n o L w K := fun v' w' hr ⟨g', h1, h2⟩ =>
    Stp.resW hd hn (fun n a hfa => run_callB ho hf hfa ha fun cc => by
      simp only [builtin, hat, Sem.run_bind, hr, Result.andThen_ok, Sem.run_pure]) (h v' w' g' h1 h2)
  have hlen : (xs ++ news).length = (k + m) * sz := by rw [List.length_append, hw.1, hs.size, Nat.add_mul]
  rcases hw.2 with ⟨rfl, rfl, rfl⟩ | ⟨b, cs, cap, rfl, hb0, rfl, hcs, hkc, hcap, htk⟩
  · have hx0 : xs = [] := List.eq_nil_of_length_eq_zero (by simpa using hw.1)
    subst hx0
    by_cases hm : m = 0
    · subst hm
      have hn0 : news = [] := List.eq_nil_of_length_eq_zero (by simpa using hs.size)
      subst hn0
      exact fin (.slice none 0 0) w (run_append_none he hs) ⟨[], hS, by simp, .inl ⟨rfl, rfl, rfl⟩⟩
    · obtain ⟨cap, rest, h1, h2, h3, hr⟩ := run_append (P := P) (w := w) (ty := o.type) (base := none) (sLen := 0) (sCap := 0) (olds := []) he hsz hz hs (by simp) (fun w' _ => by rw [run_firstCells_none]) (by omega) (by omega) hby
      refine fin _ _ hr ⟨[(w.heap.size, _)], hS.drew.alloc _, hlen, .inr ⟨_, _, cap, rfl, hS.size, rfl, ?_, h1, h2, ?_⟩⟩
      · simp only [List.size_toArray, Array.size_append]; simp only [List.length_append] at h3; simpa using h3
      · rw [← hlen]; simp
  · have hbl := hS.get (i := 0) (b := b) rfl
    by_cases hroom : k + m ≤ cap
    · have hr := run_append_fits (P := P) (ty := o.type) he hs hroom hbl (by rw [hcs]; exact Nat.le_refl _)
      have hfit : k * sz + news.length ≤ cs.toList.length := by
        rw [hs.size, ← Nat.add_mul, Array.length_toList, hcs]; exact Nat.mul_le_mul_right _ hroom
      refine fin _ _ hr ⟨[(b, _)], hS.put (i := 0) (b := b) rfl (put_setRow hbl), hlen, .inr ⟨b, _, cap, rfl, hb0, rfl, ?_, hroom, hcap, ?_⟩⟩
      · simp only [List.size_toArray, List.length_append, List.length_take, List.length_drop, Array.length_toList] at hfit ⊢; omega
      · have := setRow_take cs.toList (k * sz) news hfit xs htk
        rw [hs.size, ← Nat.add_mul] at this
        simpa [hs.size, ← Nat.add_mul] using this
    · have hold : ∀ j u, xs[j]? = some u → w.cell? ((⟨b, 0, none⟩ : Addr).add j) = some u := fun j u hj => by
        rw [addr_add, Nat.zero_add, cell_of hbl]
        rw [← htk, List.getElem?_take] at hj
        split at hj
        · simpa using hj
        · cases hj
      obtain ⟨cap', rest, h1, h2, h3, hr⟩ := run_append (P := P) (w := w) (ty := o.type) (base := some ⟨b, 0, none⟩) (sLen := k) (sCap := cap) (olds := xs) he hsz hz hs hw.1
        (fun w' hw' => run_firstCells_some w' sz k ⟨b, 0, none⟩ k cap xs hw.1 fun j v hj => by
          have := hold j v hj
          simp only [World.cell?, hw'] at *; exact this) (by omega) h63 hby
      refine fin _ _ hr ⟨[(w.heap.size, _)], (St.cons_drop (x := (b, _)) hS hb0).drew.alloc _, hlen, .inr ⟨_, _, cap', rfl, hS.size, rfl, ?_, h1, h2, ?_⟩⟩
      · simp only [List.size_toArray, Array.size_append]; simp only [List.length_append] at h3 ⊢; simpa using h3
      · rw [← hlen]
        have : ((xs ++ news).toArray ++ rest.toArray).toList = (xs ++ news) ++ rest := by simp
        rw [this, List.take_left]
end
end Go.E
