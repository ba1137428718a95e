/- The engine, more. -/
import Derived.Test.YtanogodfnfkkbaaEng5
set_option linter.unusedVariables false
set_option linter.unusedSimpArgs false
namespace Go.E
open Go
/-- a block that a callee has made becomes ours -/
theorem St.take {w0 w : World} {M M' : PH} {O : Owned} (h : St w0 w M' O) {b : Nat} {o : Obj} (hb : M' b = some o) (hl : M.le M') (hm : M b = none) : St w0 w M ((b, o) :: O) := by
  have hk := h.known hl
  refine ⟨hk.os, hk.tape, hk.output, hk.size, fun k hk0 hne => hk.blk k hk0 fun x hx => hne x (List.mem_cons_of_mem _ hx), hk.on, fun x hx => ?_, ?_⟩
  · rcases List.mem_cons.1 hx with rfl | hx
    · exact ⟨h.on _ _ hb, hm⟩
    · exact hk.own x hx
  · simp only [List.map_cons, List.nodup_cons]
    refine ⟨fun hx => ?_, h.nd⟩
    obtain ⟨x, hx, e⟩ := List.mem_map.1 hx
    have := (h.own x hx).2
    rw [e, hb] at this
    cases this
theorem Fresh.add {M : PH} {b n : Nat} (o : Obj) (h : n ≤ b) : Fresh M (M.add b o) n := fun i h1 h2 => by
  by_cases e : i = b
  · rw [e]; exact h
  · rw [PH.add_ne M o e] at h2; exact absurd h1 h2
theorem Fresh.none {M M' : PH} {n b : Nat} (h : Fresh M M' n) (w : World) (hM : On M w) (hn : w.heap.size ≤ b) : M b = none := by
  cases hm : M b with
  | none => rfl
  | some o => have := lt_of_get (hM _ _ hm); omega
theorem Fresh.trans {M M' M'' : PH} {n n' : Nat} (h : Fresh M M' n) (k : Fresh M' M'' n') (hn : n ≤ n') : Fresh M M'' n := fun i h1 h2 => by
  cases hm : M' i with
  | none => have := k i hm h2; omega
  | some o => exact h i h1 (by rw [hm]; simp)
theorem Bs.of' {M : PH} {b k : Nat} {l : List UInt8} {T : TypeId} {fr : Nat × Nat} (h : M b = some (.cells (bs l) T fr)) (hk : l.length = k) (hl : k ≤ 9223372036854775807) : Bs M (.slice (some ⟨b, 0, none⟩) k k) l := by
  subst hk; exact Bs.of h hl
theorem St.out {w0 w : World} {M : PH} {O : Owned} (h : St w0 w M O) {i b : Nat} {o : Obj} (hi : nth O i = some (b, o)) : M b = none := (h.own _ (nth_mem hi)).2
theorem i64c {a b : Int} (h : a = b) : some (Value.int .i64 a) = some (Value.int .i64 b) := by rw [h]
end Go.E
