/- Lemmas on the way to the statement; no condition of its own. -/
import Derived.Test.YtcmgimicdcchlaaGreatDoorQP
set_option linter.unusedVariables false
set_option linter.unusedSimpArgs false
namespace Go.Trm
inductive T where
  | mk (k : Int) (d nm : List UInt8) (n : Int) (l : List T) : T
namespace T
def kind : T → Int | mk k _ _ _ _ => k
def data : T → List UInt8 | mk _ d _ _ _ => d
def name : T → List UInt8 | mk _ _ nm _ _ => nm
def num : T → Int | mk _ _ _ n _ => n
def subs : T → List T | mk _ _ _ _ l => l
end T
mutual
def size : T → Nat
  | .mk _ _ _ _ l => sizes l + 1
def sizes : List T → Nat
  | [] => 0
  | t :: r => size t + sizes r
end
mutual
def depth : T → Nat
  | .mk _ _ _ _ l => depths l + 1
def depths : List T → Nat
  | [] => 0
  | t :: r => max (depth t) (depths r)
end
noncomputable instance : DecidableEq T := fun a b => Classical.propDecidable (a = b)
theorem size_pos (t : T) : 0 < size t := by cases t; simp [size]
theorem depth_pos (t : T) : 0 < depth t := by cases t; simp [depth]
theorem size_mem {t : T} {l : List T} (h : t ∈ l) : size t ≤ sizes l := by
  induction l with
  | nil => cases h
  | cons a r ih =>
    rw [sizes]
    rcases List.mem_cons.1 h with rfl | h
    · omega
    · have := ih h; omega
theorem depth_mem {t : T} {l : List T} (h : t ∈ l) : depth t ≤ depths l := by
  induction l with
  | nil => cases h
  | cons a r ih =>
    rw [depths]
    rcases List.mem_cons.1 h with rfl | h
    · omega
    · have := ih h; omega
theorem size_sub {t u : T} (h : u ∈ t.subs) : size u < size t := by
  cases t with
  | mk k d nm n l => rw [size]; have := size_mem (l := l) h; omega
theorem depth_sub {t u : T} (h : u ∈ t.subs) : depth u < depth t := by
  cases t with
  | mk k d nm n l => rw [depth]; have := depth_mem (l := l) h; omega
theorem ind {p : T → Prop} (h : ∀ t, (∀ u ∈ t.subs, p u) → p t) (t : T) : p t := by
  have : ∀ m t, size t ≤ m → p t := by
    intro m
    induction m with
    | zero => intro t ht; have := size_pos t; omega
    | succ m ih => intro t ht; exact h t fun u hu => ih u (by have := size_sub hu; omega)
  exact this _ t (Nat.le_refl _)
theorem indS {p : T → Prop} (h : ∀ t, (∀ u, size u < size t → p u) → p t) (t : T) : p t := by
  have : ∀ m t, size t ≤ m → p t := by
    intro m
    induction m with
    | zero => intro t ht; have := size_pos t; omega
    | succ m ih => intro t ht; exact h t fun u hu => ih u (by omega)
  exact this _ t (Nat.le_refl _)
def T0 : T := .mk 0 [] [] 0 []
theorem getD_mem {l : List T} {i : Nat} (h : i < l.length) : l.getD i T0 ∈ l := by
  rw [List.getD_eq_getElem?_getD, List.getElem?_eq_getElem h]
  exact List.getElem_mem h
theorem size_at {t : T} {i : Nat} (h : i < t.subs.length) : size (t.subs.getD i T0) < size t := size_sub (getD_mem h)
theorem ext_getD {a b : List T} (hl : a.length = b.length) (h : ∀ j, j < a.length → a.getD j T0 = b.getD j T0) : a = b := by
  apply List.ext_getElem hl
  intro j h1 h2
  have := h j h1
  simpa [List.getD, h1, h2] using this
theorem T.eq_of {t u : T} (hk : t.kind = u.kind) (hd : t.data = u.data) (hn : t.name = u.name) (hm : t.num = u.num) (hl : t.subs.length = u.subs.length) (h : ∀ j, j < t.subs.length → t.subs.getD j T0 = u.subs.getD j T0) : t = u := by
  have := ext_getD hl h
  cases t; cases u
  simp only [T.kind, T.data, T.name, T.num, T.subs] at *
  subst hk hd hn hm this
  rfl
def Small (t : T) : Prop := depth t ≤ 8 ∧ size t ≤ 256
instance (t : T) : Decidable (Small t) := by unfold Small; infer_instance
theorem Small.sub {t u : T} (h : Small t) (hu : u ∈ t.subs) : Small u := ⟨by have := depth_sub hu; have := h.1; omega, by have := size_sub hu; have := h.2; omega⟩
def Shape (t : T) : Prop :=
  (t.kind = 1 ∧ t.name = [] ∧ t.num = 0 ∧ t.subs.length = 0) ∨ (t.kind = 2 ∧ t.data.length = 0 ∧ t.num = 0 ∧ t.subs.length = 0) ∨
  (t.kind = 3 ∧ t.data.length = 0 ∧ t.name = [] ∧ t.num = 0) ∨ (t.kind = 4 ∧ t.name = [] ∧ t.subs.length = 2) ∨
  (t.kind = 5 ∧ t.data.length = 0 ∧ t.name = [] ∧ t.num = 0 ∧ t.subs.length = 2) ∨ (t.kind = 6 ∧ t.data.length = 0 ∧ t.num = 0 ∧ t.subs.length = 1)
noncomputable instance (t : T) : Decidable (Shape t) := Classical.propDecidable _
def listB : List (List UInt8) → List UInt8
  | [] => []
  | b :: r => UInt8.ofNat (b.length / 2 ^ 8) :: UInt8.ofNat b.length :: (b ++ listB r)
def listP (l : List (List UInt8)) : List UInt8 × Int := if l.length ≤ 256 ∧ (listB l).length ≤ 4096 then (listB l, 0) else ([], 3)
def ofE : List UInt8 × Int → Option (List UInt8)
  | (b, e) => if e = 0 then some b else none
def bytes1 (k : Int) (d nm : List UInt8) (n : Int) (l : List (List UInt8)) : Option (List UInt8) :=
  if k = 1 then some d
  else if k = 2 then some (Mac.expand (Mac.sum (List.replicate 32 0) nm) [115, 101, 99, 114, 101, 116] 16)
  else if k = 3 then ofE (listP l)
  else if k = 4 then ofE (Seal.sealR (l.getD 0 []) n d (l.getD 1 []))
  else if k = 5 then some (Mac.sum (l.getD 0 []) (l.getD 1 []))
  else some (Mac.expand (l.getD 0 []) nm 16)
mutual
noncomputable def tbytes : T → Option (List UInt8)
  | .mk k d nm n l => if Shape (.mk k d nm n l) then (match tbytesL l with
    | some r => bytes1 k d nm n r
    | none => none) else none
noncomputable def tbytesL : List T → Option (List (List UInt8))
  | [] => some []
  | t :: r => match tbytes t with
    | some b => (match tbytesL r with
      | some q => some (b :: q)
      | none => none)
    | none => none
end
noncomputable def bytesR (t : T) : Option (List UInt8) := if Small t then tbytes t else none
def Good (t : T) : Prop := ∃ b, bytesR t = some b
noncomputable instance (t : T) : Decidable (Good t) := Classical.propDecidable _
end Go.Trm
namespace Go.Trm
mutual
/-- t can be made of K -/
def KCan (K : List T) : T → Prop
  | .mk k d nm n l => k = 1 ∨ T.mk k d nm n l ∈ K ∨ (k ≠ 2 ∧ KCanL K l)
def KCanL (K : List T) : List T → Prop
  | [] => True
  | t :: r => KCan K t ∧ KCanL K r
end
theorem canL_iff {K : List T} : ∀ {l : List T}, KCanL K l ↔ ∀ u ∈ l, KCan K u
  | [] => by simp [KCanL]
  | t :: r => by simp [KCanL, canL_iff (l := r)]
theorem can_iff {K : List T} {t : T} : KCan K t ↔ t.kind = 1 ∨ t ∈ K ∨ (t.kind ≠ 2 ∧ ∀ u ∈ t.subs, KCan K u) := by
  cases t with
  | mk k d nm n l => rw [KCan, canL_iff]; rfl
noncomputable instance (K : List T) (t : T) : Decidable (KCan K t) := Classical.propDecidable _
theorem mem_getD {l : List T} {t : T} (h : t ∈ l) : ∃ j, j < l.length ∧ l.getD j T0 = t := by
  obtain ⟨j, hj, e⟩ := List.getElem_of_mem h
  exact ⟨j, hj, by rw [List.getD_eq_getElem?_getD, List.getElem?_eq_getElem hj]; exact e⟩
theorem all_getD' {l : List T} {p : T → Prop} (h : ∀ j, j < l.length → p (l.getD j T0)) : ∀ t ∈ l, p t := fun t ht => by
  obtain ⟨j, hj, e⟩ := mem_getD ht
  exact e ▸ h j hj
theorem can_yes {K : List T} {t : T} (h2 : ¬ t.kind = 2) (h : ∀ j, j < t.subs.length → KCan K (t.subs.getD j T0)) : KCan K t := can_iff.2 (.inr (.inr ⟨h2, all_getD' h⟩))
theorem can_no {K : List T} {t : T} (h1 : ¬ t.kind = 1) (hm : ¬ t ∈ K) {j : Nat} (hj : j < t.subs.length) (h : ¬ KCan K (t.subs.getD j T0)) : ¬ KCan K t := fun hc => by
  rcases can_iff.1 hc with h' | h' | ⟨_, h'⟩
  · exact h1 h'
  · exact hm h'
  · exact h (h' _ (getD_mem hj))
theorem can_no2 {K : List T} {t : T} (hm : ¬ t ∈ K) (h : t.kind = 2) : ¬ KCan K t := fun hc => by
  rcases can_iff.1 hc with h' | h' | ⟨h', _⟩
  · omega
  · exact hm h'
  · exact h' h
noncomputable def leads (K : List T) (t : T) : List T :=
  if t.kind = 4 then (if KCan K (t.subs.getD 0 T0) then t.subs.drop 1 else []) else if t.kind = 3 then t.subs else []
noncomputable def nextT (K : List T) : Option T := (K.flatMap (leads K)).find? fun x => decide (x ∉ K)
theorem find_at {l : List T} {p : T → Bool} {i : Nat} (hi : i < l.length) (h : ∀ j, j < i → p (l.getD j T0) = false) (hp : p (l.getD i T0) = true) : l.find? p = some (l.getD i T0) := by
  induction l generalizing i with
  | nil => simp at hi
  | cons a r ih =>
    cases i with
    | zero => simp only [List.getD_cons_zero] at hp ⊢; simp [List.find?, hp]
    | succ i =>
      have h0 := h 0 (by omega)
      simp only [List.getD_cons_zero] at h0
      simp only [List.getD_cons_succ] at hp ⊢
      rw [List.find?, h0]
      exact ih (by simpa using hi) (fun j hj => by have := h (j + 1) (by omega); simpa using this) hp
theorem find_map {l : List T} {f : T → List T} {p : T → Bool} {i : Nat} (hi : i < l.length) (h : ∀ j, j < i → ∀ x ∈ f (l.getD j T0), p x = false) {u : T} (hu : (f (l.getD i T0)).find? p = some u) : (l.flatMap f).find? p = some u := by
  induction l generalizing i with
  | nil => simp at hi
  | cons a r ih =>
    rw [List.flatMap_cons, List.find?_append]
    cases i with
    | zero => simp only [List.getD_cons_zero] at hu; rw [hu]; rfl
    | succ i =>
      have h0 := h 0 (by omega)
      simp only [List.getD_cons_zero] at h0
      rw [List.find?_eq_none.2 (fun x hx => by simp [h0 x hx])]
      simp only [List.getD_cons_succ] at hu
      rw [Option.none_or]
      exact ih (by simpa using hi) (fun j hj => by have := h (j + 1) (by omega); simpa using this) hu
theorem next_some {K : List T} {i m : Nat} (hi : i < K.length) (h1 : ∀ j, j < i → ∀ x ∈ leads K (K.getD j T0), x ∈ K) (hm : m < (leads K (K.getD i T0)).length) (h2 : ∀ j, j < m → (leads K (K.getD i T0)).getD j T0 ∈ K) (hx : ¬ (leads K (K.getD i T0)).getD m T0 ∈ K) : nextT K = some ((leads K (K.getD i T0)).getD m T0) :=
  find_map hi (fun j hj x hx => by simp [h1 j hj x hx]) (find_at hm (fun j hj => decide_eq_false (fun hn => hn (h2 j hj))) (decide_eq_true hx))
theorem next_none {K : List T} (h : ∀ j, j < K.length → ∀ x ∈ leads K (K.getD j T0), x ∈ K) : nextT K = none := by
  refine List.find?_eq_none.2 fun x hx => ?_
  obtain ⟨t, ht, hxt⟩ := List.mem_flatMap.1 hx
  obtain ⟨j, hj, rfl⟩ := mem_getD ht
  simpa using h j hj x hxt
theorem leads3 {K : List T} {t : T} (h : t.kind = 3) : leads K t = t.subs := by rw [leads, if_neg (by omega), if_pos h]
theorem leads0 {K : List T} {t : T} (h3 : ¬ t.kind = 3) (h4 : ¬ t.kind = 4) : leads K t = [] := by rw [leads, if_neg h4, if_neg h3]
theorem leads4n {K : List T} {t : T} (h : t.kind = 4) (hc : ¬ KCan K (t.subs.getD 0 T0)) : leads K t = [] := by rw [leads, if_pos h, if_neg hc]
theorem leads4d {K : List T} {t : T} (h : t.kind = 4) (hc : KCan K (t.subs.getD 0 T0)) : leads K t = t.subs.drop 1 := by rw [leads, if_pos h, if_pos hc]
theorem leads4y {K : List T} {t : T} (h : t.kind = 4) (hc : KCan K (t.subs.getD 0 T0)) (h2 : t.subs.length = 2) : leads K t = [t.subs.getD 1 T0] := by
  rw [leads4d h hc]
  match hs : t.subs, h2 with
  | [a, b], _ => rfl
theorem size_eq (t : T) : size t = sizes t.subs + 1 := by cases t; rfl
theorem depth_eq (t : T) : depth t = depths t.subs + 1 := by cases t; rfl
theorem sizes_append (a b : List T) : sizes (a ++ b) = sizes a + sizes b := by
  induction a with
  | nil => simp [sizes]
  | cons x a ih => simp only [List.cons_append, sizes, ih]; omega
theorem depths_append (a b : List T) : depths (a ++ b) = max (depths a) (depths b) := by
  induction a with
  | nil => simp [depths]
  | cons x a ih => simp only [List.cons_append, depths, ih]; omega
theorem take_next {l : List T} {i : Nat} (h : i < l.length) : l.take (i + 1) = l.take i ++ [l.getD i T0] := by
  rw [List.take_add_one, List.getElem?_eq_getElem h, List.getD_eq_getElem?_getD, List.getElem?_eq_getElem h]
  rfl
theorem sizes_take {l : List T} {i : Nat} (h : i < l.length) : sizes (l.take (i + 1)) = sizes (l.take i) + size (l.getD i T0) := by
  rw [take_next h, sizes_append]; simp [sizes]
theorem depths_take {l : List T} {i : Nat} (h : i < l.length) : depths (l.take (i + 1)) = max (depths (l.take i)) (depth (l.getD i T0)) := by
  rw [take_next h, depths_append]; simp [depths]
theorem sizes_le (l : List T) (i : Nat) : sizes (l.take i) ≤ sizes l := by
  conv => rhs; rw [← List.take_append_drop i l, sizes_append]
  omega
theorem sizes_ge (l : List T) : l.length ≤ sizes l := by
  induction l with
  | nil => simp [sizes]
  | cons a r ih => have := size_pos a; simp only [List.length_cons, sizes]; omega
theorem sizes_take_ge {l : List T} {i : Nat} (h : i ≤ l.length) : i ≤ sizes (l.take i) := by
  have := sizes_ge (l.take i)
  rw [List.length_take] at this; omega
theorem depths_of {l : List T} {d : Nat} (h : ∀ j, j < l.length → depth (l.getD j T0) ≤ d) : depths l ≤ d := by
  have : ∀ t ∈ l, depth t ≤ d := all_getD' h
  clear h
  induction l with
  | nil => simp [depths]
  | cons a r ih =>
    simp only [depths]
    have h1 := this a List.mem_cons_self
    have h2 := ih fun t ht => this t (List.mem_cons_of_mem _ ht)
    omega
def CountOk (left : Nat) (t : T) (c : Nat) : Prop := depth t ≤ left ∧ c + size t ≤ 256
instance (left : Nat) (t : T) (c : Nat) : Decidable (CountOk left t c) := by unfold CountOk; infer_instance
theorem count_no {left : Nat} {t : T} {c i : Nat} (h : ¬ CountOk (left - 1) (t.subs.getD i T0) (c + 1 + sizes (t.subs.take i))) (hi : i < t.subs.length) : ¬ CountOk left t c := fun hc => h (by
  have h1 := depth_sub (getD_mem hi)
  have h2 := sizes_take hi
  have h3 := sizes_le t.subs (i + 1)
  have h4 := size_eq t
  exact ⟨by have := hc.1; omega, by have := hc.2; omega⟩)
theorem count_no0 {t : T} {c : Nat} : ¬ CountOk 0 t c := fun h => by have := h.1; have := depth_pos t; omega
theorem count_yes {left : Nat} {t : T} {c : Nat} (h0 : left ≠ 0) (h : ∀ j, j < t.subs.length → depth (t.subs.getD j T0) ≤ left - 1) (hc : c + 1 + sizes t.subs ≤ 256) : CountOk left t c := by
  have h1 := depths_of h
  have h2 := size_eq t
  have h3 := depth_eq t
  exact ⟨by omega, by omega⟩
def DeepOk (left : Nat) (t : T) : Prop := depth t ≤ left + 1 ∧ size t ≤ 256
instance (left : Nat) (t : T) : Decidable (DeepOk left t) := by unfold DeepOk; infer_instance
def DeepR (left : Nat) (t : T) (a b : Nat) : Prop := (DeepOk left t ∧ a = depth t ∧ b = size t) ∨ (¬ DeepOk left t ∧ a = 99 ∧ b = 999)
theorem deep_no0 {t : T} {i : Nat} (hi : i < t.subs.length) : ¬ DeepOk 0 t := fun h => by
  have h1 := depth_sub (getD_mem hi)
  have h2 := depth_pos (t.subs.getD i T0)
  have := h.1; omega
theorem deep_no {left : Nat} {t : T} {i a b : Nat} (hi : i < t.subs.length) (hr : DeepR (left - 1) (t.subs.getD i T0) a b) (h : 256 < min (sizes (t.subs.take i) + 1 + b) 999) (h0 : left ≠ 0) : ¬ DeepOk left t := fun hd => by
  have h1 := depth_sub (getD_mem hi)
  have h2 := sizes_take hi
  have h3 := sizes_le t.subs (i + 1)
  have h4 := size_eq t
  have h5 := hd.1
  have h6 := hd.2
  rcases hr with ⟨_, _, rfl⟩ | ⟨hn, _, _⟩
  · omega
  · exact hn ⟨by omega, by omega⟩
theorem deep_yes {left : Nat} {t : T} (h : depths t.subs ≤ left) (hc : sizes t.subs + 1 ≤ 256) : DeepOk left t := by
  have h2 := size_eq t
  have h3 := depth_eq t
  exact ⟨by omega, by omega⟩
theorem deep_at {left : Nat} {t : T} {a b n : Nat} (hr : DeepR left t a b) (h : ¬ 256 < min (n + 1 + b) 999) : DeepOk left t ∧ a = depth t ∧ b = size t := by
  rcases hr with h1 | ⟨_, _, rfl⟩
  · exact h1
  · omega
theorem small_of {t : T} {a b : Nat} (hr : DeepR 8 t a b) : (a ≤ 8 ∧ b ≤ 256) ↔ Small t := by
  unfold Small
  rcases hr with ⟨⟨h1, h2⟩, rfl, rfl⟩ | ⟨hn, rfl, rfl⟩
  · omega
  · constructor
    · omega
    · rintro ⟨h1, h2⟩; exact absurd ⟨by omega, h2⟩ hn
theorem deep_le {left : Nat} {t : T} {a b : Nat} (h : DeepR left t a b) : a ≤ left + 99 ∧ b ≤ 999 := by
  rcases h with ⟨⟨h1, h2⟩, rfl, rfl⟩ | ⟨_, rfl, rfl⟩ <;> omega
theorem shape1 {t : T} (h : t.kind = 1) : Shape t ↔ t.name = [] ∧ t.num = 0 ∧ t.subs.length = 0 := by
  unfold Shape; constructor
  · rintro (⟨_, h⟩ | ⟨h, _⟩ | ⟨h, _⟩ | ⟨h, _⟩ | ⟨h, _⟩ | ⟨h, _⟩) <;> first | exact h | omega
  · exact fun k => .inl ⟨h, k⟩
theorem shape2 {t : T} (h : t.kind = 2) : Shape t ↔ t.data.length = 0 ∧ t.num = 0 ∧ t.subs.length = 0 := by
  unfold Shape; constructor
  · rintro (⟨h, _⟩ | ⟨_, h⟩ | ⟨h, _⟩ | ⟨h, _⟩ | ⟨h, _⟩ | ⟨h, _⟩) <;> first | exact h | omega
  · exact fun k => .inr (.inl ⟨h, k⟩)
theorem shape3 {t : T} (h : t.kind = 3) : Shape t ↔ t.data.length = 0 ∧ t.name = [] ∧ t.num = 0 := by
  unfold Shape; constructor
  · rintro (⟨h, _⟩ | ⟨h, _⟩ | ⟨_, h⟩ | ⟨h, _⟩ | ⟨h, _⟩ | ⟨h, _⟩) <;> first | exact h | omega
  · exact fun k => .inr (.inr (.inl ⟨h, k⟩))
theorem shape4 {t : T} (h : t.kind = 4) : Shape t ↔ t.name = [] ∧ t.subs.length = 2 := by
  unfold Shape; constructor
  · rintro (⟨h, _⟩ | ⟨h, _⟩ | ⟨h, _⟩ | ⟨_, h⟩ | ⟨h, _⟩ | ⟨h, _⟩) <;> first | exact h | omega
  · exact fun k => .inr (.inr (.inr (.inl ⟨h, k⟩)))
theorem shape5 {t : T} (h : t.kind = 5) : Shape t ↔ t.data.length = 0 ∧ t.name = [] ∧ t.num = 0 ∧ t.subs.length = 2 := by
  unfold Shape; constructor
  · rintro (⟨h, _⟩ | ⟨h, _⟩ | ⟨h, _⟩ | ⟨h, _⟩ | ⟨_, h⟩ | ⟨h, _⟩) <;> first | exact h | omega
  · exact fun k => .inr (.inr (.inr (.inr (.inl ⟨h, k⟩))))
theorem shape6 {t : T} (h : t.kind = 6) : Shape t ↔ t.data.length = 0 ∧ t.num = 0 ∧ t.subs.length = 1 := by
  unfold Shape; constructor
  · rintro (⟨h, _⟩ | ⟨h, _⟩ | ⟨h, _⟩ | ⟨h, _⟩ | ⟨h, _⟩ | ⟨_, h⟩) <;> first | exact h | omega
  · exact fun k => .inr (.inr (.inr (.inr (.inr ⟨h, k⟩))))
theorem shape0 {t : T} (h1 : ¬ t.kind = 1) (h2 : ¬ t.kind = 2) (h3 : ¬ t.kind = 3) (h4 : ¬ t.kind = 4) (h5 : ¬ t.kind = 5) (h6 : ¬ t.kind = 6) : ¬ Shape t := by
  rintro (⟨h, _⟩ | ⟨h, _⟩ | ⟨h, _⟩ | ⟨h, _⟩ | ⟨h, _⟩ | ⟨h, _⟩) <;> contradiction
theorem listB_append (a b : List (List UInt8)) : listB (a ++ b) = listB a ++ listB b := by
  induction a with
  | nil => rfl
  | cons x a ih => simp [listB, ih]
theorem takeL_next {l : List (List UInt8)} {i : Nat} (h : i < l.length) : l.take (i + 1) = l.take i ++ [l.getD i []] := by
  rw [List.take_add_one, List.getElem?_eq_getElem h, List.getD_eq_getElem?_getD, List.getElem?_eq_getElem h]
  rfl
theorem listB_take {l : List (List UInt8)} {i : Nat} (h : i < l.length) : listB (l.take (i + 1)) = listB (l.take i) ++ [UInt8.ofNat ((l.getD i []).length / 2 ^ 8), UInt8.ofNat (l.getD i []).length] ++ l.getD i [] := by
  rw [takeL_next h, listB_append]; simp [listB]
theorem listB_le (l : List (List UInt8)) (i : Nat) : (listB (l.take i)).length ≤ (listB l).length := by
  conv => rhs; rw [← List.take_append_drop i l, listB_append, List.length_append]
  omega
theorem listB_len {l : List (List UInt8)} {i : Nat} (h : i < l.length) : (listB (l.take (i + 1))).length = (listB (l.take i)).length + 2 + (l.getD i []).length := by
  rw [listB_take h]; simp; omega
theorem listP_yes {l : List (List UInt8)} (h1 : l.length ≤ 256) (h2 : (listB l).length ≤ 4096) : listP l = (listB l, 0) := if_pos ⟨h1, h2⟩
theorem listP_long {l : List (List UInt8)} (h1 : ¬ l.length ≤ 256) : listP l = ([], 3) := if_neg fun h => h1 h.1
theorem listP_no {l : List (List UInt8)} {i : Nat} (hi : i < l.length) (h : 4096 < (listB (l.take i)).length + 2 + (l.getD i []).length) : listP l = ([], 3) := if_neg fun h2 => by
  have h3 := listB_len hi
  have h4 := listB_le l (i + 1)
  have := h2.2; omega
theorem tbytes_eq (t : T) : tbytes t = if Shape t then (match tbytesL t.subs with
    | some r => bytes1 t.kind t.data t.name t.num r
    | none => none) else none := by
  cases t with
  | mk k d nm n l => rw [tbytes]; rfl
theorem tb_of {t : T} {bl : List (List UInt8)} (hs : Shape t) (hl : tbytesL t.subs = some bl) : tbytes t = bytes1 t.kind t.data t.name t.num bl := by rw [tbytes_eq, if_pos hs, hl]
theorem tb_shape {t : T} (hs : ¬ Shape t) : tbytes t = none := by rw [tbytes_eq, if_neg hs]
theorem tb_parts {t : T} (hl : tbytesL t.subs = none) : tbytes t = none := by
  rw [tbytes_eq, hl]; simp
theorem tbL_snoc {a : List T} {t : T} : tbytesL (a ++ [t]) = match tbytesL a with
    | some r => (match tbytes t with
      | some b => some (r ++ [b])
      | none => none)
    | none => none := by
  induction a with
  | nil => simp only [List.nil_append, tbytesL]
  | cons x a ih =>
    simp only [List.cons_append, tbytesL, ih]
    cases tbytes x with
    | none => rfl
    | some b =>
      cases tbytesL a with
      | none => rfl
      | some r => cases tbytes t <;> rfl
theorem tbL_next {l : List T} {i : Nat} {acc : List (List UInt8)} {b : List UInt8} (hi : i < l.length) (h : tbytesL (l.take i) = some acc) (hb : tbytes (l.getD i T0) = some b) : tbytesL (l.take (i + 1)) = some (acc ++ [b]) := by
  rw [take_next hi, tbL_snoc, h, hb]
theorem tbL_no {l : List T} {i : Nat} (hi : i < l.length) (hb : tbytes (l.getD i T0) = none) : tbytesL l = none := by
  induction l generalizing i with
  | nil => simp at hi
  | cons a r ih =>
    rw [tbytesL]
    cases i with
    | zero => simp only [List.getD_cons_zero] at hb; rw [hb]
    | succ i =>
      simp only [List.getD_cons_succ] at hb
      rw [ih (by simpa using hi) hb]
      cases tbytes a <;> rfl
theorem tbL_len : ∀ {l : List T} {bl : List (List UInt8)}, tbytesL l = some bl → bl.length = l.length
  | [], bl, h => by rw [tbytesL] at h; cases h; rfl
  | t :: r, bl, h => by
    rw [tbytesL] at h
    cases ht : tbytes t with
    | none => rw [ht] at h; cases h
    | some b =>
      cases hr : tbytesL r with
      | none => rw [ht, hr] at h; cases h
      | some q => rw [ht, hr] at h; cases h; simp [tbL_len hr]
theorem tbL_at : ∀ {l : List T} {bl : List (List UInt8)}, tbytesL l = some bl → ∀ j, j < l.length → tbytes (l.getD j T0) = some (bl.getD j [])
  | [], bl, h, j, hj => by simp at hj
  | t :: r, bl, h, j, hj => by
    rw [tbytesL] at h
    cases ht : tbytes t with
    | none => rw [ht] at h; cases h
    | some b =>
      cases hr : tbytesL r with
      | none => rw [ht, hr] at h; cases h
      | some q =>
        rw [ht, hr] at h; cases h
        cases j with
        | zero => simpa using ht
        | succ j => simpa using tbL_at hr j (by simpa using hj)
mutual
/-- texts, and lists, of a length that a machine has -/
def Fine : T → Prop
  | .mk _ d nm _ l => d.length ≤ 4096 ∧ nm.length ≤ 4096 ∧ l.length ≤ 90000 ∧ FineL l
def FineL : List T → Prop
  | [] => True
  | t :: r => Fine t ∧ FineL r
end
theorem fineL_iff : ∀ {l : List T}, FineL l ↔ ∀ u ∈ l, Fine u
  | [] => by simp [FineL]
  | t :: r => by simp [FineL, fineL_iff (l := r)]
theorem fine_iff {t : T} : Fine t ↔ t.data.length ≤ 4096 ∧ t.name.length ≤ 4096 ∧ t.subs.length ≤ 90000 ∧ ∀ u ∈ t.subs, Fine u := by
  cases t with
  | mk k d nm n l => rw [Fine, fineL_iff]; rfl
theorem Fine.at {t : T} (h : Fine t) {j : Nat} (hj : j < t.subs.length) : Fine (t.subs.getD j T0) := (fine_iff.1 h).2.2.2 _ (getD_mem hj)
theorem bytes1_1 {k : Int} (h : k = 1) (d nm : List UInt8) (n : Int) (l : List (List UInt8)) : bytes1 k d nm n l = some d := by rw [bytes1, if_pos h]
theorem bytes1_2 {k : Int} (h : k = 2) (d nm : List UInt8) (n : Int) (l : List (List UInt8)) : bytes1 k d nm n l = some (Mac.expand (Mac.sum (List.replicate 32 0) nm) [115, 101, 99, 114, 101, 116] 16) := by rw [bytes1, if_neg (by omega), if_pos h]
theorem bytes1_3 {k : Int} (h : k = 3) (d nm : List UInt8) (n : Int) (l : List (List UInt8)) : bytes1 k d nm n l = ofE (listP l) := by rw [bytes1, if_neg (by omega), if_neg (by omega), if_pos h]
theorem bytes1_4 {k : Int} (h : k = 4) (d nm : List UInt8) (n : Int) (l : List (List UInt8)) : bytes1 k d nm n l = ofE (Seal.sealR (l.getD 0 []) n d (l.getD 1 [])) := by rw [bytes1, if_neg (by omega), if_neg (by omega), if_neg (by omega), if_pos h]
theorem bytes1_5 {k : Int} (h : k = 5) (d nm : List UInt8) (n : Int) (l : List (List UInt8)) : bytes1 k d nm n l = some (Mac.sum (l.getD 0 []) (l.getD 1 [])) := by rw [bytes1, if_neg (by omega), if_neg (by omega), if_neg (by omega), if_neg (by omega), if_pos h]
theorem bytes1_6 {k : Int} (h : k = 6) (d nm : List UInt8) (n : Int) (l : List (List UInt8)) : bytes1 k d nm n l = some (Mac.expand (l.getD 0 []) nm 16) := by rw [bytes1, if_neg (by omega), if_neg (by omega), if_neg (by omega), if_neg (by omega), if_neg (by omega)]
theorem ofE_yes {p : List UInt8 × Int} (h : ¬ ¬ p.2 = 0) : ofE p = some p.1 := by
  obtain ⟨b, e⟩ := p; rw [ofE, if_pos (Decidable.not_not.1 h)]
theorem ofE_no {p : List UInt8 × Int} (h : ¬ p.2 = 0) : ofE p = none := by
  obtain ⟨b, e⟩ := p; rw [ofE, if_neg h]
theorem listP_le (l : List (List UInt8)) : (listP l).1.length ≤ 4096 := by
  unfold listP; split
  · rename_i h; exact h.2
  · simp
theorem sealR_le (key : List UInt8) (use : Int) (conf text : List UInt8) : (Seal.sealR key use conf text).1.length ≤ 4128 := by
  unfold Seal.sealR
  split
  · rename_i h
    split
    · rw [Seal.sealed_length _ _ _ _ h.2]; omega
    · simp
  · simp
theorem ofE_some {p : List UInt8 × Int} {b : List UInt8} (h : ofE p = some b) : b = p.1 ∧ p.2 = 0 := by
  obtain ⟨c, e⟩ := p
  by_cases he : e = 0
  · rw [ofE, if_pos he] at h; cases h; exact ⟨rfl, he⟩
  · rw [ofE, if_neg he] at h; cases h
theorem bytes_le {t : T} {b : List UInt8} (hf : Fine t) (h : tbytes t = some b) : b.length ≤ 4128 := by
  by_cases hs : Shape t
  · cases hl : tbytesL t.subs with
    | none => rw [tb_parts hl] at h; cases h
    | some bl =>
      rw [tb_of hs hl] at h
      have h1 := (fine_iff.1 hf).1
      rcases hs with ⟨hk, _⟩ | ⟨hk, _⟩ | ⟨hk, _⟩ | ⟨hk, _⟩ | ⟨hk, _⟩ | ⟨hk, _⟩
      · rw [bytes1_1 hk] at h; cases h; omega
      · rw [bytes1_2 hk] at h; cases h; rw [Mac.expand_length]; omega
      · rw [bytes1_3 hk] at h
        have := listP_le bl
        rw [(ofE_some h).1]; omega
      · rw [bytes1_4 hk] at h
        rw [(ofE_some h).1]; exact sealR_le ..
      · rw [bytes1_5 hk] at h; cases h; rw [Mac.sum_length]; omega
      · rw [bytes1_6 hk] at h; cases h; rw [Mac.expand_length]; omega
  · rw [tb_shape hs] at h; cases h
theorem bytes_at {t : T} {bl : List (List UInt8)} (hf : Fine t) (h : tbytesL t.subs = some bl) {j : Nat} (hj : j < t.subs.length) : (bl.getD j []).length ≤ 4128 := bytes_le (hf.at hj) (tbL_at h j hj)
end Go.Trm
set_option linter.unusedVariables false
set_option linter.unusedSimpArgs false
namespace Go.Trm
noncomputable def dd : List T → List T → List T
  | K, [] => K
  | K, t :: r => dd (if t ∈ K then K else K ++ [t]) r
theorem dd_append (K a b : List T) : dd K (a ++ b) = dd (dd K a) b := by
  induction a generalizing K with
  | nil => rfl
  | cons x a ih => simp only [List.cons_append, dd, ih]
theorem dd_take {l : List T} {i : Nat} (h : i < l.length) : dd [] (l.take (i + 1)) = if l.getD i T0 ∈ dd [] (l.take i) then dd [] (l.take i) else dd [] (l.take i) ++ [l.getD i T0] := by
  rw [take_next h, dd_append]; rfl
noncomputable def iter : Nat → List T → List T
  | 0, K => K
  | n + 1, K => match nextT K with
    | some u => iter n (K ++ [u])
    | none => K
noncomputable def apartT (l : List T) : List T := iter (1 + sizes l) (dd [] l)
theorem iter_some {n : Nat} {K : List T} {u : T} (h : nextT K = some u) : iter (n + 1) K = iter n (K ++ [u]) := by rw [iter, h]
theorem iter_none {n : Nat} {K : List T} (h : nextT K = none) : iter n K = K := by
  cases n with
  | zero => rfl
  | succ n => rw [iter, h]
mutual
/-- a thing, and all within it -/
def alls : T → List T
  | .mk k d nm n l => .mk k d nm n l :: allsL l
def allsL : List T → List T
  | [] => []
  | t :: r => alls t ++ allsL r
end
theorem alls_len : ∀ t : T, (alls t).length = size t := by
  intro t
  induction t using indS with
  | h t ih =>
    cases t with
    | mk k d nm n l =>
      have key : ∀ l : List T, (∀ u ∈ l, (alls u).length = size u) → (allsL l).length = sizes l := by
        intro l
        induction l with
        | nil => intro _; rfl
        | cons a r ihr =>
          intro h
          rw [allsL, sizes, List.length_append, h a List.mem_cons_self, ihr fun u hu => h u (List.mem_cons_of_mem _ hu)]
      rw [alls, size, List.length_cons, key l fun u hu => ih u (size_sub (t := .mk k d nm n l) hu)]
theorem allsL_len (l : List T) : (allsL l).length = sizes l := by
  induction l with
  | nil => rfl
  | cons a r ih => rw [allsL, sizes, List.length_append, alls_len, ih]
theorem alls_self (t : T) : t ∈ alls t := by cases t; rw [alls]; exact List.mem_cons_self
theorem allsL_mem {l : List T} {t u : T} (h : t ∈ l) (hu : u ∈ alls t) : u ∈ allsL l := by
  induction l with
  | nil => cases h
  | cons a r ih =>
    rw [allsL, List.mem_append]
    rcases List.mem_cons.1 h with rfl | h
    · exact .inl hu
    · exact .inr (ih h)
theorem allsL_inv {l : List T} {u : T} (h : u ∈ allsL l) : ∃ t ∈ l, u ∈ alls t := by
  induction l with
  | nil => cases h
  | cons a r ih =>
    rw [allsL, List.mem_append] at h
    rcases h with h | h
    · exact ⟨a, List.mem_cons_self, h⟩
    · obtain ⟨t, ht, hu⟩ := ih h
      exact ⟨t, List.mem_cons_of_mem _ ht, hu⟩
theorem alls_sub {t u v : T} (h : u ∈ alls t) (hv : v ∈ u.subs) : v ∈ alls t := by
  induction t using indS with
  | h t ih =>
    cases t with
    | mk k d nm n l =>
      rw [alls] at h ⊢
      rcases List.mem_cons.1 h with rfl | h
      · exact List.mem_cons_of_mem _ (allsL_mem hv (alls_self v))
      · obtain ⟨x, hx, hux⟩ := allsL_inv h
        exact List.mem_cons_of_mem _ (allsL_mem hx (ih x (size_sub (t := .mk k d nm n l) hx) hux))
theorem allsL_sub {l : List T} {u v : T} (h : u ∈ allsL l) (hv : v ∈ u.subs) : v ∈ allsL l := by
  obtain ⟨t, ht, hu⟩ := allsL_inv h
  exact allsL_mem ht (alls_sub hu hv)
def Inv (l K : List T) : Prop := K.Nodup ∧ ∀ t ∈ K, t ∈ allsL l
theorem nodup_le : ∀ {K A : List T}, K.Nodup → (∀ t ∈ K, t ∈ A) → K.length ≤ A.length
  | [], _, _, _ => Nat.zero_le _
  | t :: r, A, hn, h => by
    have ht := h t List.mem_cons_self
    obtain ⟨s, u, rfl⟩ := List.append_of_mem ht
    have hn' := List.nodup_cons.1 hn
    have := nodup_le (A := s ++ u) hn'.2 fun x hx => by
      have h1 := h x (List.mem_cons_of_mem _ hx)
      rw [List.mem_append, List.mem_cons] at h1
      rw [List.mem_append]
      rcases h1 with h1 | rfl | h1
      · exact .inl h1
      · exact absurd hx hn'.1
      · exact .inr h1
    simp only [List.length_append, List.length_cons] at this ⊢
    omega
theorem Inv.len {l K : List T} (h : Inv l K) : K.length ≤ sizes l := by
  rw [← allsL_len]; exact nodup_le h.1 h.2
theorem nodup_snoc {K : List T} {u : T} (h : K.Nodup) (hu : u ∉ K) : (K ++ [u]).Nodup := by
  rw [List.nodup_append]
  exact ⟨h, by simp, fun a ha b hb => by rw [List.mem_singleton.1 hb]; exact fun e => hu (e ▸ ha)⟩
theorem Inv.dd {l : List T} : ∀ {a K : List T}, (∀ t ∈ a, t ∈ l) → Inv l K → Inv l (dd K a)
  | [], K, _, h => h
  | t :: r, K, ha, h => by
    rw [Trm.dd]
    refine Inv.dd (fun x hx => ha x (List.mem_cons_of_mem _ hx)) ?_
    split
    · exact h
    · rename_i hn
      exact ⟨nodup_snoc h.1 hn, fun x hx => by
        rcases List.mem_append.1 hx with hx | hx
        · exact h.2 x hx
        · rw [List.mem_singleton.1 hx]; exact allsL_mem (ha t List.mem_cons_self) (alls_self t)⟩
theorem Inv.start (l : List T) : Inv l (Trm.dd [] l) := Inv.dd (fun _ h => h) ⟨List.nodup_nil, fun _ h => by cases h⟩
theorem leads_sub {K : List T} {t u : T} (h : u ∈ leads K t) : u ∈ t.subs := by
  unfold leads at h
  split at h
  · split at h
    · exact List.mem_of_mem_drop h
    · cases h
  · split at h
    · exact h
    · cases h
theorem next_spec {K : List T} {u : T} (h : nextT K = some u) : u ∉ K ∧ ∃ t ∈ K, u ∈ leads K t := by
  have h1 := List.find?_some h
  have h2 := List.mem_of_find?_eq_some h
  obtain ⟨t, ht, hu⟩ := List.mem_flatMap.1 h2
  exact ⟨by simpa using h1, t, ht, hu⟩
theorem Inv.next {l K : List T} (h : Inv l K) {u : T} (hn : nextT K = some u) : Inv l (K ++ [u]) := by
  obtain ⟨h1, t, ht, hu⟩ := next_spec hn
  exact ⟨nodup_snoc h.1 h1, fun x hx => by
    rcases List.mem_append.1 hx with hx | hx
    · exact h.2 x hx
    · rw [List.mem_singleton.1 hx]; exact allsL_sub (h.2 t ht) (leads_sub hu)⟩
def Going (l K : List T) : Prop := Inv l K ∧ ∃ f, iter f K = apartT l ∧ sizes l + 1 ≤ K.length + f
theorem Going.start (l : List T) : Going l (Trm.dd [] l) := ⟨Inv.start l, 1 + sizes l, rfl, by omega⟩
theorem Going.next {l K : List T} (h : Going l K) {u : T} (hn : nextT K = some u) : Going l (K ++ [u]) := by
  obtain ⟨hi, f, hf, hl⟩ := h
  have h2 := hi.next hn
  have h3 := hi.len
  obtain ⟨f', rfl⟩ : ∃ f', f = f' + 1 := ⟨f - 1, by omega⟩
  exact ⟨h2, f', by rw [← hf, iter_some hn], by rw [List.length_append, List.length_singleton]; omega⟩
theorem Going.done {l K : List T} (h : Going l K) (hn : nextT K = none) : K = apartT l := by
  obtain ⟨hi, f, hf, hl⟩ := h
  rw [← hf, iter_none hn]
theorem Going.len {l K : List T} (h : Going l K) : K.length ≤ sizes l := h.1.len
noncomputable def bytesE (t : T) : Int := match bytesR t with
  | some _ => 0
  | none => 290
def AllGood (l : List T) : Prop := ∀ t ∈ l, ∃ b, bytesR t = some b
noncomputable instance (l : List T) : Decidable (AllGood l) := Classical.propDecidable _
noncomputable def chkE (l : List T) : Int := if 64 < l.length then 3 else if AllGood l then 0 else 290
theorem chk_ok {l : List T} : chkE l = 0 ↔ l.length ≤ 64 ∧ AllGood l := by
  unfold chkE
  by_cases h : 64 < l.length
  · simp [h]; omega
  · by_cases h2 : AllGood l
    · simp [h, h2]; omega
    · simp [h, h2]
theorem chk_long {l : List T} (h : 64 < l.length) : chkE l = 3 := if_pos h
theorem chk_bad {l : List T} {i : Nat} (h : ¬ 64 < l.length) (hi : i < l.length) (hb : bytesR (l.getD i T0) = none) : chkE l = 290 := by
  rw [chkE, if_neg h, if_neg]
  intro ha
  obtain ⟨b, hb'⟩ := ha _ (getD_mem hi)
  rw [hb] at hb'; cases hb'
theorem chk_good {l : List T} (h : ¬ 64 < l.length) (hb : ∀ j, j < l.length → ∃ b, bytesR (l.getD j T0) = some b) : chkE l = 0 := chk_ok.2 ⟨by omega, all_getD' hb⟩
theorem small_good {t : T} {b : List UInt8} (h : bytesR t = some b) : Small t := by
  unfold bytesR at h
  split at h
  · assumption
  · cases h
theorem chk_sizes {l : List T} (h : chkE l = 0) : sizes l ≤ 16384 := by
  obtain ⟨h1, h2⟩ := chk_ok.1 h
  have key : ∀ l : List T, AllGood l → sizes l ≤ l.length * 256 := by
    intro l
    induction l with
    | nil => intro _; simp [sizes]
    | cons a r ih =>
      intro ha
      have h3 := ih fun t ht => ha t (List.mem_cons_of_mem _ ht)
      obtain ⟨b, hb⟩ := ha a List.mem_cons_self
      have h4 := (small_good hb).2
      rw [sizes, List.length_cons]; omega
  have := key l h2
  omega
noncomputable def canE (l : List T) (t : T) : Int := if chkE l = 0 then bytesE t else chkE l
def Hit (l : List T) (i j : Nat) : Prop := bytesR (l.getD i T0) = bytesR (l.getD j T0) ∧ ¬ l.getD i T0 = l.getD j T0
def CoP (l : List T) (x y : Int) : Prop :=
  (∃ i j, i < j ∧ j < l.length ∧ Hit l i j ∧ (∀ i' j', i' < j' → j' < l.length → (i' < i ∨ (i' = i ∧ j' < j)) → ¬ Hit l i' j') ∧ x = (i : Int) ∧ y = (j : Int)) ∨
  ((∀ i j, i < j → j < l.length → ¬ Hit l i j) ∧ x = -1 ∧ y = -1)
theorem CoP.one {l : List T} {x y x' y' : Int} (h : CoP l x y) (h' : CoP l x' y') : x = x' ∧ y = y' := by
  rcases h with ⟨i, j, h1, h2, h3, h4, rfl, rfl⟩ | ⟨hn, rfl, rfl⟩
  · rcases h' with ⟨i', j', k1, k2, k3, k4, rfl, rfl⟩ | ⟨kn, rfl, rfl⟩
    · have a1 : ¬ (i' < i ∨ (i' = i ∧ j' < j)) := fun hh => h4 i' j' k1 k2 hh k3
      have a2 : ¬ (i < i' ∨ (i = i' ∧ j < j')) := fun hh => k4 i j h1 h2 hh h3
      omega
    · exact absurd h3 (kn i j h1 h2)
  · rcases h' with ⟨i', j', k1, k2, k3, k4, rfl, rfl⟩ | ⟨kn, rfl, rfl⟩
    · exact absurd k3 (hn i' j' k1 k2)
    · exact ⟨rfl, rfl⟩
theorem good_sub {t : T} (h : ∃ b, bytesR t = some b) {u : T} (hu : u ∈ t.subs) : ∃ b, bytesR u = some b := by
  obtain ⟨b, hb⟩ := h
  have hs := small_good hb
  rw [bytesR, if_pos hs] at hb
  have hsu := hs.sub hu
  rw [bytesR, if_pos hsu]
  obtain ⟨j, hj, rfl⟩ := mem_getD hu
  cases hl : tbytesL t.subs with
  | none => rw [tb_parts hl] at hb; cases hb
  | some bl => exact ⟨_, tbL_at hl j hj⟩
theorem good_alls {t : T} (h : ∃ b, bytesR t = some b) : ∀ u ∈ alls t, ∃ b, bytesR u = some b := by
  induction t using indS with
  | h t ih =>
    cases t with
    | mk k d nm n l =>
      intro u hu
      rw [alls] at hu
      rcases List.mem_cons.1 hu with rfl | hu
      · exact h
      · obtain ⟨x, hx, hux⟩ := allsL_inv hu
        exact ih x (size_sub (t := .mk k d nm n l) hx) (good_sub h hx) u hux
theorem good_all {l : List T} (h : chkE l = 0) : ∀ u ∈ allsL l, ∃ b, bytesR u = some b := fun u hu => by
  obtain ⟨t, ht, hut⟩ := allsL_inv hu
  exact good_alls ((chk_ok.1 h).2 t ht) u hut
theorem good_shape {t : T} (h : ∃ b, bytesR t = some b) : Shape t := by
  obtain ⟨b, hb⟩ := h
  rw [bytesR, if_pos (small_good hb)] at hb
  by_cases hs : Shape t
  · exact hs
  · rw [tb_shape hs] at hb; cases hb
theorem four {l K : List T} (h : chkE l = 0) (hi : Inv l K) : ∀ t ∈ K, t.kind = 4 → t.subs.length = 2 := fun t ht hk => ((shape4 hk).1 (good_shape (good_all h t (hi.2 t ht)))).2
def Rgoing (l : List T) (n : Nat) (K : List T) : Prop := Inv l K ∧ n ≤ 1 + sizes l ∧ iter (1 + sizes l - n) K = apartT l
theorem Rgoing.start (l : List T) : Rgoing l 0 (dd [] l) := ⟨Inv.start l, Nat.zero_le _, rfl⟩
theorem Rgoing.next {l K : List T} {n : Nat} (h : Rgoing l n K) (hn : n < 1 + sizes l) {u : T} (hu : nextT K = some u) : Rgoing l (n + 1) (K ++ [u]) := by
  obtain ⟨h1, h2, h3⟩ := h
  refine ⟨h1.next hu, by omega, ?_⟩
  rw [← h3, show 1 + sizes l - n = (1 + sizes l - (n + 1)) + 1 by omega, iter_some hu]
theorem Rgoing.done {l K : List T} {n : Nat} (h : Rgoing l n K) (hu : nextT K = none) : K = apartT l := by rw [← h.2.2, iter_none hu]
theorem Rgoing.out {l K : List T} {n : Nat} (h : Rgoing l n K) (hn : ¬ n < 1 + sizes l) : K = apartT l := by
  rw [← h.2.2, show 1 + sizes l - n = 0 by omega]; rfl
theorem dd_len {l : List T} (i : Nat) : (dd [] (l.take i)).length ≤ sizes l := (Inv.dd (l := l) (a := l.take i) (K := []) (fun _ h => List.mem_of_mem_take h) ⟨List.nodup_nil, fun _ h => by cases h⟩).len
theorem dd_le (K : List T) : ∀ l : List T, (dd K l).length ≤ K.length + l.length
  | [] => by simp [dd]
  | t :: r => by
    rw [dd]
    have h := dd_le (if t ∈ K then K else K ++ [t]) r
    rw [List.length_cons]
    split at h
    · rename_i hm; rw [if_pos hm]; omega
    · rename_i hm; rw [if_neg hm]; rw [List.length_append, List.length_singleton] at h; omega
theorem dd_len2 {l : List T} (i : Nat) : (dd [] (l.take i)).length ≤ i := by
  have h := dd_le [] (l.take i)
  rw [List.length_take, List.length_nil] at h
  omega
end Go.Trm
namespace Go.Trm
def plainT : Nat → T → T
  | 0, t => .mk t.kind t.data t.name t.num []
  | n + 1, t => .mk t.kind t.data t.name t.num ((t.subs.take 300).map (plainT n))
theorem plain_ok : ∀ {n : Nat} {t : T}, depth t ≤ n + 1 → size t ≤ 256 → plainT n t = t
  | 0, .mk k d nm m l, hd, hs => by
    cases l with
    | nil => rfl
    | cons a r => rw [depth, depths] at hd; have := depth_pos a; omega
  | n + 1, .mk k d nm m l, hd, hs => by
    rw [size] at hs
    rw [depth] at hd
    have hl := sizes_ge l
    show T.mk k d nm m ((l.take 300).map (plainT n)) = _
    rw [List.take_of_length_le (by omega)]
    have : l.map (plainT n) = l := by
      apply List.ext_getElem (by simp)
      intro j h1 h2
      rw [List.getElem_map]
      have hm : l[j] ∈ l := List.getElem_mem h2
      have h3 := depth_mem hm
      have h4 := size_mem hm
      exact plain_ok (by omega) (by omega)
    rw [this]
theorem plain_small {n : Nat} {t : T} (hn : 8 ≤ n + 1) (h : Small t) : plainT n t = t := plain_ok (by have := h.1; omega) h.2
theorem plain_depth : ∀ {n : Nat} {t : T} {m : Nat}, m ≤ n + 1 → depth (plainT n t) < m → size (plainT n t) ≤ 256 → depth t < m
  | 0, t, m, hm, h, hs => by
    have h1 := depth_pos (plainT 0 t)
    omega
  | n + 1, .mk k d nm q l, m, hm, h, hs => by
    change depth (.mk k d nm q ((l.take 300).map (plainT n))) < m at h
    change size (.mk k d nm q ((l.take 300).map (plainT n))) ≤ 256 at hs
    rw [depth] at h
    rw [size] at hs
    have hge := sizes_ge ((l.take 300).map (plainT n))
    rw [List.length_map, List.length_take] at hge
    have hlen : l.length ≤ 300 := by omega
    rw [List.take_of_length_le hlen] at h hs
    rw [depth]
    have : depths l ≤ m - 2 := by
      refine depths_of fun j hj => ?_
      have hm2 : (l.map (plainT n)).getD j T0 = plainT n (l.getD j T0) := by simp [List.getD, hj]
      have h2 : plainT n (l.getD j T0) ∈ l.map (plainT n) := List.mem_map_of_mem (getD_mem hj)
      have h3 := depth_mem h2
      have h4 := size_mem h2
      have := plain_depth (n := n) (t := l.getD j T0) (m := m - 1) (by omega) (by omega) (by omega)
      omega
    omega
theorem plain_size : ∀ {n : Nat} {t : T}, depth t ≤ n + 1 → size (plainT n t) ≤ 256 → size t ≤ 256 ∧ size (plainT n t) = size t
  | 0, .mk k d nm m l, hd, hs => by
    cases l with
    | nil => exact ⟨hs, rfl⟩
    | cons a r => rw [depth, depths] at hd; have := depth_pos a; omega
  | n + 1, .mk k d nm q l, hd, hs => by
    change size (.mk k d nm q ((l.take 300).map (plainT n))) ≤ 256 at hs
    show _ ∧ size (.mk k d nm q ((l.take 300).map (plainT n))) = _
    rw [size] at hs ⊢
    rw [size]
    rw [depth] at hd
    have hge := sizes_ge ((l.take 300).map (plainT n))
    rw [List.length_map, List.length_take] at hge
    have hlen : l.length ≤ 300 := by omega
    rw [List.take_of_length_le hlen] at hs ⊢
    have key : ∀ l : List T, (∀ t ∈ l, depth t ≤ n + 1) → sizes (l.map (plainT n)) ≤ 256 → sizes (l.map (plainT n)) = sizes l := by
      intro l
      induction l with
      | nil => intro _ _; rfl
      | cons a r ih =>
        intro h1 h2
        rw [List.map_cons, sizes] at h2 ⊢
        rw [sizes, ih (fun t ht => h1 t (List.mem_cons_of_mem _ ht)) (by omega), (plain_size (h1 a List.mem_cons_self) (by omega)).2]
    have := key l (fun t ht => by have := depth_mem ht; omega) (by omega)
    omega
theorem plain_iff {n : Nat} {t : T} (hn : 8 ≤ n) : Small (plainT n t) ↔ Small t := by
  constructor
  · intro h
    have h1 : depth t < 9 := plain_depth (by omega) (by have := h.1; omega) h.2
    exact ⟨by omega, (plain_size (by omega) h.2).1⟩
  · intro h; rw [plain_small (by omega) h]; exact h
theorem plain_bytes (t : T) : bytesR (plainT 10 t) = bytesR t := by
  by_cases h : Small t
  · rw [plain_small (by omega) h]
  · rw [bytesR, bytesR, if_neg h, if_neg fun hp => h ((plain_iff (by omega)).1 hp)]
def CutOk (u : T) (bud b' : Int) : Prop := Fine u ∧ (size u : Int) + b' = bud ∧ (0 ≤ b' ∨ size u = 1)
def SumOk (acc : List T) (bud b' : Int) : Prop := (∀ t ∈ acc, Fine t) ∧ (sizes acc : Int) + b' = bud ∧ (0 ≤ b' ∨ acc = [])
theorem SumOk.start (bud : Int) : SumOk [] bud bud := ⟨fun _ h => (by cases h), by simp [sizes], .inr rfl⟩
theorem SumOk.next {acc : List T} {bud b' b'' : Int} {u : T} (h : SumOk acc bud b') (hp : 0 < b') (hu : CutOk u b' b'') : SumOk (acc ++ [u]) bud b'' := by
  obtain ⟨h1, h2, h3⟩ := h
  obtain ⟨k1, k2, k3⟩ := hu
  refine ⟨fun t ht => ?_, ?_, .inl ?_⟩
  · rcases List.mem_append.1 ht with ht | ht
    · exact h1 t ht
    · rw [List.mem_singleton.1 ht]; exact k1
  · rw [sizes_append]; simp only [sizes]; omega
  · rcases k3 with k3 | k3 <;> omega
theorem SumOk.len {acc : List T} {bud b' : Int} (h : SumOk acc bud b') (hb : bud ≤ 80000) : acc.length ≤ 80000 := by
  have h1 := sizes_ge acc
  rcases h.2.2 with h3 | h3
  · have := h.2.1; omega
  · rw [h3]; simp
theorem SumOk.cut {acc : List T} {bud b' : Int} {k n : Int} {d nm : List UInt8} (h : SumOk acc (bud - 1) b') (hb : bud ≤ 80000) (hd : d.length ≤ 4096) (hn : nm.length ≤ 4096) : CutOk (.mk k d nm n acc) bud b' := by
  have hl := h.len (by omega)
  obtain ⟨h1, h2, h3⟩ := h
  refine ⟨fine_iff.2 ⟨hd, hn, by show acc.length ≤ 90000; omega, h1⟩, by rw [size]; omega, ?_⟩
  rcases h3 with h3 | h3
  · exact .inl h3
  · right; rw [size, h3]; rfl
def SomeOk (k : List T) (len n : Nat) (budget : Int) : Prop := k.length = min len n ∧ (∀ t ∈ k, Fine t) ∧ (sizes k : Int) ≤ k.length + max budget 0
theorem SomeOk.next {k : List T} {i : Nat} {bud b' b'' : Int} {u : T} (h1 : ∀ t ∈ k, Fine t) (h2 : (sizes k : Int) + max b' 0 ≤ k.length + max bud 0) (hu : CutOk u b' b'') : (∀ t ∈ k ++ [u], Fine t) ∧ (sizes (k ++ [u]) : Int) + max b'' 0 ≤ (k ++ [u]).length + max bud 0 := by
  obtain ⟨k1, k2, k3⟩ := hu
  refine ⟨fun t ht => ?_, ?_⟩
  · rcases List.mem_append.1 ht with ht | ht
    · exact h1 t ht
    · rw [List.mem_singleton.1 ht]; exact k1
  · rw [sizes_append, List.length_append]; simp only [sizes, List.length_singleton]
    rcases k3 with k3 | k3 <;> omega
def SameL (a b : List T) : Prop := a.length = b.length ∧ ∀ j, j < a.length → Small (plainT 10 (a.getD j T0)) ∧ Small (b.getD j T0) ∧ plainT 10 (a.getD j T0) = b.getD j T0
noncomputable instance (a b : List T) : Decidable (SameL a b) := Classical.propDecidable _
end Go.Trm
set_option linter.unusedVariables false
set_option linter.unusedSimpArgs false
namespace Go.Trm
def wk : T := .mk 2 [] [107] 0 []
def wm : T := .mk 2 [] [109] 0 []
def wx : T := .mk 4 (List.replicate 16 0) [] 3 [wk, wm]
def wd : T := .mk 1 [7, 8] [] 0 []
theorem small_wk : Small wk := by constructor <;> simp [wk, depth, depths, size, sizes]
theorem small_wm : Small wm := by constructor <;> simp [wm, depth, depths, size, sizes]
theorem small_wx : Small wx := by constructor <;> simp [wx, wk, wm, depth, depths, size, sizes]
theorem shape_wk : Shape wk := (shape2 rfl).2 ⟨rfl, rfl, rfl⟩
theorem shape_wm : Shape wm := (shape2 rfl).2 ⟨rfl, rfl, rfl⟩
theorem tb_wk : tbytes wk = some (Mac.expand (Mac.sum (List.replicate 32 0) [107]) [115, 101, 99, 114, 101, 116] 16) := by
  rw [tb_of shape_wk (bl := []) rfl]; exact bytes1_2 rfl ..
theorem tb_wm : tbytes wm = some (Mac.expand (Mac.sum (List.replicate 32 0) [109]) [115, 101, 99, 114, 101, 116] 16) := by
  rw [tb_of shape_wm (bl := []) rfl]; exact bytes1_2 rfl ..
theorem good_wk : ∃ b, bytesR wk = some b := ⟨_, by rw [bytesR, if_pos small_wk]; exact tb_wk⟩
theorem good_wm : ∃ b, bytesR wm = some b := ⟨_, by rw [bytesR, if_pos small_wm]; exact tb_wm⟩
theorem good_wx : ∃ b, bytesR wx = some b := by
  have hl : tbytesL wx.subs = some [Mac.expand (Mac.sum (List.replicate 32 0) [107]) [115, 101, 99, 114, 101, 116] 16, Mac.expand (Mac.sum (List.replicate 32 0) [109]) [115, 101, 99, 114, 101, 116] 16] := by
    show tbytesL [wk, wm] = _
    rw [tbytesL, tb_wk, tbytesL, tb_wm, tbytesL]
  have hg : Seal.Good (Mac.expand (Mac.sum (List.replicate 32 0) [107]) [115, 101, 99, 114, 101, 116] 16) 3 := ⟨Mac.expand_length .., by decide, by decide⟩
  have h : tbytes wx = ofE (Seal.sealR (Mac.expand (Mac.sum (List.replicate 32 0) [107]) [115, 101, 99, 114, 101, 116] 16) 3 (List.replicate 16 0) (Mac.expand (Mac.sum (List.replicate 32 0) [109]) [115, 101, 99, 114, 101, 116] 16)) := by
    rw [tb_of ((shape4 rfl).2 ⟨rfl, rfl⟩) hl]
    exact bytes1_4 rfl ..
  rw [Seal.sealR_ok hg (by simp) (by rw [Mac.expand_length]; decide)] at h
  exact ⟨_, by rw [bytesR, if_pos small_wx, h]; rfl⟩
theorem bytes_wd : bytesR wd = some [7, 8] := by
  rw [bytesR, if_pos (by constructor <;> simp [wd, depth, depths, size, sizes]), tb_of ((shape1 rfl).2 ⟨rfl, rfl, rfl⟩) (bl := []) rfl]
  exact bytes1_1 rfl ..
theorem fine_wk : Fine wk := fine_iff.2 ⟨by simp [wk, T.data], by simp [wk, T.name], by simp [wk, T.subs], fun u hu => by simp [wk, T.subs] at hu⟩
theorem fine_wm : Fine wm := fine_iff.2 ⟨by simp [wm, T.data], by simp [wm, T.name], by simp [wm, T.subs], fun u hu => by simp [wm, T.subs] at hu⟩
theorem fine_wd : Fine wd := fine_iff.2 ⟨by simp [wd, T.data], by simp [wd, T.name], by simp [wd, T.subs], fun u hu => by simp [wd, T.subs] at hu⟩
theorem fine_wx : Fine wx := fine_iff.2 ⟨by simp [wx, T.data], by simp [wx, T.name], by simp [wx, T.subs], fun u hu => by
  simp only [wx, T.subs, List.mem_cons, List.not_mem_nil, or_false] at hu
  rcases hu with rfl | rfl
  · exact fine_wk
  · exact fine_wm⟩
theorem chk_one : chkE [wx] = 0 := chk_ok.2 ⟨by decide, fun t ht => by rw [List.mem_singleton.1 ht]; exact good_wx⟩
theorem chk_two : chkE [wx, wk] = 0 := chk_ok.2 ⟨by decide, fun t ht => by
  simp only [List.mem_cons, List.not_mem_nil, or_false] at ht
  rcases ht with rfl | rfl
  · exact good_wx
  · exact good_wk⟩
theorem wx_wk : wx ≠ wk := fun h => by have := congrArg T.kind h; simp [wx, wk, T.kind] at this
theorem wm_wk : wm ≠ wk := fun h => by have := congrArg T.name h; simp [wm, wk, T.name] at this
theorem wm_wx : wm ≠ wx := fun h => by have := congrArg T.kind h; simp [wx, wm, T.kind] at this
theorem apart_one : apartT [wx] = [wx] := by
  have hn : nextT [wx] = none := next_none fun j hj x hx => by
    have : j = 0 := by simp at hj; omega
    subst this
    change x ∈ leads [wx] wx at hx
    rw [leads4n rfl] at hx
    · cases hx
    · intro hc
      rcases can_iff.1 hc with h | h | ⟨h, _⟩
      · exact absurd h (by decide)
      · rw [List.mem_singleton] at h; exact wx_wk h.symm
      · exact h rfl
  have hd : dd [] [wx] = [wx] := by simp [dd]
  have := (Going.start [wx])
  rw [hd] at this
  exact (this.done hn).symm
theorem apart_two : apartT [wx, wk] = [wx, wk, wm] := by
  have hd : dd [] [wx, wk] = [wx, wk] := by
    rw [dd, if_neg (by simp), dd, if_neg, dd]
    · rfl
    · intro h; rw [List.nil_append, List.mem_singleton] at h; exact wx_wk h.symm
  have hl : ∀ K : List T, wk ∈ K → leads K wx = [wm] := fun K hK => leads4y rfl (can_iff.2 (.inr (.inl hK))) rfl
  have h1 : nextT [wx, wk] = some wm := by
    have e := hl [wx, wk] (by simp)
    have := next_some (K := [wx, wk]) (i := 0) (m := 0) (by decide) (fun j hj => by omega) (by show 0 < (leads [wx, wk] wx).length; rw [e]; decide) (fun j hj => by omega) (by
      show ¬ (leads [wx, wk] wx).getD 0 T0 ∈ [wx, wk]
      rw [e]
      intro h
      simp only [List.getD_cons_zero, List.mem_cons, List.not_mem_nil, or_false] at h
      rcases h with h | h
      · exact wm_wx h
      · exact wm_wk h)
    change nextT [wx, wk] = some ((leads [wx, wk] wx).getD 0 T0) at this
    rw [e] at this
    exact this
  have h2 : nextT [wx, wk, wm] = none := next_none fun j hj x hx => by
    rcases (by simp at hj; omega : j = 0 ∨ j = 1 ∨ j = 2) with rfl | rfl | rfl
    · change x ∈ leads _ wx at hx
      rw [hl _ (by simp)] at hx
      rw [List.mem_singleton.1 hx]; simp
    · change x ∈ leads _ wk at hx
      rw [leads0 (by decide) (by decide)] at hx; cases hx
    · change x ∈ leads _ wm at hx
      rw [leads0 (by decide) (by decide)] at hx; cases hx
  have hs := Going.start [wx, wk]
  rw [hd] at hs
  exact ((hs.next h1).done h2).symm
theorem works_a : canE [wx, wk] wm = 0 ∧ KCan (apartT [wx, wk]) wm := by
  obtain ⟨b, hb⟩ := good_wm
  exact ⟨by rw [canE, if_pos chk_two, bytesE, hb], by rw [apart_two]; exact can_iff.2 (.inr (.inl (by simp)))⟩
theorem works_f : canE [wx] wm = 0 := by
  obtain ⟨b, hb⟩ := good_wm
  rw [canE, if_pos chk_one, bytesE, hb]
theorem works_b : ¬ (canE [wx] wm = 0 ∧ KCan (apartT [wx]) wm) := fun h => by
  have h2 := h.2
  rw [apart_one] at h2
  rcases can_iff.1 h2 with h | h | ⟨h, _⟩
  · exact absurd h (by decide)
  · rw [List.mem_singleton] at h; exact wm_wx h
  · exact h rfl
theorem works_l : (apartT [wx, wk]).length = 3 := by rw [apart_two]; rfl
end Go.Trm
set_option linter.unusedVariables false
set_option linter.unusedSimpArgs false
namespace Go.Trm
theorem fine_plain : ∀ {n : Nat} {t : T}, Fine t → Fine (plainT n t)
  | 0, t, h => by
    obtain ⟨h1, h2, h3, h4⟩ := fine_iff.1 h
    exact fine_iff.2 ⟨h1, h2, Nat.zero_le _, fun u hu => by cases hu⟩
  | n + 1, t, h => by
    obtain ⟨h1, h2, h3, h4⟩ := fine_iff.1 h
    refine fine_iff.2 ⟨h1, h2, ?_, fun u hu => ?_⟩
    · show ((t.subs.take 300).map (plainT n)).length ≤ _
      rw [List.length_map, List.length_take]; omega
    · change u ∈ (t.subs.take 300).map (plainT n) at hu
      obtain ⟨x, hx, rfl⟩ := List.mem_map.1 hu
      exact fine_plain (h4 x (List.mem_of_mem_take hx))
theorem fine_map {k : List T} (h : ∀ t ∈ k, Fine t) : ∀ t ∈ k.map (plainT 10), Fine t := fun t ht => by
  obtain ⟨x, hx, rfl⟩ := List.mem_map.1 ht
  exact fine_plain (h x hx)
theorem map_getD {k : List T} {i : Nat} (h : i < k.length) : (k.map (plainT 10)).getD i T0 = plainT 10 (k.getD i T0) := by simp [List.getD, h]
theorem map_bytes {k : List T} {i : Nat} (h : i < k.length) {o : Option (List UInt8)} (hb : bytesR (k.getD i T0) = o) : bytesR ((k.map (plainT 10)).getD i T0) = o := by rw [map_getD h, plain_bytes, hb]
theorem map_size {k : List T} {i : Nat} (h : i < k.length) {b : List UInt8} (hb : bytesR (k.getD i T0) = some b) : size ((k.map (plainT 10)).getD i T0) = size (k.getD i T0) := by rw [map_getD h, plain_small (by omega) (small_good hb)]
theorem plain_same {a b : T} : (Small (plainT 10 a) ∧ Small (plainT 10 b) ∧ plainT 10 a = plainT 10 b) ↔ (Small a ∧ Small b ∧ a = b) := by
  rw [plain_iff (by omega), plain_iff (by omega)]
  constructor
  · rintro ⟨h1, h2, h3⟩
    rw [plain_small (by omega) h1, plain_small (by omega) h2] at h3
    exact ⟨h1, h2, h3⟩
  · rintro ⟨h1, h2, rfl⟩; exact ⟨h1, h2, rfl⟩
end Go.Trm
