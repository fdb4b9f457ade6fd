/- Stable sorting as a plain law: what insertion, symmetric merging and the doubling of blocks make of an array is sorted, and keeps, of each element, the order of those like it. -/
import Derived.Test.YtjjnbcaemognhaaZClrx12
namespace Go.Proofs.Ytjjnbcaemognhaa.Clr.M
open Go.RowKit Go.Proofs.Ytjjnbcaemognhaa.Clr Go.Proofs.YtjjnbcaemognhaaW.PrintWords Go.Proofs.YtjjnbcaemognhaaW.PrintLast
open Go.Sort
set_option linter.unusedVariables false
set_option linter.unusedSimpArgs false
structure SW {α : Type} (lt : α → α → Bool) : Prop where
  irr : ∀ x, lt x x = false
  tr : ∀ x y z, lt x y = true → lt y z = true → lt x z = true
  ng : ∀ x y z, lt x y = false → lt y z = false → lt x z = false
section
variable {α : Type} {lt : α → α → Bool}
theorem SW.as (h : SW lt) {x y : α} (hx : lt x y = true) : lt y x = false := by
  cases e : lt y x with
  | false => rfl
  | true => have := h.tr _ _ _ hx e; rw [h.irr] at this; cases this
theorem SW.lt_of (h : SW lt) {x y z : α} (h1 : lt y x = true) (h2 : lt y z = false) : lt z x = true := by
  cases e : lt z x with
  | true => rfl
  | false => have := h.ng _ _ _ h2 e; rw [h1] at this; cases this
theorem SW.lt_of' (h : SW lt) {x y z : α} (h1 : lt y x = true) (h2 : lt z x = false) : lt y z = true := by
  cases e : lt y z with
  | true => rfl
  | false => have := h.ng _ _ _ e h2; rw [h1] at this; cases this
def ev (lt : α → α → Bool) (z x : α) : Bool := !lt z x && !lt x z
theorem ev_iff {z x : α} : ev lt z x = true ↔ lt z x = false ∧ lt x z = false := by simp [ev]
def So (lt : α → α → Bool) (l : List α) : Prop := l.Pairwise fun x y => lt y x = false
def SF (lt : α → α → Bool) (l l' : List α) : Prop := ∀ z, l.filter (ev lt z) = l'.filter (ev lt z)
theorem SF.refl (l : List α) : SF lt l l := fun _ => rfl
theorem SF.symm {l l' : List α} (h : SF lt l l') : SF lt l' l := fun z => (h z).symm
theorem SF.trans {l l' l'' : List α} (h : SF lt l l') (h' : SF lt l' l'') : SF lt l l'' := fun z => (h z).trans (h' z)
theorem SF.app {l l' m m' : List α} (h : SF lt l l') (h' : SF lt m m') : SF lt (l ++ m) (l' ++ m') := fun z => by rw [List.filter_append, List.filter_append, h z, h' z]
theorem SF.mem (hs : SW lt) {l l' : List α} (h : SF lt l l') (x : α) : x ∈ l ↔ x ∈ l' := by
  have e : ev lt x x = true := ev_iff.2 ⟨hs.irr x, hs.irr x⟩
  have : x ∈ l.filter (ev lt x) ↔ x ∈ l'.filter (ev lt x) := by rw [h x]
  simpa [List.mem_filter, e] using this
theorem SF.swap (hs : SW lt) {X Y : List α} (h : ∀ x ∈ X, ∀ y ∈ Y, lt y x = true) : SF lt (X ++ Y) (Y ++ X) := by
  intro z
  rw [List.filter_append, List.filter_append]
  by_cases hx : X.filter (ev lt z) = []
  · rw [hx]; simp
  · by_cases hy : Y.filter (ev lt z) = []
    · rw [hy]; simp
    · exfalso
      obtain ⟨x, hx'⟩ := List.exists_mem_of_ne_nil _ hx
      obtain ⟨y, hy'⟩ := List.exists_mem_of_ne_nil _ hy
      rw [List.mem_filter] at hx' hy'
      have a := ev_iff.1 hx'.2
      have b := ev_iff.1 hy'.2
      have c := h x hx'.1 y hy'.1
      have d := hs.ng _ _ _ b.2 a.1
      rw [c] at d; cases d
theorem uniq (hs : SW lt) : ∀ (l l' : List α), So lt l → So lt l' → SF lt l l' → l = l'
  | [], [], _, _, _ => rfl
  | [], y :: t, _, _, h => by have := (h.mem hs y).2 (List.mem_cons_self ..); cases this
  | x :: t, [], _, _, h => by have := (h.mem hs x).1 (List.mem_cons_self ..); cases this
  | x :: t, y :: t', h1, h2, h => by
    have hx := (h.mem hs x).1 (List.mem_cons_self ..)
    have hy := (h.mem hs y).2 (List.mem_cons_self ..)
    have h1' := List.pairwise_cons.1 h1
    have h2' := List.pairwise_cons.1 h2
    have a : lt x y = false := by
      rcases List.mem_cons.1 hx with e | e
      · rw [e]; exact hs.irr _
      · exact h2'.1 x e
    have b : lt y x = false := by
      rcases List.mem_cons.1 hy with e | e
      · rw [e]; exact hs.irr _
      · exact h1'.1 y e
    have hh := h x
    rw [List.filter_cons_of_pos (ev_iff.2 ⟨hs.irr x, hs.irr x⟩), List.filter_cons_of_pos (ev_iff.2 ⟨a, b⟩)] at hh
    injection hh with e1 e2
    subst e1
    refine congrArg (x :: ·) (uniq hs t t' h1'.2 h2'.2 fun z => ?_)
    have hz := h z
    by_cases c : ev lt z x = true
    · rw [List.filter_cons_of_pos c, List.filter_cons_of_pos c] at hz
      injection hz
    · rwa [List.filter_cons_of_neg c, List.filter_cons_of_neg c] at hz
theorem So.app {l m : List α} (h1 : So lt l) (h2 : So lt m) (h : ∀ x ∈ l, ∀ y ∈ m, lt y x = false) : So lt (l ++ m) := List.pairwise_append.2 ⟨h1, h2, h⟩
theorem So.of_app {l m : List α} (h : So lt (l ++ m)) : So lt l ∧ So lt m ∧ ∀ x ∈ l, ∀ y ∈ m, lt y x = false := List.pairwise_append.1 h
end
section
variable {α : Type} [Inhabited α]
theorem get_list (d : Array α) (A R : List α) (x : α) (i : Nat) (h : d.toList = A ++ x :: R) (hi : i = A.length) : d[i]! = x := by
  obtain rfl : d = (A ++ x :: R).toArray := by rw [← h]
  subst hi
  simp
theorem swp_list (d : Array α) (A M B : List α) (x y : α) (i j : Nat) (h : d.toList = A ++ x :: (M ++ y :: B)) (hi : i = A.length) (hj : j = A.length + 1 + M.length) : (swp d i j).toList = A ++ y :: (M ++ x :: B) := by
  have hx := get_list d A _ x i h hi
  have hy := get_list d (A ++ x :: M) B y j (by rw [h]; simp) (by simp; omega)
  rw [swp, hx, hy, Array.toList_setIfInBounds, Array.toList_setIfInBounds, h]
  subst hi hj
  rw [List.set_append_right _ _ (by omega), show A.length - A.length = 0 by omega, List.set_cons_zero, List.set_append_right _ _ (by omega), show A.length + 1 + M.length - A.length = M.length + 1 by omega, List.set_cons_succ, List.set_append_right _ _ (by omega), show M.length - M.length = 0 by omega, List.set_cons_zero]
theorem swp_list' (d : Array α) (A M B : List α) (x y : α) (i j : Nat) (h : d.toList = A ++ x :: (M ++ y :: B)) (hi : i = A.length) (hj : j = A.length + 1 + M.length) : (swp d j i).toList = A ++ y :: (M ++ x :: B) := by
  have hx := get_list d A _ x i h hi
  have hy := get_list d (A ++ x :: M) B y j (by rw [h]; simp) (by simp; omega)
  rw [swp, hx, hy, Array.toList_setIfInBounds, Array.toList_setIfInBounds, h]
  have hm : (M ++ y :: B).set M.length x = M ++ x :: B := by rw [List.set_append_right _ _ (Nat.le_refl _), Nat.sub_self]; rfl
  subst hi hj
  rw [List.set_append_right _ _ (by omega), show A.length + 1 + M.length - A.length = M.length + 1 by omega, List.set_cons_succ, hm, List.set_append_right _ _ (by omega), show A.length - A.length = 0 by omega, List.set_cons_zero]
theorem upGo_list : ∀ (Y A B : List α) (x : α) (k : Nat) (d : Array α), d.toList = A ++ x :: (Y ++ B) → k = A.length → (upGo Y.length k d).toList = A ++ (Y ++ x :: B)
  | [], A, B, x, k, d, h, hk => h
  | y :: Y, A, B, x, k, d, h, hk => by
    have e := swp_list d A [] (Y ++ B) x y k (k + 1) (by rw [h]; simp) hk (by simp; omega)
    have := upGo_list Y (A ++ [y]) B x (k + 1) (swp d k (k + 1)) (by rw [e]; simp) (by simp; omega)
    rw [List.length_cons, upGo, this]; simp
theorem dnGo_list : ∀ (n : Nat) (X A B : List α) (y : α) (k : Nat) (d : Array α), X.length = n → d.toList = A ++ (X ++ y :: B) → k = A.length + X.length → (dnGo X.length k d).toList = A ++ y :: (X ++ B)
  | 0, X, A, B, y, k, d, hn, h, hk => by
    obtain rfl := List.eq_nil_of_length_eq_zero hn
    exact h
  | n + 1, X, A, B, y, k, d, hn, h, hk => by
    obtain ⟨X', x, rfl⟩ : ∃ X' x, X = X' ++ [x] := ⟨X.dropLast, X.getLast (by intro e; rw [e] at hn; cases hn), (List.dropLast_concat_getLast _).symm⟩
    have hl : X'.length = n := by simpa using hn
    have e := swp_list' d (A ++ X') [] B x y (k - 1) k (by rw [h]; simp) (by simp at hk ⊢; omega) (by simp at hk ⊢; omega)
    have := dnGo_list n X' A (x :: B) y (k - 1) (swp d k (k - 1)) hl (by rw [e]; simp) (by simp at hk; omega)
    rw [List.length_append, List.length_singleton, dnGo, this]; simp
theorem swapGo_shift (a b : Nat) : ∀ (m i : Nat) (d : Array α), swapGo a b m i d = swapGo (a + i) (b + i) m 0 d
  | 0, _, _ => rfl
  | m + 1, i, d => by
    rw [swapGo, swapGo, swapGo_shift a b m (i + 1), swapGo_shift (a + i) (b + i) m (0 + 1)]
    simp only [Nat.add_zero, Nat.zero_add, Nat.add_assoc]
theorem swapGo_list : ∀ (X Y A M B : List α) (a b : Nat) (d : Array α), X.length = Y.length → d.toList = A ++ (X ++ (M ++ (Y ++ B))) → a = A.length → b = A.length + X.length + M.length → (swapGo a b X.length 0 d).toList = A ++ (Y ++ (M ++ (X ++ B)))
  | [], [], A, M, B, a, b, d, _, h, _, _ => h
  | [], y :: Y, _, _, _, _, _, _, e, _, _, _ => by cases e
  | x :: X, [], _, _, _, _, _, _, e, _, _, _ => by cases e
  | x :: X, y :: Y, A, M, B, a, b, d, e, h, ha, hb => by
    have e1 := swp_list d A (X ++ M) (Y ++ B) x y a b (by rw [h]; simp) ha (by simp at hb ⊢; omega)
    have := swapGo_list X Y (A ++ [y]) (M ++ [x]) B (a + 1) (b + 1) (swp d a b) (by simpa using e) (by rw [e1]; simp) (by simp; omega) (by simp at hb ⊢; omega)
    rw [List.length_cons, swapGo, swapGo_shift, show a + (0 + 1) = a + 1 by omega, show b + (0 + 1) = b + 1 by omega, show a + 0 = a by omega, show b + 0 = b by omega, this]
    simp
theorem rotGo_list (m : Nat) : ∀ (k : Nat) (X Y A B : List α) (d : Array α), X.length + Y.length ≤ k → 0 < X.length → 0 < Y.length → d.toList = A ++ (X ++ (Y ++ B)) → m = A.length + X.length → (rotGo m k X.length Y.length d).toList = A ++ (Y ++ (X ++ B))
  | 0, X, Y, A, B, d, hk, hx, hy, h, hm => by omega
  | k + 1, X, Y, A, B, d, hk, hx, hy, h, hm => by
    rw [rotGo]
    by_cases c : X.length = Y.length
    · rw [if_pos c]
      have := swapGo_list X Y A [] B (m - X.length) m d c (by rw [h]; simp) (by omega) (by simp; omega)
      simpa using this
    · rw [if_neg c]
      by_cases c2 : Y.length < X.length
      · rw [if_pos c2]
        obtain ⟨X1, X2, rfl, h1⟩ : ∃ X1 X2, X = X1 ++ X2 ∧ X1.length = Y.length := ⟨X.take Y.length, X.drop Y.length, (List.take_append_drop _ _).symm, by simp; omega⟩
        simp only [List.length_append] at *
        have e := swapGo_list X1 Y A X2 B (m - (X1.length + X2.length)) m d h1 (by rw [h]; simp) (by omega) (by omega)
        rw [← h1]
        have := rotGo_list m k X2 X1 (A ++ Y) B _ (by omega) (by omega) (by omega) (by rw [e]; simp) (by simp; omega)
        rw [show X1.length + X2.length - X1.length = X2.length by omega, this]
        simp
      · rw [if_neg c2]
        obtain ⟨Y1, Y2, rfl, h1⟩ : ∃ Y1 Y2, Y = Y1 ++ Y2 ∧ Y2.length = X.length := ⟨Y.take (Y.length - X.length), Y.drop (Y.length - X.length), (List.take_append_drop _ _).symm, by simp; omega⟩
        simp only [List.length_append] at *
        have e := swapGo_list X Y2 A Y1 B (m - X.length) (m + (Y1.length + Y2.length) - X.length) d h1.symm (by rw [h]; simp) (by omega) (by omega)
        rw [← h1]
        rw [← h1] at e
        have := rotGo_list m k Y2 Y1 A (X ++ B) _ (by omega) (by omega) (by omega) (by rw [e]) (by omega)
        rw [show Y1.length + Y2.length - Y2.length = Y1.length by omega, this]
        simp
end
end Go.Proofs.Ytjjnbcaemognhaa.Clr.M
