/- Stable sorting as a plain law, second part: insertion, merging, doubling. -/
import Derived.Test.YtjjnbcaemognhaaZClrMathA
namespace Go.Proofs.Ytjjnbcaemognhaa.Clr.M
open Go.RowKit Go.Proofs.Ytjjnbcaemognhaa.Clr Go.Proofs.YtjjnbcaemognhaaW.PrintWords Go.Proofs.YtjjnbcaemognhaaW.PrintLast
open Go.Sort
set_option linter.unusedVariables false
set_option linter.unusedSimpArgs false
theorem concat_of {α : Type} {l : List α} (h : 0 < l.length) : ∃ l' x, l = l' ++ [x] := ⟨l.dropLast, l.getLast (by intro e; rw [e] at h; cases h), (List.dropLast_concat_getLast _).symm⟩
theorem cons_of {α : Type} {l : List α} (h : 0 < l.length) : ∃ x l', l = x :: l' := by
  cases l with
  | nil => cases h
  | cons x l => exact ⟨x, l, rfl⟩
theorem split_at {α : Type} (l : List α) (n : Nat) (h : n ≤ l.length) : ∃ l1 l2, l = l1 ++ l2 ∧ l1.length = n := ⟨l.take n, l.drop n, (List.take_append_drop _ _).symm, by simp; omega⟩
variable {lt : SO → SO → Bool}
theorem insInner_list (hs : SW lt) : ∀ (n : Nat) (X A R : List SO) (y : SO) (a j : Nat) (d : Array SO), X.length = n → d.toList = A ++ (X ++ y :: R) → a = A.length → j = A.length + X.length → So lt X → ∃ Z, (insInner lt a j d).toList = A ++ (Z ++ R) ∧ So lt Z ∧ SF lt Z (X ++ [y])
  | 0, X, A, R, y, a, j, d, hn, h, ha, hj, hX => by
    obtain rfl := List.eq_nil_of_length_eq_zero hn
    refine ⟨[y], ?_, List.pairwise_singleton _ _, SF.refl _⟩
    have e : insInner lt a j d = d := by
      cases j with
      | zero => rfl
      | succ j => rw [insInner, if_neg]; simp at hj ⊢; omega
    rw [e, h]; rfl
  | n + 1, X, A, R, y, a, j, d, hn, h, ha, hj, hX => by
    obtain ⟨X, x, rfl⟩ := concat_of (by omega : 0 < X.length)
    have hl : X.length = n := by simpa using hn
    simp only [List.length_append, List.length_singleton] at hj
    obtain ⟨j, rfl⟩ : ∃ j', j = j' + 1 := ⟨j - 1, by omega⟩
    have hy := get_list d (A ++ (X ++ [x])) R y (j + 1) (by rw [h]; simp) (by simp; omega)
    have hx := get_list d (A ++ X) (y :: R) x j (by rw [h]; simp) (by simp; omega)
    obtain ⟨h1, h2, h3⟩ := hX.of_app
    rw [insInner, hx, hy]
    by_cases c : lt y x = true
    · rw [if_pos (by simp [c]; omega)]
      have e := swp_list' d (A ++ X) [] R x y j (j + 1) (by rw [h]; simp) (by simp; omega) (by simp; omega)
      obtain ⟨Z, z1, z2, z3⟩ := insInner_list hs n X A (x :: R) y a j _ hl (by rw [e]; simp) ha (by omega) h1
      refine ⟨Z ++ [x], by rw [z1]; simp, So.app z2 (List.pairwise_singleton _ _) ?_, ?_⟩
      · intro u hu v hv
        obtain rfl := List.mem_singleton.1 hv
        have := (z3.mem hs u).1 hu
        rcases List.mem_append.1 this with q | q
        · exact h3 u q _ (List.mem_singleton_self _)
        · obtain rfl := List.mem_singleton.1 q
          exact hs.as c
      · refine (z3.app (SF.refl [x])).trans ?_
        rw [List.append_assoc, List.append_assoc]
        refine (SF.refl X).app (SF.symm (SF.swap hs ?_))
        intro u hu v hv
        obtain rfl := List.mem_singleton.1 hu
        obtain rfl := List.mem_singleton.1 hv
        exact c
    · rw [if_neg (by simp [c])]
      refine ⟨X ++ [x] ++ [y], by rw [h]; simp, So.app hX (List.pairwise_singleton _ _) ?_, SF.refl _⟩
      intro u hu v hv
      obtain rfl := List.mem_singleton.1 hv
      have c' : lt v x = false := by simpa using c
      rcases List.mem_append.1 hu with q | q
      · exact hs.ng _ _ _ c' (h3 u q _ (List.mem_singleton_self _))
      · obtain rfl := List.mem_singleton.1 q
        exact c'
theorem insOuter_list (hs : SW lt) : ∀ (Y X A R : List SO) (a b i : Nat) (d : Array SO), d.toList = A ++ (X ++ (Y ++ R)) → a = A.length → i = A.length + X.length → b = i + Y.length → So lt X → ∃ Z, (insOuter lt a b i d).toList = A ++ (Z ++ R) ∧ So lt Z ∧ SF lt Z (X ++ Y)
  | [], X, A, R, a, b, i, d, h, ha, hi, hb, hX => by
    rw [insOuter, if_neg (by simp at hb; omega)]
    exact ⟨X, h, hX, by rw [List.append_nil]; exact SF.refl _⟩
  | y :: Y, X, A, R, a, b, i, d, h, ha, hi, hb, hX => by
    rw [insOuter, if_pos (by simp at hb; omega)]
    obtain ⟨Z, z1, z2, z3⟩ := insInner_list hs X.length X A (Y ++ R) y a i d rfl (by rw [h]; rfl) ha hi hX
    have hz : Z.length = X.length + 1 := by
      have q : (insInner lt a i d).size = d.size := size_insInner_o _ _ _ _
      rw [← Array.length_toList, ← Array.length_toList, z1, h] at q
      simp at q; omega
    obtain ⟨Z', y1, y2, y3⟩ := insOuter_list hs Y Z A R a b (i + 1) _ z1 ha (by omega) (by simp at hb; omega) z2
    refine ⟨Z', y1, y2, y3.trans ?_⟩
    have := z3.app (SF.refl (lt := lt) Y)
    simpa using this
theorem ins_list (hs : SW lt) (L A R : List SO) (a b : Nat) (d : Array SO) (h : d.toList = A ++ (L ++ R)) (ha : a = A.length) (hb : b = a + L.length) : ∃ Z, (insertionSort lt d a b).toList = A ++ (Z ++ R) ∧ So lt Z ∧ SF lt Z L := by
  rw [insertionSort]
  cases L with
  | nil =>
    rw [insOuter, if_neg (by simp at hb; omega)]
    exact ⟨[], h, List.Pairwise.nil, SF.refl _⟩
  | cons x L => exact insOuter_list hs L [x] A R a b (a + 1) d (by rw [h]; rfl) ha (by simp; omega) (by simp at hb; omega) (List.pairwise_singleton _ _)
theorem bsr_spec (p : Nat → Bool) (i0 j0 : Nat) : ∀ (k i j : Nat), j - i ≤ k → i ≤ j → i0 ≤ i → j ≤ j0 → (i = i0 ∨ i0 < i ∧ p (i - 1) = true) → (j = j0 ∨ j < j0 ∧ p j = false) →
    (bsr p k i j = i0 ∨ i0 < bsr p k i j ∧ p (bsr p k i j - 1) = true) ∧ (bsr p k i j = j0 ∨ bsr p k i j < j0 ∧ p (bsr p k i j) = false) ∧ i0 ≤ bsr p k i j ∧ bsr p k i j ≤ j0
  | 0, i, j, hk, hij, h0, h1, hi, hj => by
    obtain rfl : i = j := by omega
    exact ⟨hi, hj, h0, h1⟩
  | k + 1, i, j, hk, hij, h0, h1, hi, hj => by
    rw [bsr]
    by_cases c : i < j
    · rw [if_pos c]
      cases e : p ((i + j) / 2) with
      | true =>
        rw [if_pos rfl]
        exact bsr_spec p i0 j0 k _ j (by omega) (by omega) (by omega) h1 (.inr ⟨by omega, by rw [show (i + j) / 2 + 1 - 1 = (i + j) / 2 by omega]; exact e⟩) hj
      | false =>
        rw [if_neg (by decide)]
        exact bsr_spec p i0 j0 k i _ (by omega) (by omega) h0 (by omega) hi (.inr ⟨by omega, e⟩)
    · rw [if_neg c]
      obtain rfl : i = j := by omega
      exact ⟨hi, hj, h0, h1⟩
theorem bsr_at (p : Nat → Bool) (i j : Nat) (h : i ≤ j) : ∃ s, bsr p (j - i) i j = s ∧ (s = i ∨ i < s ∧ p (s - 1) = true) ∧ (s = j ∨ s < j ∧ p s = false) ∧ i ≤ s ∧ s ≤ j :=
  ⟨_, rfl, bsr_spec p i j (j - i) i j (Nat.le_refl _) h (Nat.le_refl _) (Nat.le_refl _) (.inl rfl) (.inl rfl)⟩
theorem So.le_last (hs : SW lt) {l : List SO} {u x : SO} (h : So lt (l ++ [u])) (hx : x ∈ l ++ [u]) : lt u x = false := by
  rcases List.mem_append.1 hx with q | q
  · exact h.of_app.2.2 x q _ (List.mem_singleton_self _)
  · rw [List.mem_singleton.1 q]; exact hs.irr _
theorem So.ge_first (hs : SW lt) {l : List SO} {u x : SO} (h : So lt (u :: l)) (hx : x ∈ u :: l) : lt x u = false := by
  rcases List.mem_cons.1 hx with q | q
  · rw [q]; exact hs.irr _
  · exact (List.pairwise_cons.1 h).1 x q
theorem len_of {f d : Array SO} {A Z L B : List SO} (hf : f.size = d.size) (h1 : f.toList = A ++ (Z ++ B)) (h2 : d.toList = A ++ (L ++ B)) : Z.length = L.length := by
  rw [← Array.length_toList, ← Array.length_toList, h1, h2] at hf
  simp at hf; omega
theorem symM_list (hs : SW lt) : ∀ (k : Nat) (A X Y B : List SO) (d : Array SO) (a m b : Nat), d.toList = A ++ (X ++ (Y ++ B)) → a = A.length → m = a + X.length → b = m + Y.length → 0 < X.length → 0 < Y.length → X.length + Y.length ≤ k → So lt X → So lt Y →
    ∃ Z, (symM lt k a m b d).toList = A ++ (Z ++ B) ∧ So lt Z ∧ SF lt Z (X ++ Y)
  | 0, A, X, Y, B, d, a, m, b, h, ha, hm, hb, hx, hy, hk, hX, hY => by omega
  | k + 1, A, X, Y, B, d, a, m, b, h, ha, hm, hb, hx, hy, hk, hX, hY => by
    rw [symM]
    by_cases c1 : m - a = 1
    · rw [if_pos c1]
      obtain ⟨x, X', rfl⟩ := cons_of hx
      obtain rfl : X' = [] := List.eq_nil_of_length_eq_zero (by simp at hm; omega)
      simp only [List.length_cons, List.length_nil] at *
      have hxa := get_list d A (Y ++ B) x a (by rw [h]; rfl) ha
      obtain ⟨s, es, p1, p2, q1, q2⟩ := bsr_at (fun h => lt d[h]! d[a]!) m b (by omega)
      rw [es]
      simp only [hxa] at p1 p2
      obtain ⟨Y1, Y2, rfl, hl⟩ := split_at Y (s - m) (by omega)
      simp only [List.length_append] at *
      obtain ⟨g1, g2, g3⟩ := hY.of_app
      have r1 : ∀ y ∈ Y1, lt y x = true := by
        intro y hy'
        have hp : 0 < Y1.length := List.length_pos_of_mem hy'
        obtain ⟨Y1, u, rfl⟩ := concat_of hp
        simp only [List.length_append, List.length_singleton] at *
        have hu := get_list d (A ++ (x :: Y1)) (Y2 ++ B) u (s - 1) (by rw [h]; simp) (by simp; omega)
        rcases p1 with e | ⟨_, e⟩
        · omega
        · rw [hu] at e
          exact hs.lt_of e (g1.le_last hs hy')
      have r2 : ∀ y ∈ Y2, lt y x = false := by
        intro y hy'
        have hp : 0 < Y2.length := List.length_pos_of_mem hy'
        obtain ⟨u, Y2, rfl⟩ := cons_of hp
        simp only [List.length_cons] at *
        have hu := get_list d (A ++ (x :: Y1)) (Y2 ++ B) u s (by rw [h]; simp) (by simp; omega)
        rcases p2 with e | ⟨_, e⟩
        · omega
        · rw [hu] at e
          exact hs.ng _ _ _ (g2.ge_first hs hy') e
      have e := upGo_list Y1 A (Y2 ++ B) x a d (by rw [h]; simp) ha
      rw [show s - 1 - a = Y1.length by omega, e]
      refine ⟨Y1 ++ ([x] ++ Y2), by simp, So.app g1 (So.app (List.pairwise_singleton _ _) g2 ?_) ?_, ?_⟩
      · intro u hu v hv
        rw [List.mem_singleton.1 hu]; exact r2 v hv
      · intro u hu v hv
        rcases List.mem_append.1 hv with q | q
        · rw [List.mem_singleton.1 q]; exact hs.as (r1 u hu)
        · exact g3 u hu v q
      · rw [← List.append_assoc, ← List.append_assoc]
        refine SF.app (SF.symm (SF.swap hs ?_)) (SF.refl _)
        intro u hu v hv
        rw [List.mem_singleton.1 hu]; exact r1 v hv
    · rw [if_neg c1]
      by_cases c2 : b - m = 1
      · rw [if_pos c2]
        obtain ⟨y, Y', rfl⟩ := cons_of hy
        obtain rfl : Y' = [] := List.eq_nil_of_length_eq_zero (by simp at hb; omega)
        simp only [List.length_cons, List.length_nil] at *
        have hya := get_list d (A ++ X) B y m (by rw [h]; simp) (by simp; omega)
        obtain ⟨s, es, p1, p2, q1, q2⟩ := bsr_at (fun h => !lt d[m]! d[h]!) a m (by omega)
        rw [es]
        simp only [hya] at p1 p2
        obtain ⟨X1, X2, rfl, hl⟩ := split_at X (s - a) (by omega)
        simp only [List.length_append] at *
        obtain ⟨g1, g2, g3⟩ := hX.of_app
        have r1 : ∀ x ∈ X1, lt y x = false := by
          intro x hx'
          have hp : 0 < X1.length := List.length_pos_of_mem hx'
          obtain ⟨X1, u, rfl⟩ := concat_of hp
          simp only [List.length_append, List.length_singleton] at *
          have hu := get_list d (A ++ X1) (X2 ++ (y :: B)) u (s - 1) (by rw [h]; simp) (by simp; omega)
          rcases p1 with e | ⟨_, e⟩
          · omega
          · rw [hu] at e
            exact hs.ng _ _ _ (by simpa using e) (g1.le_last hs hx')
        have r2 : ∀ x ∈ X2, lt y x = true := by
          intro x hx'
          have hp : 0 < X2.length := List.length_pos_of_mem hx'
          obtain ⟨u, X2, rfl⟩ := cons_of hp
          simp only [List.length_cons] at *
          have hu := get_list d (A ++ X1) (X2 ++ (y :: B)) u s (by rw [h]; simp) (by simp; omega)
          rcases p2 with e | ⟨_, e⟩
          · omega
          · rw [hu] at e
            exact hs.lt_of' (by simpa using e) (g2.ge_first hs hx')
        have e := dnGo_list X2.length X2 (A ++ X1) B y m d rfl (by rw [h]; simp) (by simp; omega)
        rw [show m - s = X2.length by omega, e]
        refine ⟨X1 ++ ([y] ++ X2), by simp, So.app g1 (So.app (List.pairwise_singleton _ _) g2 ?_) ?_, ?_⟩
        · intro u hu v hv
          rw [List.mem_singleton.1 hu]; exact hs.as (r2 v hv)
        · intro u hu v hv
          rcases List.mem_append.1 hv with q | q
          · rw [List.mem_singleton.1 q]; exact r1 u hu
          · exact g3 u hu v q
        · rw [List.append_assoc]
          refine SF.app (SF.refl _) (SF.symm (SF.swap hs ?_))
          intro u hu v hv
          rw [List.mem_singleton.1 hv]; exact r2 u hu
      · rw [if_neg c2]
        dsimp only
        obtain ⟨mid, hmid⟩ : ∃ x, (a + b) / 2 = x := ⟨_, rfl⟩
        rw [hmid]
        obtain ⟨st, hst⟩ : ∃ x, (if m > mid then mid + m - b else a) = x := ⟨_, rfl⟩
        obtain ⟨r, hr⟩ : ∃ x, (if m > mid then mid else m) = x := ⟨_, rfl⟩
        rw [hst, hr]
        have hc : (m > mid ∧ st = mid + m - b ∧ r = mid) ∨ (m ≤ mid ∧ st = a ∧ r = m) := by
          by_cases c : m > mid
          · rw [if_pos c] at hst hr; exact .inl ⟨c, hst.symm, hr.symm⟩
          · rw [if_neg c] at hst hr; exact .inr ⟨by omega, hst.symm, hr.symm⟩
        clear hst hr
        obtain ⟨s, es, p1, p2, q1, q2⟩ := bsr_at (fun c => !lt d[mid + m - 1 - c]! d[c]!) st r (by omega)
        rw [es]
        obtain ⟨e, he⟩ : ∃ x, mid + m - s = x := ⟨_, rfl⟩
        rw [he]
        obtain ⟨X1, X2, rfl, hl1⟩ := split_at X (s - a) (by omega)
        obtain ⟨Y1, Y2, rfl, hl2⟩ := split_at Y (e - m) (by omega)
        simp only [List.length_append] at *
        obtain ⟨g1, g2, g3⟩ := hX.of_app
        obtain ⟨f1, f2, f3⟩ := hY.of_app
        have i1 : ∀ x ∈ X2, ∀ y ∈ Y1, lt y x = true := by
          intro x hx' y hy'
          have hp1 : 0 < X2.length := List.length_pos_of_mem hx'
          have hp2 : 0 < Y1.length := List.length_pos_of_mem hy'
          obtain ⟨v, X2, rfl⟩ := cons_of hp1
          obtain ⟨Y1, u, rfl⟩ := concat_of hp2
          simp only [List.length_append, List.length_cons, List.length_nil] at *
          rcases p2 with e' | ⟨_, e'⟩
          · omega
          · have hv := get_list d (A ++ X1) (X2 ++ (Y1 ++ [u] ++ Y2 ++ B)) v s (by rw [h]; simp) (by simp; omega)
            have hu := get_list d (A ++ (X1 ++ v :: (X2 ++ Y1))) (Y2 ++ B) u (mid + m - 1 - s) (by rw [h]; simp) (by simp; omega)
            rw [hv, hu] at e'
            exact hs.lt_of' (hs.lt_of (by simpa using e') (f1.le_last hs hy')) (g2.ge_first hs hx')
        have i2 : ∀ x ∈ X1, ∀ y ∈ Y2, lt y x = false := by
          intro x hx' y hy'
          have hp1 : 0 < X1.length := List.length_pos_of_mem hx'
          have hp2 : 0 < Y2.length := List.length_pos_of_mem hy'
          obtain ⟨v, Y2, rfl⟩ := cons_of hp2
          obtain ⟨X1, u, rfl⟩ := concat_of hp1
          simp only [List.length_append, List.length_cons, List.length_nil] at *
          rcases p1 with e' | ⟨_, e'⟩
          · omega
          · have hu := get_list d (A ++ X1) (X2 ++ (Y1 ++ (v :: Y2) ++ B)) u (s - 1) (by rw [h]; simp) (by simp; omega)
            have hv := get_list d (A ++ (X1 ++ u :: (X2 ++ Y1))) (Y2 ++ B) v (mid + m - 1 - (s - 1)) (by rw [h]; simp) (by simp; omega)
            rw [hv, hu] at e'
            exact hs.ng _ _ _ (f2.ge_first hs hy') (hs.ng _ _ _ (by simpa using e') (g1.le_last hs hx'))
        obtain ⟨d1, hd1⟩ : ∃ x, (if s < m ∧ m < e then rotGo m (e - s) (m - s) (e - m) d else d) = x := ⟨_, rfl⟩
        have t1 : d1.toList = A ++ (X1 ++ (Y1 ++ (X2 ++ (Y2 ++ B)))) := by
          rw [← hd1]
          by_cases c : s < m ∧ m < e
          · rw [if_pos c]
            have := rotGo_list m (e - s) X2 Y1 (A ++ X1) (Y2 ++ B) d (by omega) (by omega) (by omega) (by rw [h]; simp) (by simp; omega)
            rw [show m - s = X2.length by omega, show e - m = Y1.length by omega, this]; simp
          · rw [if_neg c, h]
            rcases Nat.lt_or_ge s m with c' | c'
            · obtain rfl := List.eq_nil_of_length_eq_zero (by omega : Y1.length = 0); simp
            · obtain rfl := List.eq_nil_of_length_eq_zero (by omega : X2.length = 0); simp
        rw [hd1]
        obtain ⟨d2, hd2⟩ : ∃ x, (if a < s ∧ s < mid then symM lt k a s mid d1 else d1) = x := ⟨_, rfl⟩
        have t2 : ∃ Z1, d2.toList = A ++ (Z1 ++ (X2 ++ (Y2 ++ B))) ∧ So lt Z1 ∧ SF lt Z1 (X1 ++ Y1) := by
          rw [← hd2]
          by_cases c : a < s ∧ s < mid
          · rw [if_pos c]
            exact symM_list hs k A X1 Y1 (X2 ++ (Y2 ++ B)) d1 a s mid t1 ha (by omega) (by omega) (by omega) (by omega) (by omega) g1 f1
          · rw [if_neg c]
            refine ⟨X1 ++ Y1, by rw [t1]; simp, ?_, SF.refl _⟩
            rcases Nat.lt_or_ge a s with c' | c'
            · obtain rfl := List.eq_nil_of_length_eq_zero (by omega : Y1.length = 0); simpa using g1
            · obtain rfl := List.eq_nil_of_length_eq_zero (by omega : X1.length = 0); simpa using f1
        rw [hd2]
        obtain ⟨Z1, z1, z2, z3⟩ := t2
        have zl : Z1.length = X1.length + Y1.length := by
          have hsz : d2.size = d1.size := by rw [← hd2]; split <;> simp only [size_symM]
          have := len_of (L := X1 ++ Y1) hsz z1 (by rw [t1]; simp)
          simpa using this
        have t3 : ∃ Z2, (if mid < e ∧ e < b then symM lt k mid e b d2 else d2).toList = A ++ (Z1 ++ (Z2 ++ B)) ∧ So lt Z2 ∧ SF lt Z2 (X2 ++ Y2) := by
          by_cases c : mid < e ∧ e < b
          · rw [if_pos c]
            obtain ⟨Z2, y1, y2, y3⟩ := symM_list hs k (A ++ Z1) X2 Y2 B d2 mid e b (by rw [z1]; simp) (by simp; omega) (by omega) (by omega) (by omega) (by omega) (by omega) g2 f2
            exact ⟨Z2, by rw [y1]; simp, y2, y3⟩
          · rw [if_neg c]
            refine ⟨X2 ++ Y2, by rw [z1]; simp, ?_, SF.refl _⟩
            rcases Nat.lt_or_ge mid e with c' | c'
            · obtain rfl := List.eq_nil_of_length_eq_zero (by omega : Y2.length = 0); simpa using g2
            · obtain rfl := List.eq_nil_of_length_eq_zero (by omega : X2.length = 0); simpa using f2
        obtain ⟨Z2, y1, y2, y3⟩ := t3
        refine ⟨Z1 ++ Z2, by rw [y1]; simp, So.app z2 y2 ?_, ?_⟩
        · intro u hu v hv
          rcases List.mem_append.1 ((z3.mem hs u).1 hu) with q | q <;> rcases List.mem_append.1 ((y3.mem hs v).1 hv) with q' | q'
          · exact g3 u q v q'
          · exact i2 u q v q'
          · exact hs.as (i1 v q' u q)
          · exact f3 u q v q'
        · refine (z3.app y3).trans ?_
          rw [List.append_assoc, List.append_assoc, ← List.append_assoc Y1, ← List.append_assoc X2]
          exact (SF.refl X1).app ((SF.symm (SF.swap hs i1)).app (SF.refl Y2))
end Go.Proofs.Ytjjnbcaemognhaa.Clr.M
