/- The document's sorting and its test of a book are the program's. -/
import Derived.Test.YtjjnbcaemognhaaZCapMathC
import Derived.Test.YtjjnbcaemognhaaZCapx18
namespace Go.Proofs.Ytjjnbcaemognhaa.Cap.M
open Go.RowKit Go.Proofs.Ytjjnbcaemognhaa.Cap Go.Proofs.YtjjnbcaemognhaaW.PrintWords Go.Proofs.YtjjnbcaemognhaaW.PrintLast
open Go.Sort
set_option linter.unusedVariables false
set_option linter.unusedSimpArgs false
theorem ltOf_eq : Go.Proofs.ltOf cmpO = ltO := by
  funext x y
  show decide (cmpO x y < 0) = decide (lexP x y)
  unfold cmpO
  simp only [order_Sorted_1.f, rank_eq, Option.bind_some]
  by_cases h : rk x = rk y
  · rw [if_pos h]
    by_cases hs : x.f2 = y.f2 ∧ (x.f2 = 1 ∨ x.f2 = 2)
    · obtain ⟨e, hs⟩ := hs
      rw [← e, ahead_ok _ _ _ _ _ _ _ _ _ _ _ hs, ahead_ok _ _ _ _ _ _ _ _ _ _ _ hs]
      simp only [Option.bind_some, decide_eq_true_eq]
      refine decide_eq_decide.2 ?_
      by_cases p : ahP x.f2 x.f3 x.f5 x.f0 y.f3 y.f5 y.f0
      · rw [if_pos p]
        simp only [Option.getD_some]
        unfold ahP at p; unfold lexP rk kp kq ki
        rcases hs with hs | hs <;> simp only [← e, hs, if_true] <;> (simp only [hs] at p; simp at p ⊢; omega)
      · rw [if_neg p]
        have hge : ¬ (((if ahP x.f2 y.f3 y.f5 y.f0 x.f3 x.f5 x.f0 then some 1 else some 0 : Option Int).getD 0) < 0) := by split <;> simp
        refine iff_of_false hge ?_
        unfold ahP at p; unfold lexP rk kp kq ki
        rcases hs with hs | hs <;> simp only [← e, hs, if_true] <;> (simp only [hs] at p; simp at p ⊢; omega)
    · have h3 : ¬ (x.f2 = 1 ∨ x.f2 = 2) := by
        intro q; refine hs ⟨?_, q⟩
        unfold rk at h
        rcases q with q | q
        · rw [if_pos q] at h; split at h
          · omega
          · split at h <;> omega
        · rw [if_neg (by omega), if_pos q] at h; split at h
          · omega
          · split at h <;> omega
      have h4 : ¬ (y.f2 = 1 ∨ y.f2 = 2) := by
        intro q
        unfold rk at h
        rw [if_neg (by omega), if_neg (by omega)] at h
        rcases q with q | q
        · rw [if_pos q] at h; omega
        · rw [if_neg (by omega), if_pos q] at h; omega
      rw [ahead_no 3 _ _ _ _ _ _ _ _ _ _ _ _ (.inr h3), ahead_no 3 _ _ _ _ _ _ _ _ _ _ _ _ (.inr h4)]
      refine decide_eq_decide.2 (iff_of_false (by decide) ?_)
      unfold lexP rk kp kq ki
      have a1 : ¬ x.f2 = 1 := fun q => h3 (.inl q)
      have a2 : ¬ x.f2 = 2 := fun q => h3 (.inr q)
      have a3 : ¬ y.f2 = 1 := fun q => h4 (.inl q)
      have a4 : ¬ y.f2 = 2 := fun q => h4 (.inr q)
      simp only [if_neg a1, if_neg a2, if_neg a3, if_neg a4]
      omega
  · rw [if_neg h, cmpi]
    simp only [Option.bind_some, Option.getD_some]
    refine decide_eq_decide.2 ?_
    unfold lexP
    by_cases c : rk x < rk y
    · rw [if_pos c]; exact iff_of_true (by decide) (.inl c)
    · rw [if_neg c, if_pos (by omega)]
      exact iff_of_false (by decide) (by omega)
theorem sortL_spec (l : List SO) : So ltO (sortL l) ∧ SF ltO (sortL l) l := by
  have := stable_sorts ltO_sw l.toArray
  rw [List.size_toArray] at this
  rw [sortL, ltOf_eq]
  exact this
theorem sortL_eq {l s : List SO} (h1 : So ltO s) (h2 : SF ltO s l) : sortL l = s :=
  uniq ltO_sw _ _ (sortL_spec l).1 h1 ((sortL_spec l).2.trans h2.symm)
def tor (x : SO) : S41 := ⟨x.f0, x.f1, x.f2, x.f3, x.f4, x.f5⟩
theorem rd41 (l A R : List SO) (x : SO) (i : Nat) (h : l = A ++ x :: R) (hi : i = A.length) : rd_T41 (l.map tor) (i : Int) = tor x := by
  subst h hi
  simp [rd_T41]
theorem rd33 (l A R : List SO) (x : SO) (i : Nat) (h : l = A ++ x :: R) (hi : i = A.length) : rd_T42 l (i : Int) = x := by
  subst h hi
  simp [rd_T42]
theorem wn {i : Nat} (h : i < 1000000000) : wrap64 ((i : Int) + 1) = ((i + 1 : Nat) : Int) := by unfold wrap64; omega
theorem plain_l0 : ∀ (R A : List SO) (j : Nat), (A ++ R).length < 1000000 → jobberlaw12_Plain.l0 (j + R.length + 1) (A.map tor) (A ++ R) ((A ++ R).length : Int) (A.length : Int) = some ((A ++ R).map tor)
  | [], A, j, h => by
    rw [jobberlaw12_Plain.l0, if_neg (by simp)]; simp
  | x :: R, A, j, h => by
    have hr := rd33 (A ++ x :: R) A R x A.length rfl rfl
    simp only [List.length_append, List.length_cons] at h
    rw [jobberlaw12_Plain.l0, if_pos (by simp; omega), if_pos (by omega), if_pos (by simp; omega), if_pos (by simp; omega), hr, wn (by omega)]
    have := plain_l0 R (A ++ [x]) j (by simp; omega)
    simp only [List.append_assoc, List.singleton_append, List.map_append, List.map_cons, List.map_nil, List.length_append, List.length_cons, List.length_nil] at this ⊢
    rw [show j + (R.length + 1) = j + R.length + 1 by omega]
    exact this
theorem plain_eq (l : List SO) (k : Nat) (hl : l.length < 1000000) (hk : l.length < k) : jobberlaw12_Plain.f k l = some (l.map tor) := by
  have := plain_l0 l [] (k - l.length - 1) (by simpa using hl)
  rw [show k - l.length - 1 + l.length + 1 = k by omega] at this
  exact this
def cls (x : SO) : Int := if x.f2 < 1 ∨ x.f2 > 2 then 0 else x.f2
def cp (c : Int) (x : SO) : Bool := decide (cls x = c)
theorem side_j1 (l A R : List SO) (x : SO) (c : Int) (acc : List SO) (j : Nat) (b : Bool) (hl : l = A ++ x :: R) (hn : l.length < 1000000) (ha : acc.length ≤ A.length) (hb : b = decide (x.f2 < 1 ∨ x.f2 > 2)) :
    jobberref12_side.j1 (j + 1) (l.map tor) c (acc.map tor) (A.length : Int) x.f2 b = jobberref12_side.l0 j (l.map tor) c ((acc ++ (if cp c x then [x] else [])).map tor) ((A.length + 1 : Nat) : Int) := by
  have hr := rd41 l A R x A.length hl rfl
  have hlen : l.length = A.length + R.length + 1 := by rw [hl]; simp; omega
  rw [jobberref12_side.j1, hr, wn (by omega)]
  have g1 : (0 : Int) ≤ (A.length : Int) := by omega
  have g2 : (A.length : Int) < ((l.map tor).length : Int) := by simp; omega
  have g3 : (acc.map tor).length < 2932031007402 := by simp; omega
  simp only [if_pos g1, if_pos g2, if_pos g3]
  have hm : ∀ c' : Prop, [Decidable c'] → (acc.map tor ++ [(⟨(tor x).f0, (tor x).f1, (tor x).f2, (tor x).f3, (tor x).f4, (tor x).f5⟩ : S41)]) = (acc ++ [x]).map tor := fun _ _ => by simp [tor]
  by_cases q : x.f2 < 1 ∨ x.f2 > 2
  · have e : cls x = 0 := if_pos q
    rw [hb, decide_eq_true q, if_pos rfl]
    by_cases h0 : (0 : Int) = c
    · rw [if_pos h0, hm True, if_pos (by simp [cp, e, h0])]
    · rw [if_neg h0, if_neg (by simp [cp, e, h0]), List.append_nil]
  · have e : cls x = x.f2 := if_neg q
    rw [hb, decide_eq_false q, if_neg (by decide)]
    by_cases h0 : x.f2 = c
    · rw [if_pos h0, hm True, if_pos (by simp [cp, e, h0])]
    · rw [if_neg h0, if_neg (by simp [cp, e, h0]), List.append_nil]
theorem side_l0 (l : List SO) (c : Int) (hn : l.length < 1000000) : ∀ (R A : List SO) (j : Nat), l = A ++ R → jobberref12_side.l0 (j + 2 * R.length + 1) (l.map tor) c ((A.filter (cp c)).map tor) (A.length : Int) = some ((l.filter (cp c)).map tor)
  | [], A, j, h => by
    rw [jobberref12_side.l0, if_neg (by rw [h]; simp)]
    rw [h, List.append_nil]
  | x :: R, A, j, h => by
    have hr := rd41 l A R x A.length h rfl
    have hlen : l.length = A.length + R.length + 1 := by rw [h]; simp; omega
    have ih := side_l0 l c hn R (A ++ [x]) j (by rw [h]; simp)
    have hj := fun b hb => side_j1 l A R x c (A.filter (cp c)) (j + 2 * R.length + 1) b h hn (List.length_filter_le _ _) hb
    have ef : (A ++ [x]).filter (cp c) = A.filter (cp c) ++ (if cp c x then [x] else []) := by
      rw [List.filter_append]; cases e : cp c x <;> simp [List.filter, e]
    rw [List.length_append, List.length_singleton, ef] at ih
    rw [List.length_cons, show j + 2 * (R.length + 1) + 1 = j + 2 * R.length + 1 + 1 + 1 by omega, jobberref12_side.l0, if_pos (by simp; omega), if_pos (by omega), hr]
    show (if x.f2 < 1 then jobberref12_side.j1 _ _ _ _ _ x.f2 true else jobberref12_side.j1 _ _ _ _ _ x.f2 (decide (x.f2 > 2))) = _
    by_cases q : x.f2 < 1
    · rw [if_pos q, hj true (by simp [q])]; exact ih
    · rw [if_neg q, hj _ (by simp [q])]; exact ih
theorem side_eq (l : List SO) (c : Int) (k : Nat) (hn : l.length < 1000000) (hk : 2 * l.length < k) : jobberref12_side.f k (l.map tor) c = some ((l.filter (cp c)).map tor) := by
  have := side_l0 l c hn l [] (k - 2 * l.length - 1) rfl
  rw [show k - 2 * l.length - 1 + 2 * l.length + 1 = k by omega] at this
  exact this
theorem ref_ahead (x y : SO) (r : Int) (hr : r = 1 ∨ r = 2) (hx : x.f2 = r) (hy : y.f2 = r) (k : Nat) :
    jobberref12_Ahead.f (k + 1) (tor x).f0 (tor x).f1 (tor x).f2 (tor x).f3 (tor x).f4 (tor x).f5 (tor y).f0 (tor y).f1 (tor y).f2 (tor y).f3 (tor y).f4 (tor y).f5 = some (ltO x y) := by
  show jobberref12_Ahead.f (k + 1) x.f0 x.f1 x.f2 x.f3 x.f4 x.f5 y.f0 y.f1 y.f2 y.f3 y.f4 y.f5 = some (decide (lexP x y))
  rw [hx, hy]
  have e : jobberref12_Ahead.f (k + 1) x.f0 x.f1 r x.f3 x.f4 x.f5 y.f0 y.f1 r y.f3 y.f4 y.f5 = jobberref12_Ahead.j0 (k + 1) false x.f0 x.f1 r x.f3 x.f4 x.f5 y.f0 y.f1 r y.f3 y.f4 y.f5 := by
    rw [jobberref12_Ahead.f, if_pos rfl, if_neg (by omega), decide_eq_false (by omega)]
  have L : lexP x y ↔ ((if r = 1 then x.f3 > y.f3 else x.f3 < y.f3) ∨ (x.f3 = y.f3 ∧ (x.f5 < y.f5 ∨ (x.f5 = y.f5 ∧ x.f0 < y.f0)))) := by
    unfold lexP rk kp kq ki
    rw [hx, hy]
    rcases hr with rfl | rfl
    · simp
    · simp
  rw [e, jobberref12_Ahead.j0, if_neg (by decide)]
  by_cases h3 : x.f3 = y.f3
  · rw [if_pos h3]
    by_cases h5 : x.f5 = y.f5
    · rw [if_pos h5]
      refine congrArg some (decide_eq_decide.2 (Iff.trans ?_ L.symm))
      split <;> omega
    · rw [if_neg h5]
      refine congrArg some (decide_eq_decide.2 (Iff.trans ?_ L.symm))
      split <;> omega
  · rw [if_neg h3]
    rcases hr with rfl | rfl
    · unfold jobberref12_Better.f
      rw [if_pos rfl]
      by_cases c : x.f3 > y.f3
      · rw [if_pos c]
        exact congrArg some (decide_eq_true (L.2 (by rw [if_pos rfl]; exact .inl c))).symm
      · rw [if_neg c, if_neg (by decide)]
        exact congrArg some (decide_eq_false (fun q => by have := L.1 q; rw [if_pos rfl] at this; omega)).symm
    · unfold jobberref12_Better.f
      rw [if_neg (by decide), if_pos rfl]
      refine congrArg some (decide_eq_decide.2 (Iff.trans ?_ L.symm))
      rw [if_neg (by decide)]; omega
def nd : Nat → Nat
  | 0 => 1
  | n + 1 => nd n + n + 2
theorem sel_l1 (l : List SO) (r : Int) (hr : r = 1 ∨ r = 2) (hl : ∀ x ∈ l, x.f2 = r) (hn : l.length < 1000000) : ∀ (R P M : List SO) (x : SO), l = P ++ x :: (M ++ R) → (∀ p ∈ P, ltO x p = true) → (∀ m ∈ M, ltO m x = false) →
    ∃ P' x' M', l = P' ++ x' :: M' ∧ (∀ p ∈ P', ltO x' p = true) ∧ (∀ m ∈ M', ltO m x' = false) ∧ ∀ (j : Nat) (x3 : List S41), x3.length < 1000000 → jobberref12_sorted.l1 (j + R.length + 1) (l.map tor) x3 (P.length : Int) ((P.length + 1 + M.length : Nat) : Int) = jobberref12_sorted.l0 j ((P' ++ M').map tor) (x3 ++ [tor x'])
  | [], P, M, x, h, hp, hm => by
    refine ⟨P, x, M, by rw [h, List.append_nil], hp, hm, fun j x3 h3 => ?_⟩
    have hrd := rd41 l P (M ++ []) x P.length h rfl
    have hlen : l.length = P.length + M.length + 1 := by rw [h]; simp; omega
    rw [jobberref12_sorted.l1, if_neg (by simp; omega), if_pos (by omega), if_pos (by simp; omega), if_pos (by omega), if_pos (by simp; omega)]
    simp only [Option.bind_some, List.nil_append, List.length_nil, Nat.zero_add, wn (show P.length < 1000000000 by omega), hrd]
    rw [if_pos (by simp; omega), if_pos (by omega), if_pos (by simp; omega), if_pos (by simp; omega)]
    have e1 : (List.map tor l).take ((P.length : Int)).toNat = P.map tor := by rw [h]; simp
    have e2 : (List.map tor l).drop (((P.length + 1 : Nat) : Int)).toNat = M.map tor := by
      rw [h, show ((P.length + 1 : Nat) : Int).toNat = P.length + 1 by omega, List.append_nil, List.map_append, List.map_cons, List.drop_append, List.drop_eq_nil_of_le (by simp), List.nil_append, List.length_map, show P.length + 1 - P.length = 1 by omega]
      rfl
    rw [e1, e2, List.map_append]
    rfl
  | y :: R, P, M, x, h, hp, hm => by
    have hrx := rd41 l P (M ++ y :: R) x P.length h rfl
    have hry := rd41 l (P ++ x :: M) R y (P.length + 1 + M.length) (by rw [h]; simp) (by simp; omega)
    have hlen : l.length = P.length + M.length + R.length + 2 := by rw [h]; simp; omega
    have hx : x.f2 = r := hl x (by rw [h]; simp)
    have hy : y.f2 = r := hl y (by rw [h]; simp)
    have step : ∀ (j : Nat) (x3 : List S41), jobberref12_sorted.l1 (j + (y :: R).length + 1) (l.map tor) x3 (P.length : Int) ((P.length + 1 + M.length : Nat) : Int) = if ltO y x = true then jobberref12_sorted.l1 (j + R.length + 1) (l.map tor) x3 ((P.length + 1 + M.length : Nat) : Int) ((P.length + 1 + M.length + 1 : Nat) : Int) else jobberref12_sorted.l1 (j + R.length + 1) (l.map tor) x3 (P.length : Int) ((P.length + 1 + M.length + 1 : Nat) : Int) := by
      intro j x3
      rw [List.length_cons, show j + (R.length + 1) + 1 = (j + R.length + 1) + 1 by omega, jobberref12_sorted.l1, if_pos (by simp; omega), if_pos (by omega), if_pos (by omega), if_pos (by simp; omega), hrx, hry, ref_ahead y x r hr hy hx, wn (by omega)]
      rfl
    by_cases c : ltO y x = true
    · obtain ⟨P', x', M', a1, a2, a3, a4⟩ := sel_l1 l r hr hl hn R (P ++ x :: M) [] y (by rw [h]; simp) (fun p hp' => by
        rcases List.mem_append.1 hp' with q | q
        · exact ltO_sw.tr _ _ _ c (hp p q)
        · rcases List.mem_cons.1 q with q | q
          · rw [q]; exact c
          · exact ltO_sw.lt_of' c (hm p q)) (fun m hm' => by cases hm')
      refine ⟨P', x', M', a1, a2, a3, fun j x3 h3 => ?_⟩
      rw [step, if_pos c, ← a4 j x3 h3]
      simp only [List.length_append, List.length_cons, List.length_nil, Nat.add_zero]
      rw [show P.length + (M.length + 1) = P.length + 1 + M.length by omega]
    · obtain ⟨P', x', M', a1, a2, a3, a4⟩ := sel_l1 l r hr hl hn R P (M ++ [y]) x (by rw [h]; simp) hp (fun m hm' => by
        rcases List.mem_append.1 hm' with q | q
        · exact hm m q
        · rw [List.mem_singleton.1 q]; simpa using c)
      refine ⟨P', x', M', a1, a2, a3, fun j x3 h3 => ?_⟩
      rw [step, if_neg c, ← a4 j x3 h3]
      simp only [List.length_append, List.length_cons, List.length_nil]
      rw [show P.length + 1 + (M.length + (0 + 1)) = P.length + 1 + M.length + 1 by omega]
theorem sel_l0 (r : Int) (hr : r = 1 ∨ r = 2) : ∀ (n : Nat) (l : List SO), l.length = n → (∀ x ∈ l, x.f2 = r) → n < 1000000 → ∃ s, So ltO s ∧ SF ltO s l ∧ s.length = l.length ∧ ∀ (k : Nat) (x3 : List S41), nd n ≤ k → x3.length + n < 1000000 → jobberref12_sorted.l0 k (l.map tor) x3 = some (x3 ++ s.map tor)
  | 0, l, hn, hl, h => by
    obtain rfl := List.eq_nil_of_length_eq_zero hn
    refine ⟨[], List.Pairwise.nil, SF.refl _, rfl, fun k x3 hk h3 => ?_⟩
    obtain ⟨k, rfl⟩ : ∃ k', k = k' + 1 := ⟨k - 1, by simp only [nd] at hk; omega⟩
    rw [jobberref12_sorted.l0, if_neg (by simp)]
    simp
  | n + 1, l, hn, hl, h => by
    obtain ⟨x, R, rfl⟩ := cons_of (by omega : 0 < l.length)
    have hR : R.length = n := by simpa using hn
    obtain ⟨P, x', M, e, hp, hm, he⟩ := sel_l1 (x :: R) r hr hl (by omega) R [] [] x rfl (fun _ h => by cases h) (fun _ h => by cases h)
    have hlen : P.length + M.length = n := by have := congrArg List.length e; simp at this; omega
    obtain ⟨s, s1, s2, s3, s4⟩ := sel_l0 r hr n (P ++ M) (by simp; omega) (fun y hy => hl y (by rw [e]; rcases List.mem_append.1 hy with q | q <;> simp [q])) (by omega)
    have sf : SF ltO (x' :: s) (x :: R) := by
      rw [e]
      refine SF.trans (l' := [x'] ++ (P ++ M)) (SF.app (l := [x']) (SF.refl _) s2) ?_
      rw [← List.append_assoc, show P ++ x' :: M = P ++ [x'] ++ M by simp]
      exact SF.app (SF.symm (SF.swap ltO_sw (fun p hp' y hy => by rw [List.mem_singleton.1 hy]; exact hp p hp'))) (SF.refl _)
    refine ⟨x' :: s, List.pairwise_cons.2 ⟨fun y hy => ?_, s1⟩, sf, by simp at s3 ⊢; omega, fun k x3 hk h3 => ?_⟩
    · rcases List.mem_append.1 ((s2.mem ltO_sw y).1 hy) with q | q
      · exact ltO_sw.as (hp y q)
      · exact hm y q
    · simp only [nd] at hk
      obtain ⟨j, rfl⟩ : ∃ j, k = j + n + 1 + 1 := ⟨k - n - 2, by omega⟩
      have e3 := he j x3 (by omega)
      rw [hR] at e3
      simp only [List.length_nil, Nat.zero_add, Nat.add_zero] at e3
      rw [jobberref12_sorted.l0, if_pos (by simp)]
      have e3' : jobberref12_sorted.l1 (j + n + 1) (List.map tor (x :: R)) x3 0 1 = jobberref12_sorted.l0 j (List.map tor (P ++ M)) (x3 ++ [tor x']) := e3
      rw [e3']
      rw [s4 j _ (by omega) (by simp; omega)]
      simp
end Go.Proofs.Ytjjnbcaemognhaa.Cap.M
