/- A price on the grid counts as one; what lies between the next ones of a price that is not on the grid. -/
import Derived.Test.YtdfkbdcdgbjgcaaGridMathD
namespace Go.Proofs.Ytdfkbdcdgbjgcaa.Grid.M
open Go.RowKit Go.Proofs.Ytdfkbdcdgbjgcaa.Grid Go.Proofs.YtdfkbdcdgbjgcaaW.PrintWords Go.Proofs.YtdfkbdcdgbjgcaaW.PrintLast
set_option linter.unusedVariables false

theorem S_zero {l : List S94} {lo hi : Int} : ∀ (d : Nat) (i : Int), 0 ≤ i → i + d ≤ l.length → (∀ j, i ≤ j → j < i + d → T l lo hi j = 0) → S l lo hi d i = 0 := by
  intro d
  induction d with
  | zero => intro i _ _ _; rfl
  | succ d ih =>
    intro i h0 h1 h
    simp only [S]
    rw [h i (by omega) (by omega), ih (i + 1) (by omega) (by omega) (fun j a b => h j (by omega) (by omega))]
    rfl
theorem S_one {l : List S94} {lo hi r : Int} : ∀ (d : Nat) (i : Int), 0 ≤ i → i + d ≤ l.length → i ≤ r → r < i + d → (∀ j, i ≤ j → j < i + d → j ≠ r → T l lo hi j = 0) → S l lo hi d i = T l lo hi r := by
  intro d
  induction d with
  | zero => intro i _ _ _ h; omega
  | succ d ih =>
    intro i h0 h1 hr0 hr1 h
    simp only [S]
    by_cases e : i = r
    · subst e
      rw [S_zero d (i + 1) (by omega) (by omega) (fun j a b => h j (by omega) (by omega) (by omega))]
      omega
    · rw [h i (by omega) (by omega) e, ih (i + 1) (by omega) (by omega) (by omega) (by omega) (fun j a b => h j (by omega) (by omega))]
      omega
theorem en_lt {l : List S94} (g : Good l) {p r j : Int} (h : IsRow l p r) (h0 : 0 ≤ j) (hj : j < r) : en l j < p := by
  have h1 := h.r1
  have : en l j = (rd_T94 l (j + 1)).f0 - 1 := if_pos (by omega)
  have := h.below g (j := j + 1) (by omega) (by omega)
  omega
theorem en_row {l : List S94} {p r : Int} (h : IsRow l p r) (hp : p ≤ 1099511627776) : p ≤ en l r := by
  unfold en
  split
  · rename_i hx; have := h.next hx; omega
  · exact hp
/-- Only the price's row tells something of it. -/
theorem T_other {l : List S94} (g : Good l) {lo hi r j : Int} (h : IsRow l lo r) (h' : IsRow l hi r) (h0 : 0 ≤ j) (h1 : j < l.length) (hj : j ≠ r) (hlh : lo ≤ hi) : T l lo hi j = 0 := by
  rcases Int.lt_or_gt_of_ne hj with hlt | hgt
  · have := en_lt g h h0 hlt
    exact T_zero_of_eq (by unfold mn; omega)
  · have a := h'.above g hgt h1
    have b := h.above g hgt h1
    unfold T
    rw [U_zero (by unfold mn; omega), U_zero (by unfold mn; omega)]
    omega
theorem cnt_self {l : List S94} (g : Good l) {p r : Int} (h : IsRow l p r) (hp : 1 ≤ p) (hp1 : p ≤ 1099511627776) (hon : fl l p r = p) : cnt l p p = 1 := by
  have h0 := h.r0; have h1 := h.r1
  obtain ⟨f0, f1, f2, f3, f4, f5, f6⟩ := h.facts g hp hp1
  have hfl : fl l p r = p - (p - (rd_T94 l r).f0) % (rd_T94 l r).f1 := rfl
  unfold cnt
  rw [S_one (r := r) l.length 0 (by omega) (by omega) h0 (by omega) (fun j a b c => T_other g h h a (by omega) c (Int.le_refl _))]
  have he := en_row h hp1
  unfold T
  have e1 : mn p (en l r) = p := by unfold mn; omega
  have e2 : mn (p - 1) (en l r) = p - 1 := by unfold mn; omega
  rw [e1, e2, U_at f6]
  have hz : (p - (rd_T94 l r).f0) % (rd_T94 l r).f1 = 0 := by omega
  have hq := divfl (x := p - (rd_T94 l r).f0) f1
  rw [hz] at hq
  generalize hQ : (p - (rd_T94 l r).f0) / (rd_T94 l r).f1 = Q at *
  by_cases hx : p - 1 < (rd_T94 l r).f0
  · rw [U_zero hx]
    have hQ0 : Q = 0 := by
      rw [← hQ, show p - (rd_T94 l r).f0 = 0 by omega]; exact Int.zero_ediv _
    rw [hQ0, if_pos (by omega)]; rfl
  · rw [U_at (by omega)]
    have : (p - 1 - (rd_T94 l r).f0) / (rd_T94 l r).f1 = Q - 1 := by
      rw [show p - 1 - (rd_T94 l r).f0 = ((rd_T94 l r).f1 - 1) + (Q - 1) * (rd_T94 l r).f1 by rw [Int.sub_mul]; omega, Int.add_mul_ediv_right _ _ (by omega), Int.ediv_eq_zero_of_lt (by omega) (by omega)]
      omega
    rw [this]
    omega
theorem fl_row {l : List S94} (g : Good l) {p r : Int} (h : IsRow l p r) (hp : 1 ≤ p) (hp1 : p ≤ 1099511627776) : IsRow l (fl l p r) r ∧ fl l (fl l p r) r = fl l p r := by
  obtain ⟨f0, f1, f2, f3, f4, f5, f6⟩ := h.facts g hp hp1
  have hfl : fl l p r = p - (p - (rd_T94 l r).f0) % (rd_T94 l r).f1 := rfl
  refine ⟨⟨h.r0, h.r1, by omega, fun hx => by have := h.next hx; omega⟩, ?_⟩
  have hz : (fl l p r - (rd_T94 l r).f0) % (rd_T94 l r).f1 = 0 := by
    have hq := divfl (x := p - (rd_T94 l r).f0) f1
    rw [show fl l p r - (rd_T94 l r).f0 = (p - (rd_T94 l r).f0) / (rd_T94 l r).f1 * (rd_T94 l r).f1 by omega]
    exact Int.mul_emod_left _ _
  show fl l p r - (fl l p r - (rd_T94 l r).f0) % (rd_T94 l r).f1 = fl l p r
  omega
/-- The next one above: its row, and that it is on the grid. -/
theorem nx_row {l : List S94} (g : Good l) {p r : Int} (h : IsRow l p r) (hp : 1 ≤ p) (hp1 : p ≤ 1099511627776) (hne : fl l p r ≠ p) (hN : nx l (fl l p r + (rd_T94 l r).f1) r ≤ 1099511627776) :
    p < nx l (fl l p r + (rd_T94 l r).f1) r ∧ ∃ s, IsRow l (nx l (fl l p r + (rd_T94 l r).f1) r) s ∧ fl l (nx l (fl l p r + (rd_T94 l r).f1) r) s = nx l (fl l p r + (rd_T94 l r).f1) r := by
  obtain ⟨f0, f1, f2, f3, f4, f5, f6⟩ := h.facts g hp hp1
  have hfl : fl l p r = p - (p - (rd_T94 l r).f0) % (rd_T94 l r).f1 := rfl
  have h0 := h.r0; have h1 := h.r1
  have inrow : (r + 1 < l.length → fl l p r + (rd_T94 l r).f1 < (rd_T94 l (r + 1)).f0) → IsRow l (fl l p r + (rd_T94 l r).f1) r ∧ fl l (fl l p r + (rd_T94 l r).f1) r = fl l p r + (rd_T94 l r).f1 := by
    intro hx
    refine ⟨⟨h0, h1, by omega, hx⟩, ?_⟩
    have hz : (fl l p r + (rd_T94 l r).f1 - (rd_T94 l r).f0) % (rd_T94 l r).f1 = 0 := by
      have hq := divfl (x := p - (rd_T94 l r).f0) f1
      rw [show fl l p r + (rd_T94 l r).f1 - (rd_T94 l r).f0 = ((p - (rd_T94 l r).f0) / (rd_T94 l r).f1 + 1) * (rd_T94 l r).f1 by rw [Int.add_mul]; omega]
      exact Int.mul_emod_left _ _
    show fl l p r + (rd_T94 l r).f1 - (fl l p r + (rd_T94 l r).f1 - (rd_T94 l r).f0) % (rd_T94 l r).f1 = _
    omega
  by_cases hx : r + 1 < (l.length : Int)
  · have hnx := h.next hx
    rw [nx_in hx] at hN ⊢
    by_cases hy : fl l p r + (rd_T94 l r).f1 < (rd_T94 l (r + 1)).f0
    · rw [mn_l (by omega)] at hN ⊢
      exact ⟨by omega, r, inrow (fun _ => hy)⟩
    · rw [mn_r (by omega)] at hN ⊢
      refine ⟨by omega, r + 1, ⟨by omega, hx, Int.le_refl _, fun hz => g.lt (by omega) (by omega) hz⟩, ?_⟩
      show (rd_T94 l (r + 1)).f0 - ((rd_T94 l (r + 1)).f0 - (rd_T94 l (r + 1)).f0) % (rd_T94 l (r + 1)).f1 = _
      rw [Int.sub_self, Int.zero_emod]
      omega
  · rw [nx_out hx] at hN ⊢
    exact ⟨by omega, r, inrow (fun hz => absurd hz hx)⟩
theorem cnt_two {l : List S94} (g : Good l) {p r : Int} (h : IsRow l p r) (hp : 1 ≤ p) (hp1 : p ≤ 1099511627776) (hne : fl l p r ≠ p) (hN : nx l (fl l p r + (rd_T94 l r).f1) r ≤ 1099511627776) (hf : 1 ≤ fl l p r) :
    cnt l (fl l p r) (nx l (fl l p r + (rd_T94 l r).f1) r) = 2 := by
  obtain ⟨f0, f1, f2, f3, f4, f5, f6⟩ := h.facts g hp hp1
  have hfl : fl l p r = p - (p - (rd_T94 l r).f0) % (rd_T94 l r).f1 := rfl
  obtain ⟨hr, hon⟩ := fl_row g h hp hp1
  obtain ⟨hb, s, hs, hbon⟩ := nx_row g h hp hp1 hne hN
  have hNle : nx l (fl l p r + (rd_T94 l r).f1) r ≤ fl l p r + (rd_T94 l r).f1 ∧ (r + 1 < l.length → nx l (fl l p r + (rd_T94 l r).f1) r ≤ (rd_T94 l (r + 1)).f0) := by
    by_cases hx : r + 1 < (l.length : Int)
    · rw [nx_in hx]; unfold mn; omega
    · rw [nx_out hx]; omega
  generalize nx l (fl l p r + (rd_T94 l r).f1) r = b at *
  have hba : fl l p r < p := by omega
  have h0 := h.r0; have h1 := h.r1
  have e1 : cnt l (fl l p r) (fl l p r) = 1 := cnt_self g hr hf (by omega) hon
  have e2 : cnt l b b = 1 := cnt_self g hs (by omega) hN hbon
  have e3 : cnt l (fl l p r + 1) (b - 1) = 0 := by
    unfold cnt
    refine S_zero _ _ (by omega) (by omega) (fun j a c => ?_)
    by_cases hj : j = r
    · subst hj
      have hbr : IsRow l (b - 1) j := ⟨h0, h1, by omega, fun hx => by have := hNle.2 hx; omega⟩
      have he := en_row hbr (by omega)
      unfold T
      have x1 : mn (b - 1) (en l j) = b - 1 := by unfold mn; omega
      have x2 : mn (fl l p j + 1 - 1) (en l j) = fl l p j := by unfold mn; omega
      rw [x1, x2, U_at (by omega), U_at (by omega)]
      have hq := divfl (x := p - (rd_T94 l j).f0) f1
      generalize (p - (rd_T94 l j).f0) / (rd_T94 l j).f1 = Q at *
      have d1 : (b - 1 - (rd_T94 l j).f0) / (rd_T94 l j).f1 = Q := by
        rw [show b - 1 - (rd_T94 l j).f0 = (b - 1 - fl l p j) + Q * (rd_T94 l j).f1 by omega, Int.add_mul_ediv_right _ _ (by omega), Int.ediv_eq_zero_of_lt (by omega) (by omega)]
        omega
      have d2 : (fl l p j - (rd_T94 l j).f0) / (rd_T94 l j).f1 = Q := by
        rw [show fl l p j - (rd_T94 l j).f0 = 0 + Q * (rd_T94 l j).f1 by omega, Int.add_mul_ediv_right _ _ (by omega), Int.zero_ediv]
        omega
      rw [d1, d2]
      omega
    · rcases Int.lt_or_gt_of_ne hj with hlt | hgt
      · have := en_lt g hr a hlt
        exact T_zero_of_eq (by unfold mn; omega)
      · have hx : r + 1 < (l.length : Int) := by omega
        have y := hNle.2 hx
        have z : (rd_T94 l (r + 1)).f0 ≤ (rd_T94 l j).f0 := by
          by_cases e : j = r + 1
          · subst e; exact Int.le_refl _
          · have := g.lt (i := r + 1) (j := j) (by omega) (by omega) (by omega); omega
        unfold T
        rw [U_zero (by unfold mn; omega), U_zero (by unfold mn; omega)]
        omega
  have a1 : cnt l (fl l p r) (fl l p r) + cnt l (fl l p r + 1) b = cnt l (fl l p r) b := cnt_add
  have a2 : cnt l (fl l p r + 1) (b - 1) + cnt l (b - 1 + 1) b = cnt l (fl l p r + 1) b := cnt_add
  rw [show b - 1 + 1 = b by omega] at a2
  omega
theorem near (l : List S94) (p : Int) : ∃ k, jobberlaw06_GridNear.f k l p = some true := by
  refine ⟨41, ?_⟩
  unfold jobberlaw06_GridNear.f
  by_cases hm : May l p
  · have g := hm.1; have hp := hm.2.1; have hp1 := hm.2.2
    obtain ⟨r, h⟩ := row_exists g hp
    obtain ⟨f0, f1, f2, f3, f4, f5, f6⟩ := h.facts g hp hp1
    have hfl : fl l p r = p - (p - (rd_T94 l r).f0) % (rd_T94 l r).f1 := rfl
    rw [pDown_may (by omega) hm h]; simp only [Option.bind_some]
    rw [pUp_may (by omega) hm h]; simp only [Option.bind_some]
    rw [pOn_may (by omega) hm h]; simp only [Option.bind_some]
    by_cases hon : fl l p r = p
    · rw [if_pos (by rw [hon]; exact beq_self_eq_true p), if_pos hon, if_pos (by rw [hon]; exact decide_eq_true hp)]
      unfold up
      rw [if_pos hon, if_pos rfl, if_pos rfl, pCount (by omega) hm hm (Int.le_refl _)]; simp only [Option.bind_some]
      rw [cnt_self g h hp hp1 hon, if_pos rfl, lives (by omega)]; rfl
    · rw [if_neg (by simpa using hon)]
      obtain ⟨hr, hflon⟩ := fl_row g h hp hp1
      have up_eq : up l p r = told (nx l (fl l p r + (rd_T94 l r).f1) r) := if_neg hon
      have hliv : ∀ a b c d, (c = false ∨ d = false ∨ grid_Count.f 40 l a b = some 2) → jobberlaw06_GridNear.j0 41 l a c b d false = some true := by
        intro a b c d hc
        rw [jobberlaw06_GridNear.j0, if_neg (by decide)]
        cases c with
        | false => rw [if_neg (by decide), lives (by omega)]; rfl
        | true =>
          cases d with
          | false => rw [if_pos rfl, if_neg (by decide), lives (by omega)]; rfl
          | true =>
            have : grid_Count.f 40 l a b = some 2 := by simpa using hc
            rw [if_pos rfl, if_pos rfl, this]; simp only [Option.bind_some, if_true]
            rw [lives (by omega)]; rfl
      rw [up_eq]
      by_cases hN : nx l (fl l p r + (rd_T94 l r).f1) r ≤ 1099511627776
      · rw [told_ok hN]
        obtain ⟨hb, s, hs, hbon⟩ := nx_row g h hp hp1 hon hN
        have mb : May l (nx l (fl l p r + (rd_T94 l r).f1) r) := ⟨g, by omega, hN⟩
        by_cases hge : fl l p r ≥ 1
        · have ma : May l (fl l p r) := ⟨g, by omega, by omega⟩
          have h2 := cnt_two g h hp hp1 hon hN (by omega)
          rw [if_pos (decide_eq_true hge), if_neg (by omega), pOn_may (by omega) ma hr]; simp only [Option.bind_some]
          rw [if_pos (by rw [hflon]; exact beq_self_eq_true _), if_pos trivial, if_neg (by omega), pOn_may (by omega) mb hs]; simp only [Option.bind_some]
          rw [hbon, beq_self_eq_true]
          exact hliv _ _ _ _ (.inr (.inr (by rw [pCount (by omega) ma mb (by omega), h2])))
        · rw [if_neg (by simpa using hge), if_pos rfl, if_neg (by omega), pOn_may (by omega) mb hs]; simp only [Option.bind_some]
          rw [hbon, beq_self_eq_true]
          exact hliv _ _ _ _ (.inl (by simpa using hge))
      · rw [told_big (by omega)]
        by_cases hge : fl l p r ≥ 1
        · have ma : May l (fl l p r) := ⟨g, by omega, by omega⟩
          rw [if_pos (decide_eq_true hge), if_neg (by omega), pOn_may (by omega) ma hr]; simp only [Option.bind_some]
          rw [if_pos (by rw [hflon]; exact beq_self_eq_true _), if_neg (by decide)]
          exact hliv _ _ _ _ (.inr (.inl rfl))
        · rw [if_neg (by simpa using hge), if_neg (by decide)]
          exact hliv _ _ _ _ (.inr (.inl rfl))
  · rw [pDown_not (by omega) hm]; simp only [Option.bind_some]
    rw [pUp_not (by omega) hm]; simp only [Option.bind_some]
    rw [pOn_not (by omega) hm]; simp only [Option.bind_some]
    rw [if_neg (by decide), if_neg (by decide), if_neg (by decide), jobberlaw06_GridNear.j0, if_neg (by decide), if_neg (by decide), lives (by omega)]; rfl
end Go.Proofs.Ytdfkbdcdgbjgcaa.Grid.M
