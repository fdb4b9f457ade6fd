/- What Up, Size and On of package grid and of its reference tell, on lists and numbers. -/
import Derived.Test.YtdfkbdcdgbjgcaaGridMathB
namespace Go.Proofs.Ytdfkbdcdgbjgcaa.Grid.M
open Go.RowKit Go.Proofs.Ytdfkbdcdgbjgcaa.Grid Go.Proofs.YtdfkbdcdgbjgcaaW.PrintWords Go.Proofs.YtdfkbdcdgbjgcaaW.PrintLast
set_option linter.unusedVariables false

/-- The next one above, of a price that is not on the grid, before the look at the greatest price. -/
def nx (l : List S94) (X r : Int) : Int := if r + 1 < l.length then mn X (rd_T94 l (r + 1)).f0 else X
def told (N : Int) : Int × Bool := if N > 1099511627776 then (0, false) else (N, true)
theorem nx_in {l : List S94} {X r : Int} (h : r + 1 < l.length) : nx l X r = mn X (rd_T94 l (r + 1)).f0 := if_pos h
theorem nx_out {l : List S94} {X r : Int} (h : ¬ r + 1 < l.length) : nx l X r = X := if_neg h
theorem told_big {N : Int} (h : N > 1099511627776) : told N = (0, false) := if_pos h
theorem told_ok {N : Int} (h : N ≤ 1099511627776) : told N = (N, true) := if_neg (by omega)
theorem mn_l {a b : Int} (h : a ≤ b) : mn a b = a := by unfold mn; omega
theorem mn_r {a b : Int} (h : b ≤ a) : mn a b = b := by unfold mn; omega
def up (l : List S94) (p r : Int) : Int × Bool := if fl l p r = p then (p, true) else told (nx l (fl l p r + (rd_T94 l r).f1) r)
theorem pUp_loop {l : List S94} {p r X : Int} (g : Good l) (h : IsRow l p r) : ∀ (d k : Nat) (i a : Int), 0 ≤ i → i ≤ l.length → l.length - i = d → d < k → a = (if r + 1 < i then mn X (rd_T94 l (r + 1)).f0 else X) → grid_Up.l0 k p a l (l.length : Int) i = some (told (nx l X r)) := by
  intro d
  induction d with
  | zero =>
    intro k i a h0 h1 hd hk ha
    obtain ⟨k, rfl⟩ : ∃ m, k = m + 1 := ⟨k - 1, by omega⟩
    rw [grid_Up.l0, if_neg (by omega)]
    obtain rfl : i = l.length := by omega
    unfold nx told
    rw [← ha]
    split <;> rfl
  | succ d ih =>
    intro k i a h0 h1 hd hk ha
    have := g.hi
    have hr0 := h.r0
    obtain ⟨k, rfl⟩ : ∃ m, k = m + 1 := ⟨k - 1, by omega⟩
    rw [grid_Up.l0, if_pos (by omega), if_pos h0, if_pos (by omega), wid (x := i + 1) (by omega) (by omega)]
    split
    · rename_i hgt
      have hri : r < i := by
        by_cases e : i ≤ r
        · have := h.below g h0 e; omega
        · omega
      refine ih k (i + 1) _ (by omega) (by omega) (by omega) (by omega) ?_
      rw [if_pos (by omega), ha]
      by_cases e : i = r + 1
      · subst e; rw [if_neg (by omega)]
      · rw [if_pos (by omega)]
        have := g.lt (i := r + 1) (j := i) (by omega) (by omega) (by omega)
        unfold mn
        omega
    · rename_i hle
      have hri : i ≤ r := by
        by_cases e : r < i
        · have := h.above g e (by omega); omega
        · omega
      refine ih k (i + 1) _ (by omega) (by omega) (by omega) (by omega) ?_
      rw [if_neg (by omega), ha, if_neg (by omega)]
theorem pUp_may {l : List S94} {p r : Int} {k : Nat} (hk : 10 < k) (hm : May l p) (h : IsRow l p r) : grid_Up.f k l p = some (up l p r) := by
  obtain ⟨b, hb, hbi⟩ := may l p hk
  obtain rfl := hbi.2 hm
  have g := hm.1
  obtain ⟨f0, f1, f2, f3, f4, f5, f6⟩ := h.facts g hm.2.1 hm.2.2
  have hp := hm.2.1; have hp1 := hm.2.2
  unfold grid_Up.f up
  rw [hb]; simp only [Option.bind_some, if_true]
  rw [pfloor g h hp hp1]; simp only [Option.bind_some]
  by_cases e : fl l p r = p
  · rw [if_pos e, if_pos e, e]
  · rw [if_neg e, if_neg e, prow g h]; simp only [Option.bind_some]
    have hfl : fl l p r = p - (p - (rd_T94 l r).f0) % (rd_T94 l r).f1 := rfl
    rw [wid (by omega) (by omega)]
    have := g.hi
    exact pUp_loop g h l.length k 0 _ (by omega) (by omega) (by omega) (by omega) (by rw [if_neg (by have := h.r0; omega)])
theorem pUp_not {l : List S94} {p : Int} {k : Nat} (hk : 10 < k) (hm : ¬ May l p) : grid_Up.f k l p = some (0, false) := by
  obtain ⟨b, hb, hbi⟩ := may l p hk
  have : b = false := by cases b; rfl; exact absurd (hbi.1 rfl) hm
  subst this
  unfold grid_Up.f
  rw [hb]; rfl
/-- The reference at a row above the price's. -/
theorem rUp_next {l : List S94} {p r : Int} {k : Nat} (g : Good l) (h : IsRow l p r) (hn : r + 1 < l.length) : jobberref06_Up.l0 (k + 1) (l.map mk3) p (r + 1) = some ((rd_T94 l (r + 1)).f0, true) := by
  have hr0 := h.r0; have hh := g.hi; have hx := h.next hn
  obtain ⟨q1, q2, q3, _⟩ := g.row (r + 1) (by omega) hn
  have q0 := g.nonneg (i := r + 1) (by omega) hn
  rw [jobberref06_Up.l0, List.length_map, if_pos hn, if_pos (by omega)]
  simp only [rd_f0, rd_f1]
  have em : mx p (rd_T94 l (r + 1)).f0 = (rd_T94 l (r + 1)).f0 := by unfold mx; omega
  rw [if_neg (by omega), em, Int.sub_self, wid (x := 0) (by decide) (by decide), Int.zero_tdiv, wid (x := 0) (by decide) (by decide), Int.zero_mul, wid (x := 0) (by decide) (by decide), Int.add_zero, wid (x := (rd_T94 l (r + 1)).f0) (by omega) (by omega), if_neg (by omega), if_pos q3, wid (x := (l.length : Int) - 1) (by omega) (by omega), wid (x := r + 1 + 1) (by omega) (by omega)]
  split
  · rfl
  · rw [if_pos (by omega), if_pos (by omega), if_pos (g.lt (by omega) (by omega) (by omega))]
theorem rUp_may {l : List S94} {p r : Int} {k : Nat} (hk : 30 < k) (hm : May l p) (h : IsRow l p r) : jobberref06_Up.f k ((l.take 9).map mk3) p = some (up l p r) := by
  obtain ⟨b, hb, hbi⟩ := rmay l p (k := k) (by omega)
  obtain rfl := hbi.2 hm
  have g := hm.1
  unfold jobberref06_Up.f
  rw [hb]; simp only [Option.bind_some, if_true]
  rw [good_take g]
  obtain ⟨r', hr', hi'⟩ := rrow g hm.2.1 (k := k) (by omega)
  obtain rfl := hi'.unique g h
  rw [hr']; simp only [Option.bind_some]
  obtain ⟨k, rfl⟩ : ∃ m, k = m + 2 := ⟨k - 2, by omega⟩
  obtain ⟨f0, f1, f2, f3, f4, f5, f6⟩ := h.facts g hm.2.1 hm.2.2
  have hn := g.hi; have h0 := h.r0; have h1 := h.r1; have hp := hm.2.1; have hp1 := hm.2.2
  have hfl : fl l p r' = p - (p - (rd_T94 l r').f0) % (rd_T94 l r').f1 := rfl
  rw [jobberref06_Up.l0, List.length_map, if_pos h1, if_pos h0]
  simp only [rd_f0, rd_f1]
  have em : mx p (rd_T94 l r').f0 = p := by unfold mx; omega
  have hq0 : 0 ≤ (p - (rd_T94 l r').f0) / (rd_T94 l r').f1 := Int.ediv_nonneg (by omega) (by omega)
  have hq1 : (p - (rd_T94 l r').f0) / (rd_T94 l r').f1 ≤ p - (rd_T94 l r').f0 := Int.ediv_le_self _ (by omega)
  have e2 : (rd_T94 l r').f0 + (p - (rd_T94 l r').f0 - (p - (rd_T94 l r').f0) % (rd_T94 l r').f1) = fl l p r' := by omega
  rw [if_neg (by omega), em, wid (x := p - (rd_T94 l r').f0) (by omega) (by omega), Int.tdiv_eq_ediv_of_nonneg (by omega), wid (x := (p - (rd_T94 l r').f0) / (rd_T94 l r').f1) (by omega) (by omega), divfl f1, wid (x := p - (rd_T94 l r').f0 - (p - (rd_T94 l r').f0) % (rd_T94 l r').f1) (by omega) (by omega), e2, wid (x := fl l p r') (by omega) (by omega), wid (x := (l.length : Int) - 1) (by omega) (by omega), wid (x := r' + 1) (by omega) (by omega), wid (x := fl l p r' + (rd_T94 l r').f1) (by omega) (by omega)]
  unfold up
  by_cases hlt : fl l p r' < p
  · rw [if_pos hlt, if_neg (show ¬ fl l p r' = p by omega)]
    by_cases hN : fl l p r' + (rd_T94 l r').f1 ≤ 1099511627776
    · rw [if_pos hN]
      by_cases hl : r' = (l.length : Int) - 1
      · rw [if_pos hl, nx_out (by omega), told_ok hN]
      · rw [if_neg hl, if_pos (by omega), if_pos (by omega)]
        obtain ⟨q1, q2, q3, _⟩ := g.row (r' + 1) (by omega) (by omega)
        by_cases hx : fl l p r' + (rd_T94 l r').f1 < (rd_T94 l (r' + 1)).f0
        · rw [if_pos hx, nx_in (by omega), mn_l (by omega), told_ok hN]
        · rw [if_neg hx, rUp_next g h (by omega), nx_in (by omega), mn_r (by omega), told_ok q3]
    · rw [if_neg hN]
      by_cases hl : r' = (l.length : Int) - 1
      · rw [jobberref06_Up.l0, List.length_map, if_neg (by omega), nx_out (by omega), told_big (by omega)]
      · obtain ⟨q1, q2, q3, _⟩ := g.row (r' + 1) (by omega) (by omega)
        rw [rUp_next g h (by omega), nx_in (by omega), mn_r (by omega), told_ok q3]
  · rw [if_neg hlt, if_pos (show fl l p r' = p by omega), if_pos (by omega)]
    have efl : fl l p r' = p := by omega
    rw [efl]
    by_cases hl : r' = (l.length : Int) - 1
    · rw [if_pos hl]
    · rw [if_neg hl, if_pos (by omega), if_pos (by omega), if_pos (h.next (by omega))]
theorem rUp_not {l : List S94} {p : Int} {k : Nat} (hk : 10 < k) (hm : ¬ May l p) : jobberref06_Up.f k ((l.take 9).map mk3) p = some (0, false) := by
  obtain ⟨b, hb, hbi⟩ := rmay l p hk
  have : b = false := by cases b; rfl; exact absurd (hbi.1 rfl) hm
  subst this
  unfold jobberref06_Up.f
  rw [hb]; rfl
theorem pSize_may {l : List S94} {p r : Int} {k : Nat} (hk : 10 < k) (hm : May l p) (h : IsRow l p r) : grid_Size.f k l p = some (rd_T94 l r).f1 := by
  obtain ⟨b, hb, hbi⟩ := may l p hk
  obtain rfl := hbi.2 hm
  unfold grid_Size.f
  rw [hb]; simp only [Option.bind_some, if_true]
  rw [prow hm.1 h]; rfl
theorem pSize_not {l : List S94} {p : Int} {k : Nat} (hk : 10 < k) (hm : ¬ May l p) : grid_Size.f k l p = some 0 := by
  obtain ⟨b, hb, hbi⟩ := may l p hk
  have : b = false := by cases b; rfl; exact absurd (hbi.1 rfl) hm
  subst this
  unfold grid_Size.f
  rw [hb]; rfl
theorem rSize_may {l : List S94} {p r : Int} {k : Nat} (hk : 10 < k) (hm : May l p) (h : IsRow l p r) : jobberref06_Size.f k ((l.take 9).map mk3) p = some (rd_T94 l r).f1 := by
  obtain ⟨b, hb, hbi⟩ := rmay l p hk
  obtain rfl := hbi.2 hm
  have g := hm.1
  unfold jobberref06_Size.f
  rw [hb]; simp only [Option.bind_some, if_true]
  rw [good_take g]
  obtain ⟨r', hr', hi'⟩ := rrow g hm.2.1 (k := k) (by omega)
  obtain rfl := hi'.unique g h
  rw [hr']; simp only [Option.bind_some]
  rw [if_pos h.r0, List.length_map, if_pos h.r1, rd_f1]
theorem rSize_not {l : List S94} {p : Int} {k : Nat} (hk : 10 < k) (hm : ¬ May l p) : jobberref06_Size.f k ((l.take 9).map mk3) p = some 0 := by
  obtain ⟨b, hb, hbi⟩ := rmay l p hk
  have : b = false := by cases b; rfl; exact absurd (hbi.1 rfl) hm
  subst this
  unfold jobberref06_Size.f
  rw [hb]; rfl
theorem pOn_may {l : List S94} {p r : Int} {k : Nat} (hk : 10 < k) (hm : May l p) (h : IsRow l p r) : grid_On.f k l p = some (fl l p r == p) := by
  obtain ⟨b, hb, hbi⟩ := may l p hk
  obtain rfl := hbi.2 hm
  unfold grid_On.f
  rw [hb]; simp only [Option.bind_some, if_true]
  rw [pfloor hm.1 h hm.2.1 hm.2.2]; rfl
theorem pOn_not {l : List S94} {p : Int} {k : Nat} (hk : 10 < k) (hm : ¬ May l p) : grid_On.f k l p = some false := by
  obtain ⟨b, hb, hbi⟩ := may l p hk
  have : b = false := by cases b; rfl; exact absurd (hbi.1 rfl) hm
  subst this
  unfold grid_On.f
  rw [hb]; rfl
theorem rOn_may {l : List S94} {p r : Int} {k : Nat} (hk : 10 < k) (hm : May l p) (h : IsRow l p r) : jobberref06_On.f k ((l.take 9).map mk3) p = some (fl l p r == p) := by
  obtain ⟨b, hb, hbi⟩ := rmay l p hk
  obtain rfl := hbi.2 hm
  have g := hm.1
  unfold jobberref06_On.f
  rw [hb]; simp only [Option.bind_some, if_true]
  rw [good_take g]
  obtain ⟨r', hr', hi'⟩ := rrow g hm.2.1 (k := k) (by omega)
  obtain rfl := hi'.unique g h
  obtain ⟨f0, f1, f2, f3, f4, f5, f6⟩ := h.facts g hm.2.1 hm.2.2
  have hp := hm.2.1; have hp1 := hm.2.2
  rw [hr']; simp only [Option.bind_some]
  rw [if_pos h.r0, List.length_map, if_pos h.r1, rd_f0, rd_f1, if_neg (by omega), wid (x := p - (rd_T94 l r').f0) (by omega) (by omega), Int.tmod_eq_emod_of_nonneg (by omega)]
  have hfl : fl l p r' = p - (p - (rd_T94 l r').f0) % (rd_T94 l r').f1 := rfl
  congr 1
  rw [Bool.eq_iff_iff]
  simp only [beq_iff_eq]
  omega
theorem rOn_not {l : List S94} {p : Int} {k : Nat} (hk : 10 < k) (hm : ¬ May l p) : jobberref06_On.f k ((l.take 9).map mk3) p = some false := by
  obtain ⟨b, hb, hbi⟩ := rmay l p hk
  have : b = false := by cases b; rfl; exact absurd (hbi.1 rfl) hm
  subst this
  unfold jobberref06_On.f
  rw [hb]; rfl
theorem lives {k : Nat} (hk : 20 < k) : jobberlaw06_lives.f k = some true := by
  have e : jobberlaw06_lives.f 20 = some true := by decide +kernel
  have m : ∀ d, jobberlaw06_lives.f (20 + d) = some true := by
    intro d
    induction d with
    | zero => exact e
    | succ d ih => exact jobberlaw06_lives.mono _ _ ih
  have := m (k - 20)
  rwa [show 20 + (k - 20) = k by omega] at this
theorem check {l : List S94} {k : Nat} (hk : 10 < k) : ∃ e, grid_Check.f k l = some e ∧ jobberref06_Check.f k ((l.take 9).map mk3) = some e := by
  obtain ⟨b, hb, hbi⟩ := good l hk
  obtain ⟨c, hc, hci⟩ := rgood l hk
  have : b = c := by rw [Bool.eq_iff_iff, hbi, hci]
  subst this
  unfold grid_Check.f jobberref06_Check.f
  rw [hb, hc]; simp only [Option.bind_some]
  cases b
  · exact ⟨_, rfl, rfl⟩
  · exact ⟨_, rfl, rfl⟩
theorem tells (l : List S94) (p : Int) : ∃ k, jobberlaw06_GridTells.f k l p = some true := by
  refine ⟨40, ?_⟩
  unfold jobberlaw06_GridTells.f
  rw [plain l (by omega)]; simp only [Option.bind_some]
  obtain ⟨e, h1, h2⟩ := check (l := l) (k := 40) (by omega)
  by_cases hm : May l p
  · obtain ⟨r, h⟩ := row_exists hm.1 hm.2.1
    rw [pDown_may (by omega) hm h, rDown_may (by omega) hm h, pUp_may (by omega) hm h, rUp_may (by omega) hm h, h1, h2, pSize_may (by omega) hm h, rSize_may (by omega) hm h, pOn_may (by omega) hm h, rOn_may (by omega) hm h, lives (by omega)]
    simp only [Option.bind_some, if_true, beq_self_eq_true]
    obtain ⟨f0, f1, f2, f3, f4, f5, f6⟩ := h.facts hm.1 hm.2.1 hm.2.2
    have hfl : fl l p r = p - (p - (rd_T94 l r).f0) % (rd_T94 l r).f1 := rfl
    by_cases hge : fl l p r ≥ 1
    · rw [if_pos hge]; simp [hge]
    · rw [if_neg hge]; simp [hge]; omega
  · rw [pDown_not (by omega) hm, rDown_not (by omega) hm, pUp_not (by omega) hm, rUp_not (by omega) hm, h1, h2, pSize_not (by omega) hm, rSize_not (by omega) hm, pOn_not (by omega) hm, rOn_not (by omega) hm, lives (by omega)]
    simp
end Go.Proofs.Ytdfkbdcdgbjgcaa.Grid.M
