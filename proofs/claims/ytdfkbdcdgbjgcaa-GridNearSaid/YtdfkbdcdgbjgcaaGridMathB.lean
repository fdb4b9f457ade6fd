/- What row, floor, Down, Up, Size and On of package grid and of its reference tell, on lists and numbers. -/
import Derived.Test.YtdfkbdcdgbjgcaaGridMathA
namespace Go.Proofs.Ytdfkbdcdgbjgcaa.Grid.M
open Go.RowKit Go.Proofs.Ytdfkbdcdgbjgcaa.Grid Go.Proofs.YtdfkbdcdgbjgcaaW.PrintWords Go.Proofs.YtdfkbdcdgbjgcaaW.PrintLast
set_option linter.unusedVariables false

theorem Good.mono {l : List S94} (g : Good l) : ∀ (d : Nat) (i j : Int), 0 ≤ i → j < l.length → j - i = d → 0 < d → (rd_T94 l i).f0 < (rd_T94 l j).f0 := by
  intro d
  induction d with
  | zero => intro i j _ _ _ h; omega
  | succ d ih =>
    intro i j h0 h1 hd _
    have hj := (g.row j (by omega) h1).2.2.2 (by omega)
    by_cases e : d = 0
    · obtain rfl : i = j - 1 := by omega
      exact hj
    · have := ih i (j - 1) h0 (by omega) (by omega) (by omega)
      omega
theorem Good.lt {l : List S94} (g : Good l) {i j : Int} (h0 : 0 ≤ i) (hij : i < j) (h1 : j < l.length) : (rd_T94 l i).f0 < (rd_T94 l j).f0 := g.mono (j - i).toNat i j h0 h1 (by omega) (by omega)
theorem Good.nonneg {l : List S94} (g : Good l) {i : Int} (h0 : 0 ≤ i) (h1 : i < l.length) : 0 ≤ (rd_T94 l i).f0 := by
  by_cases e : i = 0
  · subst e; have := g.zero; omega
  · have := g.lt (i := 0) (by omega) (by omega) h1; have := g.zero; omega
theorem Good.pos {l : List S94} (g : Good l) {i : Int} (h0 : 0 < i) (h1 : i < l.length) : 1 ≤ (rd_T94 l i).f0 := by
  have := g.lt (i := 0) (by omega) h0 h1; have := g.zero; omega
/-- r is the price's row. -/
structure IsRow (l : List S94) (p r : Int) : Prop where
  r0 : 0 ≤ r
  r1 : r < l.length
  at_ : (rd_T94 l r).f0 ≤ p
  next : r + 1 < l.length → p < (rd_T94 l (r + 1)).f0
theorem IsRow.below {l : List S94} {p r : Int} (g : Good l) (h : IsRow l p r) {j : Int} (h0 : 0 ≤ j) (hj : j ≤ r) : (rd_T94 l j).f0 ≤ p := by
  by_cases e : j = r
  · subst e; exact h.at_
  · have := g.lt h0 (show j < r by omega) h.r1; have := h.at_; omega
theorem IsRow.above {l : List S94} {p r : Int} (g : Good l) (h : IsRow l p r) {j : Int} (hj : r < j) (h1 : j < l.length) : p < (rd_T94 l j).f0 := by
  have hr := h.r0
  by_cases e : j = r + 1
  · subst e; exact h.next h1
  · have := g.lt (i := r + 1) (by omega) (show r + 1 < j by omega) h1; have := h.next (by omega); omega
/-- the reference's row -/
theorem rrow_loop (l : List S94) (g : Good l) (p : Int) : ∀ (d k : Nat) (i a : Int), 0 ≤ i → i ≤ l.length → l.length - i = d → d < k → (0 ≤ a ∧ a < l.length ∧ (rd_T94 l a).f0 ≤ p ∧ ∀ j, a < j → j < i → p < (rd_T94 l j).f0) → (a < i ∨ i = 0 ∧ a = 0) → ∃ r, jobberref06_row.l0 k (l.map mk3) p a i = some r ∧ IsRow l p r := by
  intro d
  induction d with
  | zero =>
    intro k i a h0 h1 hd hk hr ha
    obtain ⟨k, rfl⟩ : ∃ m, k = m + 1 := ⟨k - 1, by omega⟩
    refine ⟨a, by rw [jobberref06_row.l0, List.length_map, if_neg (by omega)], hr.1, hr.2.1, hr.2.2.1, fun h => hr.2.2.2 _ (by omega) (by omega)⟩
  | succ d ih =>
    intro k i a h0 h1 hd hk hr ha
    have := g.hi
    obtain ⟨k, rfl⟩ : ∃ m, k = m + 1 := ⟨k - 1, by omega⟩
    rw [jobberref06_row.l0, List.length_map, if_pos (by omega), if_pos h0, rd_f0, wid (x := i + 1) (by omega) (by omega)]
    by_cases hle : (rd_T94 l i).f0 ≤ p
    · rw [if_pos hle]
      exact ih k (i + 1) i (by omega) (by omega) (by omega) (by omega) ⟨h0, by omega, hle, fun j a b => by omega⟩ (by omega)
    · rw [if_neg hle]
      refine ih k (i + 1) a (by omega) (by omega) (by omega) (by omega) ⟨hr.1, hr.2.1, hr.2.2.1, fun j hj hl => ?_⟩ ?_
      · by_cases e : j = i
        · subst e; omega
        · exact hr.2.2.2 j hj (by omega)
      · rcases ha with ha | ⟨rfl, rfl⟩
        · omega
        · exfalso; exact hle hr.2.2.1
theorem rrow {l : List S94} (g : Good l) {p : Int} (hp : 1 ≤ p) {k : Nat} (hk : 10 < k) : ∃ r, jobberref06_row.f k (l.map mk3) p = some r ∧ IsRow l p r := by
  have := g.hi; have := g.lo
  exact rrow_loop l g p l.length k 0 0 (by omega) (by omega) (by omega) (by omega) ⟨by omega, by omega, by rw [g.zero]; omega, fun j a b => by omega⟩ (.inr ⟨rfl, rfl⟩)
theorem IsRow.unique {l : List S94} {p r s : Int} (g : Good l) (h : IsRow l p r) (h' : IsRow l p s) : r = s := by
  have a1 := h.at_; have a2 := h'.at_; have b1 := h.r0; have b2 := h'.r0; have c1 := h.r1; have c2 := h'.r1
  rcases Int.lt_trichotomy r s with e | e | e
  · have := h.above g e c2; omega
  · exact e
  · have := h'.above g e c1; omega
/-- the program's row -/
theorem ix_of_row {l : List S94} {p r : Int} (g : Good l) (h : IsRow l p r) : (ixT l p < 0 ∧ r = (l.length : Int) - 1) ∨ (ixT l p = r + 1 ∧ r + 1 < l.length) := by
  have b1 := h.r0; have c1 := h.r1
  by_cases e : r + 1 < l.length
  · refine .inr ⟨ixT_hit (by omega) e (fun j hj => ?_) ?_, e⟩
    · have := h.below g (j := (j : Int)) (by omega) (by omega)
      unfold rd_T94 at this
      rwa [Int.toNat_natCast] at this
    · exact h.next e
  · refine .inl ⟨?_, by omega⟩
    rw [ixT_none (fun j hj => ?_)]
    · decide
    · have := h.below g (j := (j : Int)) (by omega) (by omega)
      unfold rd_T94 at this
      rwa [Int.toNat_natCast] at this
theorem prow {l : List S94} {p r : Int} (g : Good l) (h : IsRow l p r) : grid_row.f l p = some ((rd_T94 l r).f0, (rd_T94 l r).f1) := by
  have b1 := h.r0; have c1 := h.r1; have := g.hi
  unfold grid_row.f
  rcases ix_of_row g h with ⟨h1, h2⟩ | ⟨h1, h2⟩
  · rw [if_pos h1, wid (by omega) (by omega), ← h2]
    unfold grid_row.at
    rw [if_pos b1, if_pos c1]
  · rw [if_neg (by omega), h1, wid (by omega) (by omega), show r + 1 - 1 = r by omega]
    unfold grid_row.at
    rw [if_pos b1, if_pos c1]
theorem row_exists {l : List S94} (g : Good l) {p : Int} (hp : 1 ≤ p) : ∃ r, IsRow l p r := by
  obtain ⟨r, _, h⟩ := rrow g hp (k := 11) (by omega)
  exact ⟨r, h⟩
/-- floor: what it is. -/
def fl (l : List S94) (p r : Int) : Int := p - (p - (rd_T94 l r).f0) % (rd_T94 l r).f1
theorem modb {x s : Int} (hs : 1 ≤ s) : 0 ≤ x % s ∧ x % s < s := ⟨Int.emod_nonneg _ (by omega), Int.emod_lt_of_pos _ (by omega)⟩
theorem divfl {x s : Int} (hs : 1 ≤ s) : x / s * s = x - x % s := by
  have h := Int.emod_add_mul_ediv x s
  rw [Int.mul_comm] at h
  omega
theorem IsRow.facts {l : List S94} {p r : Int} (g : Good l) (h : IsRow l p r) (hp : 1 ≤ p) (hp1 : p ≤ 1099511627776) : 0 ≤ (rd_T94 l r).f0 ∧ 1 ≤ (rd_T94 l r).f1 ∧ (rd_T94 l r).f1 ≤ 1099511627776 ∧ 0 ≤ (p - (rd_T94 l r).f0) % (rd_T94 l r).f1 ∧ (p - (rd_T94 l r).f0) % (rd_T94 l r).f1 < (rd_T94 l r).f1 ∧ (p - (rd_T94 l r).f0) % (rd_T94 l r).f1 ≤ p - (rd_T94 l r).f0 ∧ (rd_T94 l r).f0 ≤ p := by
  have hk := g.row r h.r0 h.r1
  have hm := modb (x := p - (rd_T94 l r).f0) hk.1
  have ha := h.at_
  refine ⟨g.nonneg h.r0 h.r1, hk.1, hk.2.1, hm.1, hm.2, ?_, ha⟩
  have hq := divfl (x := p - (rd_T94 l r).f0) hk.1
  have := Int.mul_nonneg (Int.ediv_nonneg (a := p - (rd_T94 l r).f0) (b := (rd_T94 l r).f1) (by omega) (by omega)) (show 0 ≤ (rd_T94 l r).f1 by omega)
  omega
theorem pfloor {l : List S94} {p r : Int} (g : Good l) (h : IsRow l p r) (hp : 1 ≤ p) (hp1 : p ≤ 1099511627776) : grid_floor.f l p = some (fl l p r) := by
  obtain ⟨f0, f1, f2, f3, f4, f5, f6⟩ := h.facts g hp hp1
  unfold grid_floor.f
  rw [prow g h]; simp only [Option.bind_some]
  rw [if_neg (by omega), wid (x := p - (rd_T94 l r).f0) (by omega) (by omega), Int.tmod_eq_emod_of_nonneg (by omega), wid (by omega) (by omega)]
  rfl
theorem pDown_may {l : List S94} {p r : Int} {k : Nat} (hk : 10 < k) (hm : May l p) (h : IsRow l p r) : grid_Down.f k l p = some (fl l p r, decide (fl l p r ≥ 1)) := by
  obtain ⟨b, hb, hbi⟩ := may l p hk
  obtain rfl := hbi.2 hm
  unfold grid_Down.f
  rw [hb]; simp only [Option.bind_some, if_true]
  rw [pfloor hm.1 h hm.2.1 hm.2.2]; rfl
theorem pDown_not {l : List S94} {p : Int} {k : Nat} (hk : 10 < k) (hm : ¬ May l p) : grid_Down.f k l p = some (0, false) := by
  obtain ⟨b, hb, hbi⟩ := may l p hk
  have : b = false := by cases b; rfl; exact absurd (hbi.1 rfl) hm
  subst this
  unfold grid_Down.f
  rw [hb]; rfl
theorem good_take {l : List S94} (g : Good l) : l.take 9 = l := List.take_of_length_le (by have := g.hi; omega)
theorem rDown_may {l : List S94} {p r : Int} {k : Nat} (hk : 30 < k) (hm : May l p) (h : IsRow l p r) : jobberref06_Down.f k ((l.take 9).map mk3) p = some (if fl l p r ≥ 1 then (fl l p r, true) else (0, false)) := by
  obtain ⟨b, hb, hbi⟩ := rmay l p (k := k) (by omega)
  obtain rfl := hbi.2 hm
  have g := hm.1
  unfold jobberref06_Down.f
  rw [hb]; simp only [Option.bind_some, if_true]
  rw [good_take g]
  obtain ⟨r', hr', hi'⟩ := rrow g hm.2.1 (k := k) (by omega)
  obtain rfl := hi'.unique g h
  rw [hr']; simp only [Option.bind_some]
  obtain ⟨k, rfl⟩ : ∃ m, k = m + 3 := ⟨k - 3, by omega⟩
  obtain ⟨f0, f1, f2, f3, f4, f5, f6⟩ := h.facts g hm.2.1 hm.2.2
  have hn := g.hi; have h0 := h.r0; have h1 := h.r1; have hp := hm.2.1; have hp1 := hm.2.2
  rw [jobberref06_Down.l0, if_pos (by omega), List.length_map, wid (x := (l.length : Int) - 1) (by omega) (by omega), wid (x := r' + 1) (by omega) (by omega)]
  have key : jobberref06_Down.j1 (k + 2) (l.map mk3) p r' p false = some (if fl l p r' ≥ 1 then (fl l p r', true) else (0, false)) := by
    rw [jobberref06_Down.j1, if_neg (by decide), if_pos h0, List.length_map, if_pos h1]
    simp only [rd_f0, rd_f1]
    rw [if_neg (by omega), wid (x := p - (rd_T94 l r').f0) (by omega) (by omega), Int.tdiv_eq_ediv_of_nonneg (by omega)]
    have hq0 : 0 ≤ (p - (rd_T94 l r').f0) / (rd_T94 l r').f1 := Int.ediv_nonneg (by omega) (by omega)
    have hq1 : (p - (rd_T94 l r').f0) / (rd_T94 l r').f1 ≤ p - (rd_T94 l r').f0 := Int.ediv_le_self _ (by omega)
    rw [wid (x := (p - (rd_T94 l r').f0) / (rd_T94 l r').f1) (by omega) (by omega), divfl f1, wid (x := p - (rd_T94 l r').f0 - (p - (rd_T94 l r').f0) % (rd_T94 l r').f1) (by omega) (by omega)]
    rw [wid (by omega) (by omega), wid (x := r' - 1) (by omega) (by omega)]
    have e : (rd_T94 l r').f0 + (p - (rd_T94 l r').f0 - (p - (rd_T94 l r').f0) % (rd_T94 l r').f1) = fl l p r' := by unfold fl; omega
    rw [e]
    split
    · rfl
    · rename_i hlt
      have hfl : fl l p r' = p - (p - (rd_T94 l r').f0) % (rd_T94 l r').f1 := rfl
      have : r' = 0 := by
        by_cases e0 : r' = 0
        · exact e0
        · have := g.pos (i := r') (by omega) h1; omega
      subst this
      rw [jobberref06_Down.l0, if_neg (by omega)]
  split
  · rename_i hlt
    have hnx := h.next (by omega)
    rw [if_pos (by omega), if_pos (by omega)]
    simp only [rd_f0, rd_f1]
    obtain ⟨_, _, q3, _⟩ := g.row (r' + 1) (by omega) (by omega)
    rw [wid (x := (rd_T94 l (r' + 1)).f0 - 1) (by omega) (by omega)]
    rw [decide_eq_false (by omega)]
    exact key
  · exact key
theorem rDown_not {l : List S94} {p : Int} {k : Nat} (hk : 10 < k) (hm : ¬ May l p) : jobberref06_Down.f k ((l.take 9).map mk3) p = some (0, false) := by
  obtain ⟨b, hb, hbi⟩ := rmay l p hk
  have : b = false := by cases b; rfl; exact absurd (hbi.1 rfl) hm
  subst this
  unfold jobberref06_Down.f
  rw [hb]; rfl
end Go.Proofs.Ytdfkbdcdgbjgcaa.Grid.M
