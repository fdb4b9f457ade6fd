/- What Count of package grid and of its reference tell, on lists and numbers. -/
import Derived.Test.YtdfkbdcdgbjgcaaGridMathC
namespace Go.Proofs.Ytdfkbdcdgbjgcaa.Grid.M
open Go.RowKit Go.Proofs.Ytdfkbdcdgbjgcaa.Grid Go.Proofs.YtdfkbdcdgbjgcaaW.PrintWords Go.Proofs.YtdfkbdcdgbjgcaaW.PrintLast
set_option linter.unusedVariables false

/-- A row's last price. -/
def en (l : List S94) (i : Int) : Int := if i + 1 < l.length then (rd_T94 l (i + 1)).f0 - 1 else 1099511627776
/-- How many of row i's prices are not above x. -/
def U (l : List S94) (i x : Int) : Int := if x < (rd_T94 l i).f0 then 0 else (x - (rd_T94 l i).f0) / (rd_T94 l i).f1 + (if (rd_T94 l i).f0 > 0 then 1 else 0)
def T (l : List S94) (lo hi i : Int) : Int := U l i (mn hi (en l i)) - U l i (mn (lo - 1) (en l i))
def S (l : List S94) (lo hi : Int) : Nat → Int → Int
  | 0, _ => 0
  | d + 1, i => T l lo hi i + S l lo hi d (i + 1)
theorem divb {x s : Int} (hx : 0 ≤ x) (hs : 1 ≤ s) : 0 ≤ x / s ∧ x / s ≤ x := ⟨Int.ediv_nonneg hx (by omega), Int.ediv_le_self _ hx⟩
theorem U_bound {l : List S94} (g : Good l) {i x : Int} (h0 : 0 ≤ i) (h1 : i < l.length) (hx : x ≤ 1099511627776) : 0 ≤ U l i x ∧ U l i x ≤ 1099511627777 := by
  obtain ⟨q1, q2, q3, _⟩ := g.row i h0 h1
  have q0 := g.nonneg h0 h1
  unfold U
  split
  · omega
  · have := divb (x := x - (rd_T94 l i).f0) (s := (rd_T94 l i).f1) (by omega) q1
    split <;> omega
theorem T_bound {l : List S94} (g : Good l) {lo hi i : Int} (h0 : 0 ≤ i) (h1 : i < l.length) (hh : hi ≤ 1099511627776) (hl : lo ≤ 1099511627776) : -1099511627777 ≤ T l lo hi i ∧ T l lo hi i ≤ 1099511627777 := by
  have a := U_bound g (x := mn hi (en l i)) h0 h1 (by unfold mn; omega)
  have b := U_bound g (x := mn (lo - 1) (en l i)) h0 h1 (by unfold mn; omega)
  unfold T
  omega
theorem upto {l : List S94} (g : Good l) {i x : Int} (h0 : 0 ≤ i) (h1 : i < l.length) (hx : x ≤ 1099511627776) : grid_upto.f (rd_T94 l i).f0 (rd_T94 l i).f1 x = some (U l i x) := by
  obtain ⟨q1, q2, q3, _⟩ := g.row i h0 h1
  have q0 := g.nonneg h0 h1
  unfold grid_upto.f U
  by_cases h : x < (rd_T94 l i).f0
  · rw [if_pos h, if_pos h]
  · have := divb (x := x - (rd_T94 l i).f0) (s := (rd_T94 l i).f1) (by omega) q1
    rw [if_neg h, if_neg h, if_neg (by omega), wid (x := x - (rd_T94 l i).f0) (by omega) (by omega), Int.tdiv_eq_ediv_of_nonneg (by omega), wid (x := (x - (rd_T94 l i).f0) / (rd_T94 l i).f1) (by omega) (by omega)]
    split
    · rw [wid (by omega) (by omega)]
    · rw [Int.add_zero]
theorem pCount_loop {l : List S94} (g : Good l) {lo hi : Int} (hl : 1 ≤ lo) (hl1 : lo ≤ 1099511627776) (hh : hi ≤ 1099511627776) : ∀ (d k : Nat) (i a : Int), 0 ≤ i → l.length - i = d → d < k → -(i * 1099511627777) ≤ a → a ≤ i * 1099511627777 → grid_Count.l0 k l lo hi a l (l.length : Int) i = some (a + S l lo hi d i) := by
  intro d
  induction d with
  | zero =>
    intro k i a h0 hd hk ha0 ha1
    obtain ⟨k, rfl⟩ : ∃ m, k = m + 1 := ⟨k - 1, by omega⟩
    rw [grid_Count.l0, if_neg (by omega)]
    simp [S]
  | succ d ih =>
    intro k i a h0 hd hk ha0 ha1
    have hn := g.hi
    obtain ⟨k, rfl⟩ : ∃ m, k = m + 1 := ⟨k - 1, by omega⟩
    have hT := T_bound g (lo := lo) (hi := hi) h0 (by omega) hh hl1
    have hux := U_bound g (i := i) (x := mn hi (en l i)) h0 (by omega) (by unfold mn; omega)
    have huy := U_bound g (i := i) (x := mn (lo - 1) (en l i)) h0 (by omega) (by unfold mn; omega)
    have key : grid_Count.l0 k l lo hi (wrap64 (a + wrap64 (U l i (mn hi (en l i)) - U l i (mn (lo - 1) (en l i))))) l (l.length : Int) (i + 1) = some (a + S l lo hi (d + 1) i) := by
      rw [wid (x := U l i (mn hi (en l i)) - U l i (mn (lo - 1) (en l i))) (by omega) (by omega)]
      have e : U l i (mn hi (en l i)) - U l i (mn (lo - 1) (en l i)) = T l lo hi i := rfl
      rw [e, wid (by omega) (by omega), ih k (i + 1) _ (by omega) (by omega) (by omega) (by omega) (by omega)]
      simp only [S]
      congr 1
      omega
    rw [grid_Count.l0, if_pos (by omega), if_pos h0, if_pos (by omega), wid (x := i + 1) (by omega) (by omega), wid (x := lo - 1) (by omega) (by omega)]
    by_cases hx : i + 1 < (l.length : Int)
    · have een : en l i = (rd_T94 l (i + 1)).f0 - 1 := if_pos hx
      obtain ⟨_, _, q3, _⟩ := g.row (i + 1) (by omega) hx
      have q0 := g.nonneg (i := i + 1) (by omega) hx
      rw [if_pos hx, if_pos (by omega), wid (x := (rd_T94 l (i + 1)).f0 - 1) (by omega) (by omega), ← een, upto g h0 (by omega) (by unfold mn; omega)]
      simp only [Option.bind_some]
      rw [upto g h0 (by omega) (by unfold mn; omega)]
      simp only [Option.bind_some]
      exact key
    · have een : en l i = 1099511627776 := if_neg hx
      rw [if_neg hx, ← een, upto g h0 (by omega) (by unfold mn; omega)]
      simp only [Option.bind_some]
      rw [upto g h0 (by omega) (by unfold mn; omega)]
      simp only [Option.bind_some]
      exact key
/-- How many lie between, if the table and both may be. -/
def cnt (l : List S94) (lo hi : Int) : Int := S l lo hi l.length 0
theorem pCount {l : List S94} {lo hi : Int} {k : Nat} (hk : 20 < k) (h1 : May l lo) (h2 : May l hi) (h : lo ≤ hi) : grid_Count.f k l lo hi = some (cnt l lo hi) := by
  obtain ⟨b, hb, hbi⟩ := may l lo (k := k) (by omega)
  obtain rfl := hbi.2 h1
  obtain ⟨c, hc, hci⟩ := may l hi (k := k) (by omega)
  obtain rfl := hci.2 h2
  obtain ⟨k, rfl⟩ : ∃ m, k = m + 1 := ⟨k - 1, by omega⟩
  unfold grid_Count.f
  rw [hb]; simp only [Option.bind_some, if_true]
  rw [hc]; simp only [Option.bind_some, if_true]
  rw [grid_Count.j0, decide_eq_false (by omega), if_neg (by decide)]
  have := h1.1.hi
  rw [pCount_loop h1.1 h1.2.1 h1.2.2 h2.2.2 l.length k 0 0 (by omega) (by omega) (by omega) (by omega) (by omega)]
  simp [cnt]
theorem pCount_not {l : List S94} {lo hi : Int} {k : Nat} (hk : 20 < k) (h : ¬ (May l lo ∧ May l hi ∧ lo ≤ hi)) : grid_Count.f k l lo hi = some 0 := by
  obtain ⟨b, hb, hbi⟩ := may l lo (k := k) (by omega)
  obtain ⟨c, hc, hci⟩ := may l hi (k := k) (by omega)
  obtain ⟨k, rfl⟩ : ∃ m, k = m + 1 := ⟨k - 1, by omega⟩
  unfold grid_Count.f
  rw [hb, hc]; simp only [Option.bind_some]
  cases b with
  | false => rw [if_neg (by decide), grid_Count.j0, if_pos rfl]
  | true =>
    cases c with
    | false => rw [if_pos rfl, if_neg (by decide), grid_Count.j0, if_pos rfl]
    | true =>
      rw [if_pos rfl, if_pos rfl, grid_Count.j0, decide_eq_true (by have := hbi.1 rfl; have := hci.1 rfl; by_cases e : lo ≤ hi; exact absurd ⟨hbi.1 rfl, hci.1 rfl, e⟩ h; omega), if_pos rfl]
theorem T_zero_of_eq {l : List S94} {lo hi i : Int} (h : mn hi (en l i) = mn (lo - 1) (en l i)) : T l lo hi i = 0 := by unfold T; rw [h]; omega
theorem U_zero {l : List S94} {i x : Int} (h : x < (rd_T94 l i).f0) : U l i x = 0 := if_pos h
theorem U_at {l : List S94} {i x : Int} (h : (rd_T94 l i).f0 ≤ x) : U l i x = (x - (rd_T94 l i).f0) / (rd_T94 l i).f1 + (if (rd_T94 l i).f0 > 0 then 1 else 0) := if_neg (by omega)
theorem en_ge {l : List S94} (g : Good l) {i : Int} (h0 : 0 ≤ i) (h1 : i < l.length) : (rd_T94 l i).f0 ≤ en l i ∧ en l i ≤ 1099511627776 := by
  obtain ⟨_, _, q3, _⟩ := g.row i h0 h1
  unfold en
  split
  · rename_i h
    have := g.lt h0 (show i < i + 1 by omega) h
    obtain ⟨_, _, q3, _⟩ := g.row (i + 1) (by omega) h
    omega
  · omega
/-- One row, in the reference's way. -/
theorem row_eq {l : List S94} (g : Good l) {lo hi i : Int} (h0 : 0 ≤ i) (h1 : i < l.length) (hl : 1 ≤ lo) (hlh : lo ≤ hi) :
    (mx lo (rd_T94 l i).f0 > mn hi (en l i) → T l lo hi i = 0) ∧ (mx lo (rd_T94 l i).f0 ≤ mn hi (en l i) → ∀ F L : Int, F = (mx lo (rd_T94 l i).f0 - (rd_T94 l i).f0 + (rd_T94 l i).f1 - 1) / (rd_T94 l i).f1 → L = (mn hi (en l i) - (rd_T94 l i).f0) / (rd_T94 l i).f1 → T l lo hi i = if L ≥ F then L - F + 1 else 0) := by
  obtain ⟨q1, q2, q3, _⟩ := g.row i h0 h1
  have q0 := g.nonneg h0 h1
  have he := (en_ge g h0 h1).1
  constructor
  · intro hgt
    by_cases hx : mn hi (en l i) < (rd_T94 l i).f0
    · unfold T
      rw [U_zero hx, U_zero (by unfold mn at *; omega)]
      omega
    · refine T_zero_of_eq ?_
      unfold mn mx at *
      omega
  · intro hle F L hF hL
    have hx : (rd_T94 l i).f0 ≤ mn hi (en l i) := by unfold mx at hle; omega
    unfold T
    rw [U_at hx, ← hL]
    by_cases hlo : lo ≤ (rd_T94 l i).f0
    · have em : mx lo (rd_T94 l i).f0 = (rd_T94 l i).f0 := by unfold mx; omega
      rw [em] at hF
      have hF0 : F = 0 := by
        rw [hF, Int.sub_self, Int.zero_add]
        exact Int.ediv_eq_zero_of_lt (by omega) (by omega)
      rw [U_zero (by unfold mn; omega), hF0, if_pos (by omega)]
      have := divb (x := mn hi (en l i) - (rd_T94 l i).f0) (s := (rd_T94 l i).f1) (by omega) q1
      rw [if_pos (by omega)]
      omega
    · have em : mx lo (rd_T94 l i).f0 = lo := by unfold mx; omega
      rw [em] at hF hle
      have ey : mn (lo - 1) (en l i) = lo - 1 := by unfold mn at *; omega
      rw [ey, U_at (by omega)]
      have hF1 : F = (lo - 1 - (rd_T94 l i).f0) / (rd_T94 l i).f1 + 1 := by
        rw [hF, show lo - (rd_T94 l i).f0 + (rd_T94 l i).f1 - 1 = (lo - 1 - (rd_T94 l i).f0) + (rd_T94 l i).f1 by omega, Int.add_ediv_of_dvd_right (Int.dvd_refl _), Int.ediv_self (by omega)]
      have hm : (lo - 1 - (rd_T94 l i).f0) / (rd_T94 l i).f1 ≤ L := by
        rw [hL]
        exact Int.ediv_le_ediv (by omega) (by omega)
      split <;> omega
theorem rCount_loop {l : List S94} (g : Good l) {lo hi : Int} (hl : 1 ≤ lo) (hlh : lo ≤ hi) (hh : hi ≤ 1099511627776) : ∀ (d k : Nat) (i a : Int), 0 ≤ i → l.length - i = d → 2 * d + 1 < k → -(i * 1099511627777) ≤ a → a ≤ i * 1099511627777 → jobberref06_Count.l0 k (l.map mk3) lo hi a i = some (a + S l lo hi d i) := by
  intro d
  induction d with
  | zero =>
    intro k i a h0 hd hk ha0 ha1
    obtain ⟨k, rfl⟩ : ∃ m, k = m + 1 := ⟨k - 1, by omega⟩
    rw [jobberref06_Count.l0, List.length_map, if_neg (by omega)]
    simp [S]
  | succ d ih =>
    intro k i a h0 hd hk ha0 ha1
    have hn := g.hi
    obtain ⟨k, rfl⟩ : ∃ m, k = m + 2 := ⟨k - 2, by omega⟩
    have hT := T_bound g (lo := lo) (hi := hi) h0 (by omega) hh (by omega)
    obtain ⟨q1, q2, q3, _⟩ := g.row i h0 (by omega)
    have q0 := g.nonneg h0 (show i < (l.length : Int) by omega)
    obtain ⟨he, he1⟩ := en_ge g h0 (show i < (l.length : Int) by omega)
    obtain ⟨r1, r2⟩ := row_eq g (lo := lo) (hi := hi) h0 (by omega) hl hlh
    have key : jobberref06_Count.j2 (k + 1) (l.map mk3) lo hi a i (mx lo (rd_T94 l i).f0) (mn hi (en l i)) = some (a + S l lo hi (d + 1) i) := by
      rw [jobberref06_Count.j2, wid (x := i + 1) (by omega) (by omega)]
      by_cases hgt : mx lo (rd_T94 l i).f0 > mn hi (en l i)
      · rw [if_pos hgt, ih k (i + 1) _ (by omega) (by omega) (by omega) (by omega) (by omega)]
        simp only [S]
        rw [r1 hgt]
        congr 1
        omega
      · rw [if_neg hgt, if_pos h0, List.length_map, if_pos (by omega)]
        simp only [rd_f0, rd_f1]
        have ha1' : 0 ≤ mx lo (rd_T94 l i).f0 - (rd_T94 l i).f0 := by unfold mx; omega
        have hb1' : mn hi (en l i) ≤ 1099511627776 := by unfold mn; omega
        have hL := divb (x := mn hi (en l i) - (rd_T94 l i).f0) (s := (rd_T94 l i).f1) (by omega) q1
        have hF := divb (x := mx lo (rd_T94 l i).f0 - (rd_T94 l i).f0 + (rd_T94 l i).f1 - 1) (s := (rd_T94 l i).f1) (by omega) q1
        have hr := r2 (by omega) _ _ rfl rfl
        rw [if_neg (by omega), wid (x := mn hi (en l i) - (rd_T94 l i).f0) (by omega) (by omega), wid (x := mx lo (rd_T94 l i).f0 - (rd_T94 l i).f0) (by omega) (by omega), wid (x := mx lo (rd_T94 l i).f0 - (rd_T94 l i).f0 + (rd_T94 l i).f1) (by omega) (by omega), wid (x := mx lo (rd_T94 l i).f0 - (rd_T94 l i).f0 + (rd_T94 l i).f1 - 1) (by omega) (by omega), Int.tdiv_eq_ediv_of_nonneg (by omega), Int.tdiv_eq_ediv_of_nonneg (by omega), wid (x := (mn hi (en l i) - (rd_T94 l i).f0) / (rd_T94 l i).f1) (by omega) (by omega), wid (x := (mx lo (rd_T94 l i).f0 - (rd_T94 l i).f0 + (rd_T94 l i).f1 - 1) / (rd_T94 l i).f1) (by omega) (by omega)]
        generalize (mn hi (en l i) - (rd_T94 l i).f0) / (rd_T94 l i).f1 = L at *
        generalize (mx lo (rd_T94 l i).f0 - (rd_T94 l i).f0 + (rd_T94 l i).f1 - 1) / (rd_T94 l i).f1 = F at *
        by_cases hLF : L ≥ F
        · rw [if_pos hLF] at hr ⊢
          rw [wid (x := a + L) (by omega) (by omega), wid (x := a + L - F) (by omega) (by omega), wid (x := a + L - F + 1) (by omega) (by omega), ih k (i + 1) _ (by omega) (by omega) (by omega) (by omega) (by omega)]
          simp only [S]
          congr 1
          omega
        · rw [if_neg hLF] at hr ⊢
          rw [ih k (i + 1) _ (by omega) (by omega) (by omega) (by omega) (by omega)]
          simp only [S]
          congr 1
          omega
    rw [jobberref06_Count.l0, List.length_map, if_pos (by omega), if_pos h0, wid (x := (l.length : Int) - 1) (by omega) (by omega), wid (x := i + 1) (by omega) (by omega)]
    by_cases hx : i + 1 < (l.length : Int)
    · have een : en l i = (rd_T94 l (i + 1)).f0 - 1 := if_pos hx
      rw [if_pos (by omega), if_pos (by omega), if_pos hx]
      simp only [rd_f0]
      rw [wid (x := (rd_T94 l (i + 1)).f0 - 1) (by omega) (by omega), ← een]
      exact key
    · have een : en l i = 1099511627776 := if_neg hx
      rw [if_neg (by omega)]
      simp only [rd_f0]
      have : mn hi (en l i) = hi := by unfold mn; omega
      rw [this] at key
      exact key
theorem rCount_loop0 {l : List S94} (g : Good l) {lo hi : Int} (hl : 1 ≤ lo) (hlh : hi < lo) (hlo : lo ≤ 1099511627776) : ∀ (d k : Nat) (i : Int), 0 ≤ i → l.length - i = d → 2 * d + 1 < k → jobberref06_Count.l0 k (l.map mk3) lo hi 0 i = some 0 := by
  intro d
  induction d with
  | zero =>
    intro k i h0 hd hk
    obtain ⟨k, rfl⟩ : ∃ m, k = m + 1 := ⟨k - 1, by omega⟩
    rw [jobberref06_Count.l0, List.length_map, if_neg (by omega)]
  | succ d ih =>
    intro k i h0 hd hk
    have hn := g.hi
    obtain ⟨k, rfl⟩ : ∃ m, k = m + 2 := ⟨k - 2, by omega⟩
    have key : ∀ b, b ≤ hi → jobberref06_Count.j2 (k + 1) (l.map mk3) lo hi 0 i (mx lo (rd_T94 l i).f0) b = some 0 := by
      intro b hb
      rw [jobberref06_Count.j2, wid (x := i + 1) (by omega) (by omega), if_pos (by unfold mx; omega)]
      exact ih k (i + 1) (by omega) (by omega) (by omega)
    rw [jobberref06_Count.l0, List.length_map, if_pos (by omega), if_pos h0, wid (x := (l.length : Int) - 1) (by omega) (by omega), wid (x := i + 1) (by omega) (by omega)]
    simp only [rd_f0]
    by_cases hx : i + 1 < (l.length : Int)
    · rw [if_pos (by omega), if_pos (by omega), if_pos hx]
      exact key _ (by unfold mn; omega)
    · rw [if_neg (by omega)]
      exact key _ (Int.le_refl _)
theorem rCount {l : List S94} {lo hi : Int} {k : Nat} (hk : 30 < k) : jobberref06_Count.f k ((l.take 9).map mk3) lo hi = grid_Count.f k l lo hi := by
  obtain ⟨b, hb, hbi⟩ := rmay l lo (k := k) (by omega)
  obtain ⟨c, hc, hci⟩ := rmay l hi (k := k) (by omega)
  by_cases h1 : May l lo
  · obtain rfl := hbi.2 h1
    have g := h1.1
    have hn := g.hi
    by_cases h2 : May l hi
    · obtain rfl := hci.2 h2
      obtain ⟨k, rfl⟩ : ∃ m, k = m + 1 := ⟨k - 1, by omega⟩
      unfold jobberref06_Count.f
      rw [hb]; simp only [Option.bind_some, if_true]
      rw [hc]; simp only [Option.bind_some]
      rw [good_take g, jobberref06_Count.j0, if_neg (by decide)]
      by_cases hlh : lo ≤ hi
      · rw [pCount (by omega) h1 h2 hlh, rCount_loop g h1.2.1 hlh h2.2.2 l.length k 0 0 (by omega) (by omega) (by omega) (by omega) (by omega)]
        simp [cnt]
      · rw [pCount_not (by omega) (fun h => hlh h.2.2), rCount_loop0 g h1.2.1 (by omega) h1.2.2 l.length k 0 (by omega) (by omega) (by omega)]
    · have : c = false := by cases c; rfl; exact absurd (hci.1 rfl) h2
      subst this
      rw [pCount_not (by omega) (fun h => h2 h.2.1)]
      obtain ⟨k, rfl⟩ : ∃ m, k = m + 1 := ⟨k - 1, by omega⟩
      unfold jobberref06_Count.f
      rw [hb]; simp only [Option.bind_some, if_true]
      rw [hc]; simp only [Option.bind_some]
      rw [jobberref06_Count.j0, if_pos (by decide)]
  · have : b = false := by cases b; rfl; exact absurd (hbi.1 rfl) h1
    subst this
    rw [pCount_not (by omega) (fun h => h1 h.1)]
    obtain ⟨k, rfl⟩ : ∃ m, k = m + 1 := ⟨k - 1, by omega⟩
    unfold jobberref06_Count.f
    rw [hb]; simp only [Option.bind_some]
    rw [if_neg (by decide), jobberref06_Count.j0, if_pos (by decide)]
theorem S_add {l : List S94} {lo mid hi : Int} : ∀ (d : Nat) (i : Int), S l lo mid d i + S l (mid + 1) hi d i = S l lo hi d i := by
  intro d
  induction d with
  | zero => intro i; rfl
  | succ d ih =>
    intro i
    simp only [S]
    have := ih (i + 1)
    have e : T l lo mid i + T l (mid + 1) hi i = T l lo hi i := by unfold T; rw [show mid + 1 - 1 = mid by omega]; omega
    omega
theorem cnt_add {l : List S94} {lo mid hi : Int} : cnt l lo mid + cnt l (mid + 1) hi = cnt l lo hi := S_add _ _
theorem S_bound {l : List S94} (g : Good l) {lo hi : Int} (hh : hi ≤ 1099511627776) (hl : lo ≤ 1099511627776) : ∀ (d : Nat) (i : Int), 0 ≤ i → l.length - i = d → -(d * 1099511627777) ≤ S l lo hi d i ∧ S l lo hi d i ≤ d * 1099511627777 := by
  intro d
  induction d with
  | zero => intro i _ _; simp [S]
  | succ d ih =>
    intro i h0 hd
    have a := T_bound g (lo := lo) (hi := hi) h0 (by omega) hh hl
    have b := ih (i + 1) (by omega) (by omega)
    simp only [S]
    omega
theorem counts (l : List S94) (lo mid hi : Int) : ∃ k, jobberlaw06_GridCounts.f k l lo mid hi = some true := by
  refine ⟨41, ?_⟩
  unfold jobberlaw06_GridCounts.f
  rw [plain l (by omega)]; simp only [Option.bind_some]
  rw [rCount (by omega)]
  obtain ⟨n, hn⟩ : ∃ n, grid_Count.f 41 l lo hi = some n := by
    by_cases h : May l lo ∧ May l hi ∧ lo ≤ hi
    · exact ⟨_, pCount (by omega) h.1 h.2.1 h.2.2⟩
    · exact ⟨_, pCount_not (by omega) h⟩
  rw [hn]; simp only [Option.bind_some, if_true]
  have hliv : jobberlaw06_GridCounts.j0 41 l lo mid hi n true = some true := by rw [jobberlaw06_GridCounts.j0, if_pos rfl, lives (by omega)]; rfl
  split
  · exact hliv
  split
  · exact hliv
  split
  · exact hliv
  by_cases hM : hi > 1099511627776
  · rw [decide_eq_true hM]; exact hliv
  · rw [decide_eq_false hM, jobberlaw06_GridCounts.j0, if_neg (by decide), wid (x := mid + 1) (by omega) (by omega)]
    by_cases g : Good l
    · have m1 : May l lo := ⟨g, by omega, by omega⟩
      have m2 : May l mid := ⟨g, by omega, by omega⟩
      have m3 : May l (mid + 1) := ⟨g, by omega, by omega⟩
      have m4 : May l hi := ⟨g, by omega, by omega⟩
      rw [pCount (by omega) m1 m2 (by omega)]; simp only [Option.bind_some]
      rw [pCount (by omega) m3 m4 (by omega)]; simp only [Option.bind_some]
      have hn' : grid_Count.f 41 l lo hi = _ := pCount (by omega) m1 m4 (by omega)
      rw [hn] at hn'
      injection hn' with hn'
      have b1 := S_bound g (lo := lo) (hi := mid) (by omega) (by omega) l.length 0 (by omega) (by omega)
      have b2 := S_bound g (lo := mid + 1) (hi := hi) (by omega) (by omega) l.length 0 (by omega) (by omega)
      have ea : cnt l lo mid + cnt l (mid + 1) hi = cnt l lo hi := cnt_add
      have h8 := g.hi
      unfold cnt at *
      rw [wid (by omega) (by omega), if_pos (by omega), lives (by omega)]; rfl
    · rw [pCount_not (by omega) (fun h => g h.1.1)]; simp only [Option.bind_some]
      rw [pCount_not (by omega) (fun h => g h.1.1)]; simp only [Option.bind_some]
      rw [pCount_not (by omega) (fun h => g h.1.1)] at hn
      injection hn with hn
      rw [← hn, show (0 : Int) + 0 = 0 from rfl, wid (x := 0) (by decide) (by decide), if_pos rfl, lives (by omega)]; rfl
end Go.Proofs.Ytdfkbdcdgbjgcaa.Grid.M
