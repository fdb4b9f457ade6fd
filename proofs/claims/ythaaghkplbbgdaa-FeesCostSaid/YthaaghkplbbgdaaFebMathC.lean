/- What the functions of package fees and of its reference tell of a table, and of a fee, on lists and numbers. -/
import Derived.Test.YthaaghkplbbgdaaFebMathB
namespace Go.Proofs.Ythaaghkplbbgdaa.Feb.M
open Go.RowKit Go.Proofs.Ythaaghkplbbgdaa.Feb Go.Proofs.YthaaghkplbbgdaaW.PrintWords Go.Proofs.YthaaghkplbbgdaaW.PrintLast
set_option linter.unusedVariables false
set_option linter.unusedSimpArgs false
def mk3 (x : S64) : S63 := ⟨x.f0, x.f1, x.f2⟩
theorem rd_map (l : List S64) (j : Int) : rd_T63 (l.map mk3) j = mk3 (rd_T64 l j) := by
  unfold rd_T63 rd_T64
  rw [List.getD_eq_getElem?_getD, List.getD_eq_getElem?_getD, List.getElem?_map]
  cases l[j.toNat]? <;> rfl
theorem rd_f0 (l : List S64) (j : Int) : (rd_T63 (l.map mk3) j).f0 = (rd_T64 l j).f0 := by rw [rd_map]; rfl
theorem rd_f1 (l : List S64) (j : Int) : (rd_T63 (l.map mk3) j).f1 = (rd_T64 l j).f1 := by rw [rd_map]; rfl
theorem rd_f2 (l : List S64) (j : Int) : (rd_T63 (l.map mk3) j).f2 = (rd_T64 l j).f2 := by rw [rd_map]; rfl
theorem ret_take {l : List S64} {j : Nat} {i : Int} (hi : i = (j : Int)) (hj : j < l.length) : l.take (j + 1) = l.take j ++ [rd_T64 l i] := by
  subst hi
  rw [List.take_succ_eq_append_getElem hj]
  unfold rd_T64
  rw [List.getD_eq_getElem?_getD, Int.toNat_natCast, List.getElem?_eq_getElem hj]
  rfl
theorem plain_loop (l : List S64) : ∀ (d k : Nat) (j : Nat), j ≤ 9 → j ≤ l.length → 9 - j = d → d < k → jobberlaw08_Plain.l0 k l ((l.take j).map mk3) (j : Int) = some ((l.take 9).map mk3) := by
  intro d
  induction d with
  | zero =>
    intro k j h9 hl hd hk
    obtain ⟨k, rfl⟩ : ∃ m, k = m + 1 := ⟨k - 1, by omega⟩
    obtain rfl : j = 9 := by omega
    rw [jobberlaw08_Plain.l0]
    split
    · rw [if_neg (by omega)]
    · rfl
  | succ d ih =>
    intro k j h9 hl hd hk
    obtain ⟨k, rfl⟩ : ∃ m, k = m + 1 := ⟨k - 1, by omega⟩
    rw [jobberlaw08_Plain.l0]
    by_cases h : j < l.length
    · rw [if_pos (by omega), if_pos (by omega), if_pos (by omega), if_pos (by rw [List.length_map, List.length_take]; omega), wid (by omega) (by omega)]
      have := ih k (j + 1) (by omega) (by omega) (by omega) (by omega)
      rw [ret_take rfl h, List.map_append] at this
      exact this
    · rw [if_neg (by omega)]
      rw [List.take_of_length_le (by omega), List.take_of_length_le (by omega)]
theorem plain (l : List S64) {k : Nat} (hk : 9 < k) : jobberlaw08_Plain.f k l = some ((l.take 9).map mk3) := by
  have := plain_loop l 9 k 0 (by omega) (by omega) rfl hk
  exact this
def Fine (p : Int) : Prop := 0 ≤ p ∧ p ≤ 100000
theorem fine (p : Int) : ∃ b, fees_fine.f p = some b ∧ (b = true ↔ Fine p) := by
  unfold fees_fine.f Fine
  by_cases h : p ≥ 0
  · rw [if_pos h]; exact ⟨_, rfl, by simp; omega⟩
  · rw [if_neg h]; exact ⟨_, rfl, by simp; omega⟩
def RowOK (l : List S64) (j : Int) : Prop := (rd_T64 l j).f0 ≤ 4611686018427387904 ∧ Fine (rd_T64 l j).f1 ∧ Fine (rd_T64 l j).f2 ∧ (0 < j → (rd_T64 l (j - 1)).f0 < (rd_T64 l j).f0)
structure Good (l : List S64) : Prop where
  lo : 1 ≤ (l.length : Int)
  hi : (l.length : Int) ≤ 8
  zero : (rd_T64 l 0).f0 = 0
  row : ∀ j : Int, 0 ≤ j → j < l.length → RowOK l j
theorem rows_step {l : List S64} {i : Int} (h0 : 0 ≤ i) (h1 : i < l.length) : (∀ j, i ≤ j → j < l.length → RowOK l j) ↔ RowOK l i ∧ ∀ j, i + 1 ≤ j → j < l.length → RowOK l j :=
  ⟨fun h => ⟨h i (by omega) (by omega), fun j hj => h j (by omega)⟩, fun h j hj hl => by
    by_cases e : j = i
    · subst e; exact h.1
    · exact h.2 j (by omega) hl⟩
theorem good_loop (l : List S64) (hn : (l.length : Int) ≤ 8) : ∀ (d k : Nat) (i : Int), 0 ≤ i → i ≤ l.length → l.length - i = d → d < k → ∃ b, fees_good.l0 k l (l.length : Int) i = some b ∧ (b = true ↔ ∀ j, i ≤ j → j < l.length → RowOK l j) := by
  intro d
  induction d with
  | zero =>
    intro k i h0 h1 hd hk
    obtain ⟨k, rfl⟩ : ∃ m, k = m + 1 := ⟨k - 1, by omega⟩
    refine ⟨true, ?_, ?_⟩
    · rw [fees_good.l0, if_neg (by omega)]
    · simp only [true_iff]; intro j hj hl; omega
  | succ d ih =>
    intro k i h0 h1 hd hk
    obtain ⟨k, rfl⟩ : ∃ m, k = m + 1 := ⟨k - 1, by omega⟩
    obtain ⟨b, hb, hbi⟩ := ih k (i + 1) (by omega) (by omega) (by omega) (by omega)
    obtain ⟨b1, hb1, hbi1⟩ := fine (rd_T64 l i).f1
    obtain ⟨b2, hb2, hbi2⟩ := fine (rd_T64 l i).f2
    rw [fees_good.l0, if_pos (by omega), if_pos h0, if_pos (by omega), rows_step h0 (by omega), wid (x := i + 1) (by omega) (by omega), hb1, hb2, hb]
    simp only [Option.bind_some]
    unfold RowOK
    by_cases c0 : (rd_T64 l i).f0 > 4611686018427387904
    · rw [if_pos c0]; exact ⟨false, rfl, by simp; intro h; omega⟩
    rw [if_neg c0]
    cases b1 with
    | false => rw [if_neg (by decide)]; exact ⟨false, rfl, by simp; intro _ h; exact absurd (hbi1.2 h) (by decide)⟩
    | true =>
      rw [if_pos rfl]
      cases b2 with
      | false => rw [if_neg (by decide)]; exact ⟨false, rfl, by simp; intro _ _ h; exact absurd (hbi2.2 h) (by decide)⟩
      | true =>
        rw [if_pos rfl]
        have f1 := hbi1.1 rfl; have f2 := hbi2.1 rfl
        by_cases c1 : i > 0
        · rw [if_pos c1, wid (x := i - 1) (by omega) (by omega), if_pos (by omega), if_pos (by omega)]
          by_cases c2 : (rd_T64 l i).f0 ≤ (rd_T64 l (i - 1)).f0
          · rw [if_pos c2]; refine ⟨false, rfl, ?_⟩; simp; intro _ _ _ h; exfalso; have := h (by omega); omega
          · rw [if_neg c2]; exact ⟨b, rfl, by rw [hbi]; exact ⟨fun h => ⟨⟨by omega, f1, f2, fun _ => by omega⟩, h⟩, fun h => h.2⟩⟩
        · rw [if_neg c1]; exact ⟨b, rfl, by rw [hbi]; exact ⟨fun h => ⟨⟨by omega, f1, f2, fun _ => by omega⟩, h⟩, fun h => h.2⟩⟩
theorem good (l : List S64) {k : Nat} (hk : 10 < k) : ∃ b, fees_good.f k l = some b ∧ (b = true ↔ Good l) := by
  obtain ⟨k, rfl⟩ : ∃ m, k = m + 1 := ⟨k - 1, by omega⟩
  unfold fees_good.f
  split
  · exact ⟨false, by rw [fees_good.j0, if_pos rfl], by simp; intro h; have := h.lo; omega⟩
  split
  · exact ⟨false, by rw [fees_good.j0, if_pos rfl], by simp; intro h; have := h.hi; omega⟩
  rw [if_pos (by omega), fees_good.j0]
  by_cases hz : (rd_T64 l 0).f0 = 0
  · obtain ⟨b, hb, hbi⟩ := good_loop l (by omega) l.length k 0 (by omega) (by omega) (by omega) (by omega)
    refine ⟨b, ?_, ?_⟩
    · rw [if_neg (by simp [hz])]; exact hb
    · rw [hbi]; exact ⟨fun h => ⟨by omega, by omega, hz, h⟩, fun h => h.row⟩
  · exact ⟨false, by rw [if_pos (by simp [hz])], by simp; intro h; exact hz h.zero⟩
theorem rgood_loop (l : List S64) (hn : (l.length : Int) ≤ 8) : ∀ (d k : Nat) (i : Int), 0 ≤ i → i ≤ l.length → l.length - i = d → d < k → ∃ b, jobberref08_Good.l0 k (l.map mk3) i = some b ∧ (b = true ↔ ∀ j, i ≤ j → j < l.length → RowOK l j) := by
  intro d
  induction d with
  | zero =>
    intro k i h0 h1 hd hk
    obtain ⟨k, rfl⟩ : ∃ m, k = m + 1 := ⟨k - 1, by omega⟩
    refine ⟨true, ?_, ?_⟩
    · rw [jobberref08_Good.l0, if_neg (by rw [List.length_map]; omega)]
    · simp only [true_iff]; intro j hj hl; omega
  | succ d ih =>
    intro k i h0 h1 hd hk
    obtain ⟨k, rfl⟩ : ∃ m, k = m + 1 := ⟨k - 1, by omega⟩
    obtain ⟨b, hb, hbi⟩ := ih k (i + 1) (by omega) (by omega) (by omega) (by omega)
    rw [jobberref08_Good.l0, List.length_map, if_pos (by omega), if_pos h0, rows_step h0 (by omega), wid (x := i + 1) (by omega) (by omega), hb]
    simp only [rd_f0, rd_f1, rd_f2]
    unfold RowOK Fine
    by_cases c0 : (rd_T64 l i).f0 > 4611686018427387904
    · rw [if_pos c0]; exact ⟨false, rfl, by simp; intro h; omega⟩
    rw [if_neg c0]
    by_cases c1 : (rd_T64 l i).f1 < 0
    · rw [if_pos c1]; exact ⟨false, rfl, by simp; intro _ h; omega⟩
    rw [if_neg c1]
    by_cases c2 : (rd_T64 l i).f1 > 100000
    · rw [if_pos c2]; exact ⟨false, rfl, by simp; intro _ _ h; omega⟩
    rw [if_neg c2]
    by_cases c3 : (rd_T64 l i).f2 < 0
    · rw [if_pos c3]; exact ⟨false, rfl, by simp; intro _ _ _ h; omega⟩
    rw [if_neg c3]
    by_cases c4 : (rd_T64 l i).f2 > 100000
    · rw [if_pos c4]; exact ⟨false, rfl, by simp; intro _ _ _ _ h; omega⟩
    rw [if_neg c4]
    by_cases c5 : i > 0
    · rw [if_pos c5, wid (x := i - 1) (by omega) (by omega), if_pos (by omega), if_pos (by omega)]
      by_cases c6 : (rd_T64 l i).f0 ≤ (rd_T64 l (i - 1)).f0
      · rw [if_pos c6]; refine ⟨false, rfl, ?_⟩; simp; intro _ _ _ _ _ h; exfalso; have := h (by omega); omega
      · rw [if_neg c6]; exact ⟨b, rfl, by rw [hbi]; exact ⟨fun h => ⟨⟨by omega, ⟨by omega, by omega⟩, ⟨by omega, by omega⟩, fun _ => by omega⟩, h⟩, fun h => h.2⟩⟩
    · rw [if_neg c5]; exact ⟨b, rfl, by rw [hbi]; exact ⟨fun h => ⟨⟨by omega, ⟨by omega, by omega⟩, ⟨by omega, by omega⟩, fun _ => by omega⟩, h⟩, fun h => h.2⟩⟩
theorem rgood (l : List S64) {k : Nat} (hk : 10 < k) : ∃ b, jobberref08_Good.f k ((l.take 9).map mk3) = some b ∧ (b = true ↔ Good l) := by
  obtain ⟨k, rfl⟩ : ∃ m, k = m + 1 := ⟨k - 1, by omega⟩
  unfold jobberref08_Good.f
  rw [List.length_map, List.length_take]
  split
  · exact ⟨false, by rw [jobberref08_Good.j0, if_pos rfl], by simp; intro h; have := h.lo; omega⟩
  split
  · exact ⟨false, by rw [jobberref08_Good.j0, if_pos rfl], by simp; intro h; have := h.hi; omega⟩
  rw [List.take_of_length_le (by omega)]
  rw [if_pos (by omega), jobberref08_Good.j0]
  simp only [rd_f0]
  by_cases hz : (rd_T64 l 0).f0 = 0
  · obtain ⟨b, hb, hbi⟩ := rgood_loop l (by omega) l.length k 0 (by omega) (by omega) (by omega) (by omega)
    refine ⟨b, ?_, ?_⟩
    · rw [if_neg (by simp [hz])]; exact hb
    · rw [hbi]; exact ⟨fun h => ⟨by omega, by omega, hz, h⟩, fun h => h.row⟩
  · exact ⟨false, by rw [if_pos (by simp [hz])], by simp; intro h; exact hz h.zero⟩
theorem Good.mono {l : List S64} (g : Good l) : ∀ (d : Nat) (i j : Int), 0 ≤ i → j < l.length → j - i = d → 0 < d → (rd_T64 l i).f0 < (rd_T64 l j).f0 := by
  intro d
  induction d with
  | zero => intro i j _ _ _ h; omega
  | succ d ih =>
    intro i j h0 h1 hd _
    have hj := (g.row j (by omega) h1).2.2.2 (by omega)
    by_cases e : d = 0
    · obtain rfl : i = j - 1 := by omega
      exact hj
    · have := ih i (j - 1) h0 (by omega) (by omega) (by omega)
      omega
theorem Good.lt {l : List S64} (g : Good l) {i j : Int} (h0 : 0 ≤ i) (hij : i < j) (h1 : j < l.length) : (rd_T64 l i).f0 < (rd_T64 l j).f0 := g.mono (j - i).toNat i j h0 h1 (by omega) (by omega)
theorem good_take {l : List S64} (g : Good l) : l.take 9 = l := List.take_of_length_le (by have := g.hi; omega)
theorem goodr {l : List S64} (g : Good l) {k : Nat} (hk : 10 < k) : jobberref08_Good.f k (l.map mk3) = some true := by
  obtain ⟨b, hb, hbi⟩ := rgood l hk
  rw [good_take g] at hb
  rw [hb, hbi.2 g]
/-- Where all rows that are left lie above the volume, the reference goes on to the end. -/
theorem row_rest {l : List S64} (g : Good l) {v : Int} (hv : 0 ≤ v) : ∀ (d k : Nat) (i : Int) (x y z : Int), 0 ≤ i → l.length - i = d → 2 * d + 13 < k → (∀ j, i ≤ j → j < l.length → v < (rd_T64 l j).f0) → jobberref08_Row.l0 k (l.map mk3) v i x y z = some (x, y, z) := by
  intro d
  induction d with
  | zero =>
    intro k i x y z h0 hd hk h
    obtain ⟨k, rfl⟩ : ∃ m, k = m + 2 := ⟨k - 2, by omega⟩
    rw [jobberref08_Row.l0, goodr g (by omega)]; simp only [Option.bind_some, if_true]
    rw [if_pos hv, List.length_map, decide_eq_false (by omega), jobberref08_Row.j1, if_neg (by decide)]
  | succ d ih =>
    intro k i x y z h0 hd hk h
    have hn := g.hi
    obtain ⟨k, rfl⟩ : ∃ m, k = m + 2 := ⟨k - 2, by omega⟩
    rw [jobberref08_Row.l0, goodr g (by omega)]; simp only [Option.bind_some, if_true]
    rw [if_pos hv, List.length_map, decide_eq_true (by omega), jobberref08_Row.j1, if_pos rfl, if_pos h0, List.length_map, if_pos (by omega)]
    simp only [rd_f0, rd_f1, rd_f2]
    rw [if_neg (by have := h i (by omega) (by omega); omega), wid (by omega) (by omega)]
    exact ih k (i + 1) x y z (by omega) (by omega) (by omega) (fun j a b => h j (by omega) b)
theorem tier_loop {l : List S64} (g : Good l) {v : Int} (hv : 0 ≤ v) : ∀ (d k k' : Nat) (i : Int) (x y z : Int), 0 ≤ i → l.length - i = d → d < k → 2 * d + 13 < k' → fees_Tier.l0 k v l (l.length : Int) i x y z = jobberref08_Row.l0 k' (l.map mk3) v i x y z ∧ ∃ r, fees_Tier.l0 k v l (l.length : Int) i x y z = some r := by
  intro d
  induction d with
  | zero =>
    intro k k' i x y z h0 hd hk hk'
    obtain ⟨k, rfl⟩ : ∃ m, k = m + 1 := ⟨k - 1, by omega⟩
    rw [fees_Tier.l0, if_neg (by omega)]
    exact ⟨(row_rest g hv 0 k' i x y z h0 hd hk' (fun j a b => by omega)).symm, _, rfl⟩
  | succ d ih =>
    intro k k' i x y z h0 hd hk hk'
    have hn := g.hi
    obtain ⟨k, rfl⟩ : ∃ m, k = m + 1 := ⟨k - 1, by omega⟩
    rw [fees_Tier.l0, if_pos (by omega), if_pos h0, if_pos (by omega)]
    by_cases hc : (rd_T64 l i).f0 > v
    · rw [if_pos hc]
      refine ⟨(row_rest g hv (d + 1) k' i x y z h0 hd hk' (fun j a b => ?_)).symm, _, rfl⟩
      by_cases e : j = i
      · subst e; exact hc
      · have := g.lt h0 (show i < j by omega) b; omega
    · obtain ⟨k', rfl⟩ : ∃ m, k' = m + 2 := ⟨k' - 2, by omega⟩
      rw [if_neg hc, jobberref08_Row.l0, goodr g (by omega)]; simp only [Option.bind_some, if_true]
      rw [if_pos hv, List.length_map, decide_eq_true (by omega), jobberref08_Row.j1, if_pos rfl, if_pos h0, List.length_map, if_pos (by omega)]
      simp only [rd_f0, rd_f1, rd_f2]
      rw [if_pos (by omega), wid (by omega) (by omega)]
      exact ih k k' (i + 1) _ _ _ (by omega) (by omega) (by omega) (by omega)
theorem tier {l : List S64} {v : Int} {k : Nat} (hk : 40 < k) : fees_Tier.f k l v = jobberref08_Row.f k ((l.take 9).map mk3) v ∧ ∃ r, fees_Tier.f k l v = some r := by
  obtain ⟨b, hb, hbi⟩ := good l (k := k) (by omega)
  obtain ⟨k, rfl⟩ : ∃ m, k = m + 2 := ⟨k - 2, by omega⟩
  unfold fees_Tier.f jobberref08_Row.f
  rw [hb]; simp only [Option.bind_some]
  cases b with
  | false =>
    obtain ⟨c, hc, hci⟩ := rgood l (k := k + 1) (by omega)
    have : c = false := by cases c; rfl; exact absurd (hbi.2 (hci.1 rfl)) (by decide)
    subst this
    rw [if_neg (by decide), fees_Tier.j0, if_pos rfl, jobberref08_Row.l0, hc]; simp only [Option.bind_some]
    rw [if_neg (by decide), jobberref08_Row.j1, if_neg (by decide)]
    exact ⟨rfl, _, rfl⟩
  | true =>
    have g := hbi.1 rfl
    have hn := g.hi
    rw [if_pos rfl, fees_Tier.j0]
    by_cases hv : v < 0
    · rw [decide_eq_true hv, if_pos rfl, good_take g, jobberref08_Row.l0, goodr g (by omega)]; simp only [Option.bind_some, if_true]
      rw [if_neg (by omega), jobberref08_Row.j1, if_neg (by decide)]
      exact ⟨rfl, _, rfl⟩
    · rw [decide_eq_false hv, if_neg (by decide), good_take g]
      exact tier_loop g (by omega) l.length (k + 1) (k + 2) 0 0 0 0 (by omega) (by omega) (by omega) (by omega)
theorem lives {k : Nat} (hk : 20 ≤ k) : jobberlaw08_lives.f k = some true := by
  have e : jobberlaw08_lives.f 20 = some true := by decide +kernel
  have m : ∀ d, jobberlaw08_lives.f (20 + d) = some true := by
    intro d
    induction d with
    | zero => exact e
    | succ d ih => exact jobberlaw08_lives.mono _ _ ih
  have := m (k - 20)
  rwa [show 20 + (k - 20) = k by omega] at this
def feeS (n p round : Int) : Int × Int := if n < 0 ∨ n > 4611686018427387904 ∨ ¬ (0 ≤ p ∧ p ≤ 100000) then (0, 2) else divS n p 1000000 round
theorem fee {n p round : Int} {k : Nat} (hk : 3 ≤ k) : fees_Fee.f k n p round = some (feeS n p round) := by
  obtain ⟨b, hb, hbi⟩ := fine p
  unfold Fine at hbi
  unfold fees_Fee.f feeS
  by_cases c0 : n < 0
  · rw [if_pos c0, if_pos (Or.inl c0)]
  rw [if_neg c0]
  by_cases c1 : n > 4611686018427387904
  · rw [if_pos c1, if_pos (Or.inr (Or.inl c1))]
  rw [if_neg c1, hb]; simp only [Option.bind_some]
  cases b with
  | false => rw [if_neg (by decide), if_pos (Or.inr (Or.inr fun h => absurd (hbi.2 h) (by decide)))]
  | true =>
    have := hbi.1 rfl
    rw [if_pos rfl, if_neg (by omega), div (by unfold I64; omega) (by unfold I64; omega) (by unfold I64; omega) hk]; rfl
theorem reffee {n p round : Int} : jobberref08_Fee.f n p round = some (feeS n p round) := by
  unfold jobberref08_Fee.f feeS
  by_cases c0 : n < 0
  · rw [if_pos c0, if_pos (Or.inl c0)]
  by_cases c1 : n > 4611686018427387904
  · rw [if_neg c0, if_pos c1, if_pos (Or.inr (Or.inl c1))]
  by_cases c2 : p < 0
  · rw [if_neg c0, if_neg c1, if_pos c2, if_pos (Or.inr (Or.inr (by omega)))]
  by_cases c3 : p > 100000
  · rw [if_neg c0, if_neg c1, if_neg c2, if_pos c3, if_pos (Or.inr (Or.inr (by omega)))]
  rw [if_neg c0, if_neg c1, if_neg c2, if_neg c3, if_neg (show ¬ (n < 0 ∨ n > 4611686018427387904 ∨ ¬ (0 ≤ p ∧ p ≤ 100000)) by omega)]
  by_cases c4 : round < 1
  · rw [if_pos c4]; unfold divS; rw [if_pos (Or.inl c4)]
  by_cases c5 : round > 3
  · rw [if_neg c4, if_pos c5]; unfold divS; rw [if_pos (Or.inr c5)]
  rw [if_neg c4, if_neg c5, ref_div (by unfold I64; omega) (by unfold I64; omega) (by unfold I64; omega)]; rfl
theorem of_eq {l : List S64} {v n role round : Int} {k : Nat} (hk : 45 < k) : ∃ r, fees_Of.f k l v n role round = some r ∧ jobberref08_Of.f k ((l.take 9).map mk3) v n role round = some r := by
  obtain ⟨b, hb, hbi⟩ := good l (k := k) (by omega)
  obtain ⟨c, hc, hci⟩ := rgood l (k := k) (by omega)
  have hbc : b = c := by rw [Bool.eq_iff_iff, hbi, hci]
  subst hbc
  obtain ⟨k, rfl⟩ : ∃ m, k = m + 1 := ⟨k - 1, by omega⟩
  obtain ⟨t1, r, hr⟩ := tier (l := l) (v := v) (k := k) (by omega)
  obtain ⟨t2, r2, hr2⟩ := tier (l := l) (v := v) (k := k + 1) (by omega)
  have hrr : r2 = r := by
    have := fees_Tier.mono l v k r hr
    rw [hr2] at this
    exact Option.some.inj this
  subst hrr
  unfold fees_Of.f jobberref08_Of.f
  rw [hb, hc]; simp only [Option.bind_some]
  cases b with
  | false => exact ⟨(0, 43), rfl, rfl⟩
  | true =>
    rw [if_pos rfl, if_pos rfl]
    by_cases c1 : v < 0
    · rw [if_pos c1, if_pos c1, jobberref08_Of.j0, if_pos rfl]; exact ⟨_, rfl, rfl⟩
    rw [if_neg c1, if_neg c1, hr2]; simp only [Option.bind_some]
    by_cases c2 : role < 1
    · rw [if_pos c2, jobberref08_Of.j0, if_pos rfl, if_neg (by omega), if_neg (by omega)]; exact ⟨_, rfl, rfl⟩
    by_cases c3 : role > 2
    · rw [if_neg c2, decide_eq_true c3, jobberref08_Of.j0, if_pos rfl, if_neg (by omega), if_neg (by omega)]; exact ⟨_, rfl, rfl⟩
    rw [if_neg c2, decide_eq_false c3, jobberref08_Of.j0, if_neg Bool.false_ne_true, ← t1, hr]; simp only [Option.bind_some]
    by_cases c4 : role = 1
    · subst c4; simp only [if_true]; rw [fee (by omega), reffee]; exact ⟨_, rfl, rfl⟩
    · have c5 : role = 2 := by omega
      subst c5; simp only [if_true, show ¬ ((2 : Int) = 1) from by decide, if_false]; rw [fee (by omega), reffee]; exact ⟨_, rfl, rfl⟩
theorem costs (l : List S64) (v n role round : Int) : ∃ k, jobberlaw08_FeesCost.f k l v n role round = some true := by
  refine ⟨50, ?_⟩
  obtain ⟨r, h1, h2⟩ := of_eq (l := l) (v := v) (n := n) (role := role) (round := round) (k := 50) (by omega)
  unfold jobberlaw08_FeesCost.f
  rw [plain l (by omega), h1]; simp only [Option.bind_some]
  rw [h2, fee (by omega), reffee]
  simp only [Option.bind_some, if_true]
  rw [lives (by omega)]; rfl
end Go.Proofs.Ythaaghkplbbgdaa.Feb.M
