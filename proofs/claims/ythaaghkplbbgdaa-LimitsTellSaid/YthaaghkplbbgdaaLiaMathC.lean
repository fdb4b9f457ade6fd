/- Lots, bands and edges: what the program tells, and what the document tells, on numbers. -/
import Derived.Test.YthaaghkplbbgdaaLiaMathB
namespace Go.Proofs.Ythaaghkplbbgdaa.Lia.M
open Go.RowKit Go.Proofs.Ythaaghkplbbgdaa.Lia Go.Proofs.YthaaghkplbbgdaaW.PrintWords Go.Proofs.YthaaghkplbbgdaaW.PrintLast
set_option linter.unusedVariables false
set_option linter.unusedSimpArgs false
theorem lives {k : Nat} (hk : 20 ≤ k) : jobberlaw07_lives.f k = some true := by
  have e : jobberlaw07_lives.f 20 = some true := by decide +kernel
  have m : ∀ d, jobberlaw07_lives.f (20 + d) = some true := by
    intro d
    induction d with
    | zero => exact e
    | succ d ih => exact jobberlaw07_lives.mono _ _ ih
  have := m (k - 20)
  rwa [show 20 + (k - 20) = k by omega] at this
theorem lv {k : Nat} (hk : 20 ≤ k) : ((jobberlaw07_lives.f k).bind fun t128 => (some t128)) = some true := by rw [lives hk]; rfl
theorem lot_eq (k : Nat) (a b : Int) : ∃ r, limits_Lot.f (k + 1) a b = some r ∧ jobberref07_Lot.f (k + 1) a b = some r := by
  have e : ∀ x, limits_Lot.j0 (k + 1) a b x = jobberref07_Lot.j0 (k + 1) a b x := fun x => rfl
  unfold limits_Lot.f jobberref07_Lot.f
  by_cases c : a < 1
  · rw [if_pos c, if_pos c]
    exact ⟨2, by rw [limits_Lot.j0, if_pos rfl], by rw [jobberref07_Lot.j0, if_pos rfl]⟩
  · rw [if_neg c, if_neg c, ← e]
    have h : ∃ r, limits_Lot.j0 (k + 1) a b (decide (a > 1099511627776)) = some r := by
      rw [limits_Lot.j0]
      repeat' split
      all_goals first | exact ⟨_, rfl⟩ | omega
    obtain ⟨r, hr⟩ := h
    exact ⟨r, hr, hr⟩
theorem trim_eq {a b : Int} (hb : I64 b) : ∃ r, limits_Trim.f a b = some r ∧ jobberref07_Trim.f a b = some r := by
  unfold limits_Trim.f jobberref07_Trim.f
  by_cases c : a < 1
  · exact ⟨0, by rw [if_pos (by unfold mn; split <;> omega)], by rw [if_pos c]⟩
  by_cases d : b < 1
  · exact ⟨0, by rw [if_pos (by unfold mn; split <;> omega)], by rw [if_neg c, if_pos d]⟩
  have h0 := Int.emod_nonneg b (show a ≠ 0 by omega)
  have hd := Int.emod_add_mul_ediv b a
  have hq := Int.ediv_nonneg (show 0 ≤ b by omega) (show 0 ≤ a by omega)
  have hm := Int.mul_nonneg (show 0 ≤ a by omega) hq
  have hle : b / a ≤ b := Int.ediv_le_self _ (by omega)
  unfold I64 at hb
  refine ⟨b - b % a, ?_, ?_⟩
  · rw [if_neg (by unfold mn; split <;> omega), if_neg (by omega), Int.tmod_eq_emod_of_nonneg (by omega), wid (by omega) (by omega)]
  · rw [if_neg c, if_neg d, if_neg (by omega), Int.tdiv_eq_ediv_of_nonneg (by omega), wid (x := b / a) (by omega) (by omega), Int.mul_comm, wid (by omega) (by omega)]
    congr 1
    omega
theorem prod_eq (a b : Int) : a * b = if pneg a b then -(pr a b) else pr a b := by
  have hp : pr a b = a * b ∧ (a < 0 ↔ b < 0) ∨ pr a b = -(a * b) ∧ ¬ (a < 0 ↔ b < 0) := by
    unfold pr ab
    by_cases c1 : a < 0 <;> by_cases c2 : b < 0
    · rw [if_pos c1, if_pos c2]; exact .inl ⟨Int.neg_mul_neg a b, by simp [c1, c2]⟩
    · rw [if_pos c1, if_neg c2]; exact .inr ⟨Int.neg_mul a b, by simp [c1, c2]⟩
    · rw [if_neg c1, if_pos c2]; exact .inr ⟨Int.mul_neg a b, by simp [c1, c2]⟩
    · rw [if_neg c1, if_neg c2]; exact .inl ⟨rfl, by simp [c1, c2]⟩
  unfold pneg
  rcases hp with ⟨h1, h2⟩ | ⟨h1, h2⟩
  · have e : (decide (a < 0) != decide (b < 0)) = false := by simp [h2]
    rw [e, h1]; simp
  · have e : (decide (a < 0) != decide (b < 0)) = true := by
      by_cases c1 : a < 0 <;> by_cases c2 : b < 0 <;> simp [c1, c2] at h2 ⊢
    rw [e, h1]
    by_cases z : a * b = 0
    · rw [z]; simp
    · rw [if_pos (by simpa using z)]; omega
theorem pneg_nz {a b : Int} (h : pneg a b = true) : pr a b ≠ 0 := by
  unfold pneg at h
  rw [Bool.and_eq_true] at h
  exact of_decide_eq_true h.2
theorem sm_eq {p q : Int} (hp : 0 ≤ p) (hq : 0 ≤ q) : smW (p / 18446744073709551616) (p % 18446744073709551616) (q / 18446744073709551616) (q % 18446744073709551616) = decide (p < q) := by
  unfold smW
  rw [Bool.eq_iff_iff]
  simp only [Bool.or_eq_true, Bool.and_eq_true, decide_eq_true_eq, beq_iff_eq]
  omega
theorem less_eq {a b c d : Int} (ha : I64 a) (hb : I64 b) (hc : I64 c) (hd : I64 d) : coin_Less.f a b c d = some (decide (a * b < c * d)) := by
  have z1 := pr_range ha hb
  have z2 := pr_range hc hd
  have p1 := prod_eq a b
  have p2 := prod_eq c d
  have n1 := @pneg_nz a b
  have n2 := @pneg_nz c d
  unfold coin_Less.f
  rw [times ha hb]; simp only [Option.bind_some]
  rw [times hc hd]; simp only [Option.bind_some]
  rw [sm_eq z2.1 z1.1, sm_eq z1.1 z2.1]
  congr 1
  cases e1 : pneg a b <;> cases e2 : pneg c d <;> rw [e1] at p1 n1 <;> rw [e2] at p2 n2 <;> simp at p1 p2 n1 n2 ⊢ <;> rw [p1, p2]
  all_goals omega
theorem refless_eq {a b c d : Int} (ha : I64 a) (hb : I64 b) (hc : I64 c) (hd : I64 d) : jobberref01_Less.f a b c d = some (decide (a * b < c * d)) := if_pos ⟨ha, hb, hc, hd⟩
def Wrong (a0 a2 : Int) : Prop := a0 < 0 ∨ a2 < 0 ∨ 1099511627776 < a0 ∨ 1000000 < a2
theorem may_no {a b : Int} (h : Wrong a b) : limits_may.f a b = some false := by
  unfold limits_may.f
  unfold Wrong at h
  by_cases c : mn a b ≥ 0
  · rw [if_pos c]
    have : 0 ≤ a ∧ 0 ≤ b := by unfold mn at c; split at c <;> omega
    by_cases d : a ≤ 1099511627776
    · rw [if_pos d, decide_eq_false (by omega)]
    · rw [if_neg d]
  · rw [if_neg c]
theorem may_yes {a b : Int} (h : ¬ Wrong a b) : limits_may.f a b = some true := by
  unfold limits_may.f
  unfold Wrong at h
  rw [if_pos (by unfold mn; split <;> omega), if_pos (by omega), decide_eq_true (by omega)]
theorem wrong_no {a b : Int} (h : Wrong a b) : jobberref07_wrong.f a b = some true := by
  unfold jobberref07_wrong.f
  unfold Wrong at h
  repeat' split
  all_goals first | rfl | (rw [decide_eq_true (by omega)])
theorem wrong_yes {a b : Int} (h : ¬ Wrong a b) : jobberref07_wrong.f a b = some false := by
  unfold jobberref07_wrong.f
  unfold Wrong at h
  rw [if_neg (by omega), if_neg (by omega), if_neg (by omega), decide_eq_false (by omega)]
open Classical in
noncomputable def bandV (a0 a1 a2 : Int) : Int := if Wrong a0 a2 ∨ a1 < 1 ∨ 1099511627776 < a1 then 2 else if a0 = 0 ∨ a2 = 0 then 0 else if a0 * a2 < ab (a1 - a0) * 1000000 then 42 else 0
theorem band_two {a0 a1 a2 : Int} (h : Wrong a0 a2 ∨ a1 < 1 ∨ 1099511627776 < a1) : bandV a0 a1 a2 = 2 := if_pos h
theorem band_nought {a0 a1 a2 : Int} (h : ¬ (Wrong a0 a2 ∨ a1 < 1 ∨ 1099511627776 < a1)) (h2 : a0 = 0 ∨ a2 = 0) : bandV a0 a1 a2 = 0 := by
  unfold bandV
  rw [if_neg h, if_pos h2]
theorem band_far {a0 a1 a2 : Int} (h : ¬ (Wrong a0 a2 ∨ a1 < 1 ∨ 1099511627776 < a1)) (h2 : ¬ (a0 = 0 ∨ a2 = 0)) : bandV a0 a1 a2 = if a0 * a2 < ab (a1 - a0) * 1000000 then 42 else 0 := by
  unfold bandV
  rw [if_neg h, if_neg h2]
theorem mx_ab {x y : Int} (hx : -1099511627776 ≤ x ∧ x ≤ 1099511627776) (hy : -1099511627776 ≤ y ∧ y ≤ 1099511627776) : mx (wrap64 (x - y)) (wrap64 (y - x)) = ab (x - y) := by
  rw [wid (by omega) (by omega), wid (by omega) (by omega)]
  unfold mx ab
  repeat' split
  all_goals omega
theorem band {a0 a1 a2 : Int} : limits_Band.f a0 a1 a2 = some (bandV a0 a1 a2) := by
  unfold limits_Band.f
  by_cases w : Wrong a0 a2
  · rw [may_no w, band_two (Or.inl w)]; rfl
  · rw [may_yes w]; simp only [Option.bind_some, if_true]
    by_cases c : a1 < 1
    · rw [if_pos c, band_two (Or.inr (Or.inl c))]
    by_cases d : a1 > 1099511627776
    · rw [if_neg c, if_pos d, band_two (Or.inr (Or.inr d))]
    have hN := (show ¬ (Wrong a0 a2 ∨ a1 < 1 ∨ 1099511627776 < a1) from fun h => by rcases h with h | h | h; exact w h; exact c h; exact d h)
    rw [if_neg c, if_neg d]
    by_cases e : a0 = 0
    · rw [if_pos e, band_nought hN (Or.inl e)]
    by_cases f : a2 = 0
    · rw [if_neg e, if_pos f, band_nought hN (Or.inr f)]
    rw [if_neg e, if_neg f, band_far hN (by omega)]
    unfold Wrong at w
    have hab : 0 ≤ ab (a1 - a0) ∧ ab (a1 - a0) ≤ 1099511627776 := by unfold ab; split <;> omega
    rw [mx_ab (by omega) (by omega), less_eq (by unfold I64; omega) (by unfold I64; omega) (by unfold I64; omega) (by unfold I64; omega)]
    simp only [Option.bind_some, decide_eq_true_eq]
    split <;> rfl
theorem refband {a0 a1 a2 : Int} (k : Nat) : jobberref07_Band.f (k + 2) a0 a1 a2 = some (bandV a0 a1 a2) := by
  unfold jobberref07_Band.f
  by_cases w : Wrong a0 a2
  · rw [wrong_no w, band_two (Or.inl w)]; simp only [Option.bind_some, if_true]
    rw [jobberref07_Band.j0, if_pos rfl]
  · rw [wrong_yes w]; simp only [Option.bind_some]
    rw [if_neg (by decide)]
    by_cases c : a1 < 1
    · rw [if_pos c, band_two (Or.inr (Or.inl c)), jobberref07_Band.j0, if_pos rfl]
    by_cases d : a1 > 1099511627776
    · rw [if_neg c, decide_eq_true d, band_two (Or.inr (Or.inr d)), jobberref07_Band.j0, if_pos rfl]
    rw [if_neg c, decide_eq_false d, jobberref07_Band.j0, if_neg (by decide)]
    have hN := (show ¬ (Wrong a0 a2 ∨ a1 < 1 ∨ 1099511627776 < a1) from fun h => by rcases h with h | h | h; exact w h; exact c h; exact d h)
    by_cases e : a0 = 0
    · rw [if_pos e, band_nought hN (Or.inl e), jobberref07_Band.j1, if_pos rfl]
    by_cases f : a2 = 0
    · rw [if_neg e, beq_iff_eq.mpr f, band_nought hN (Or.inr f), jobberref07_Band.j1, if_pos rfl]
    rw [if_neg e, beq_eq_false_iff_ne.mpr f, band_far hN (by omega), jobberref07_Band.j1, if_neg (by decide)]
    unfold Wrong at w
    have hw : wrap64 (a1 - a0) = a1 - a0 := wid (by omega) (by omega)
    rw [hw]
    by_cases g : a1 - a0 < 0
    · rw [if_pos g, wid (x := -(a1 - a0)) (by omega) (by omega), show ab (a1 - a0) = -(a1 - a0) from if_pos g]
      rw [refless_eq (by unfold I64; omega) (by unfold I64; omega) (by unfold I64; omega) (by unfold I64; omega)]
      simp only [Option.bind_some, decide_eq_true_eq]
      split <;> rfl
    · rw [if_neg g, show ab (a1 - a0) = a1 - a0 from if_neg g]
      rw [refless_eq (by unfold I64; omega) (by unfold I64; omega) (by unfold I64; omega) (by unfold I64; omega)]
      simp only [Option.bind_some, decide_eq_true_eq]
      split <;> rfl
theorem tells {a b c d e : Int} (hb : I64 b) : ∃ k, jobberlaw07_LimitsTell.f k a b c d e = some true := by
  refine ⟨30, ?_⟩
  obtain ⟨r, h1, h2⟩ := lot_eq 29 a b
  obtain ⟨t, h3, h4⟩ := trim_eq (a := a) hb
  unfold jobberlaw07_LimitsTell.f
  rw [h1, h2, h3, h4, band, refband 28]
  simp only [Option.bind_some, if_true]
  rw [lives (by omega)]; rfl
end Go.Proofs.Ythaaghkplbbgdaa.Lia.M
