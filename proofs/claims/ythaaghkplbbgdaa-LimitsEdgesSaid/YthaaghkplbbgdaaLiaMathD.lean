/- The edges of a band, and what a band says of a price: the program's, the document's, and that both fit, on numbers. -/
import Derived.Test.YthaaghkplbbgdaaLiaMathC
namespace Go.Proofs.Ythaaghkplbbgdaa.Lia.M
open Go.RowKit Go.Proofs.Ythaaghkplbbgdaa.Lia Go.Proofs.YthaaghkplbbgdaaW.PrintWords Go.Proofs.YthaaghkplbbgdaaW.PrintLast
set_option linter.unusedVariables false
set_option linter.unusedSimpArgs false
theorem way_le {a b : Int} (ha : 0 < a) (hb : 0 < b) (hb1 : b ≤ 1000000) : 0 ≤ a * b / 1000000 ∧ a * b / 1000000 ≤ a := by
  have h1 : 0 ≤ a * b := Int.mul_nonneg (by omega) (by omega)
  have h2 : a * b ≤ a * 1000000 := Int.mul_le_mul_of_nonneg_left hb1 (by omega)
  exact ⟨Int.ediv_nonneg h1 (by omega), by omega⟩
theorem div_way {a b : Int} (ha : 0 < a) (ha1 : a ≤ 1099511627776) (hb : 0 < b) (hb1 : b ≤ 1000000) : divS a b 1000000 1 = (a * b / 1000000, 0) := by
  have hw := way_le ha hb hb1
  have e1 : pneg a b = false := by unfold pneg; rw [decide_eq_false (by omega), decide_eq_false (by omega)]; rfl
  have e2 : pr a b = a * b := by unfold pr ab; rw [if_neg (by omega), if_neg (by omega)]
  have e3 : ab (1000000 : Int) = 1000000 := rfl
  unfold divS
  rw [if_neg (by omega), if_neg (by omega), e1, e2, e3]
  have e4 : (false != decide ((1000000 : Int) < 0)) = false := by decide
  rw [e4]
  have e5 : awayS 1 false (a * b % 1000000) 1000000 (a * b / 1000000) = false := rfl
  rw [e5, if_neg (by decide)]
  unfold sgn
  rw [if_pos (by omega), if_neg (by decide)]
open Classical in
noncomputable def edgesV (a0 a1 : Int) : Int × Int := if Wrong a0 a1 then (0, 0) else if a0 = 0 ∨ a1 = 0 then (1, 1099511627776) else (mx (a0 - a0 * a1 / 1000000) 1, mn (a0 + a0 * a1 / 1000000) 1099511627776)
theorem edges_no {a0 a1 : Int} (w : Wrong a0 a1) : edgesV a0 a1 = (0, 0) := if_pos w
theorem edges_one {a0 a1 : Int} (w : ¬ Wrong a0 a1) (h : a0 = 0 ∨ a1 = 0) : edgesV a0 a1 = (1, 1099511627776) := by unfold edgesV; rw [if_neg w, if_pos h]
theorem edges_way {a0 a1 : Int} (w : ¬ Wrong a0 a1) (h : ¬ (a0 = 0 ∨ a1 = 0)) : edgesV a0 a1 = (mx (a0 - a0 * a1 / 1000000) 1, mn (a0 + a0 * a1 / 1000000) 1099511627776) := by unfold edgesV; rw [if_neg w, if_neg h]
theorem edges {a0 a1 : Int} {k : Nat} (hk : 3 ≤ k) : limits_Edges.f k a0 a1 = some (edgesV a0 a1) := by
  unfold limits_Edges.f
  by_cases w : Wrong a0 a1
  · rw [may_no w, edges_no w]; rfl
  · rw [may_yes w]; simp only [Option.bind_some, if_true]
    by_cases e : a0 = 0
    · rw [if_pos e, edges_one w (Or.inl e)]
    by_cases f : a1 = 0
    · rw [if_neg e, if_pos f, edges_one w (Or.inr f)]
    have w' := w
    unfold Wrong at w'
    rw [if_neg e, if_neg f, edges_way w (by omega), div (by unfold I64; omega) (by unfold I64; omega) (by unfold I64; omega) hk, div_way (by omega) (by omega) (by omega) (by omega)]
    simp only [Option.bind_some]
    have hw := way_le (a := a0) (b := a1) (by omega) (by omega) (by omega)
    rw [wid (x := a0 - a0 * a1 / 1000000) (by omega) (by omega), wid (x := a0 + a0 * a1 / 1000000) (by omega) (by omega)]
theorem refedges {a0 a1 : Int} (k : Nat) : jobberref07_Edges.f (k + 1) a0 a1 = some (edgesV a0 a1) := by
  unfold jobberref07_Edges.f
  by_cases w : Wrong a0 a1
  · rw [wrong_no w, edges_no w]; rfl
  · rw [wrong_yes w]; simp only [Option.bind_some]
    rw [if_neg (by decide)]
    by_cases e : a0 = 0
    · rw [if_pos e, edges_one w (Or.inl e), jobberref07_Edges.j0, if_pos rfl]
    by_cases f : a1 = 0
    · rw [if_neg e, beq_iff_eq.mpr f, edges_one w (Or.inr f), jobberref07_Edges.j0, if_pos rfl]
    have w' := w
    unfold Wrong at w'
    rw [if_neg e, beq_eq_false_iff_ne.mpr f, edges_way w (by omega), jobberref07_Edges.j0, if_neg (by decide), ref_div (by unfold I64; omega) (by unfold I64; omega) (by unfold I64; omega), div_way (by omega) (by omega) (by omega) (by omega)]
    simp only [Option.bind_some]
    have hw := way_le (a := a0) (b := a1) (by omega) (by omega) (by omega)
    rw [wid (x := a0 - a0 * a1 / 1000000) (by omega) (by omega), wid (x := a0 + a0 * a1 / 1000000) (by omega) (by omega)]
    obtain ⟨q, hq⟩ : ∃ q, a0 * a1 / 1000000 = q := ⟨_, rfl⟩
    rw [hq]
    unfold mx mn
    repeat' split
    all_goals first | rfl | omega | (congr 2; omega)
theorem band_in {a0 a1 a2 : Int} (w : ¬ Wrong a0 a2) (h : ¬ (a0 = 0 ∨ a2 = 0)) (h1 : 1 ≤ a1) (h2 : a1 ≤ 1099511627776) : (bandV a0 a1 a2 == 0) = (decide (a0 - a0 * a2 / 1000000 ≤ a1) && decide (a1 ≤ a0 + a0 * a2 / 1000000)) := by
  rw [band_far (fun c => by rcases c with c | c | c; exact w c; omega; omega) h]
  obtain ⟨P, hP⟩ : ∃ P, a0 * a2 = P := ⟨_, rfl⟩
  rw [hP]
  rw [Bool.eq_iff_iff]
  simp only [Bool.and_eq_true, decide_eq_true_eq, beq_iff_eq]
  unfold ab
  repeat' split
  all_goals omega
theorem edgesLaw {a b c : Int} : ∃ k, jobberlaw07_LimitsEdges.f k a b c = some true := by
  refine ⟨30, ?_⟩
  have lv : ∀ k, 20 ≤ k → ((jobberlaw07_lives.f k).bind fun t => some t) = some true := fun k hk => by rw [lives hk]; rfl
  unfold jobberlaw07_LimitsEdges.f
  rw [edges (by omega), refedges 29]
  simp only [Option.bind_some, if_true, bne_self_eq_false]
  rw [jobberlaw07_LimitsEdges.j0, if_neg (by decide)]
  have two : ∀ {x : Bool}, x = true → bandV a c b = 2 → jobberlaw07_LimitsEdges.j1 29 a b c (edgesV a b).1 (edgesV a b).2 x = some true := fun hx hb => by
    rw [hx, jobberlaw07_LimitsEdges.j1, if_pos rfl, band, hb]; simp only [Option.bind_some, if_true]
    exact lv _ (by omega)
  by_cases c1 : c < 1
  · rw [if_pos c1]; exact two rfl (band_two (Or.inr (Or.inl c1)))
  by_cases c2 : c > 1099511627776
  · rw [if_neg c1, if_pos c2]; exact two rfl (band_two (Or.inr (Or.inr c2)))
  rw [if_neg c1, if_neg c2]
  by_cases w : Wrong a b
  · exact two (by rw [edges_no w]; rfl) (band_two (Or.inl w))
  have hN : ¬ (Wrong a b ∨ c < 1 ∨ 1099511627776 < c) := fun h => by rcases h with h | h | h; exact w h; exact c1 h; exact c2 h
  by_cases z : a = 0 ∨ b = 0
  · rw [edges_one w z]
    have e0 : ((1099511627776 : Int) == 0) = false := by decide
    dsimp only
    rw [e0, jobberlaw07_LimitsEdges.j1, if_neg (by decide), band, band_nought hN z]
    simp only [Option.bind_some]
    rw [if_pos (by omega), decide_eq_true (by omega), if_pos (by decide)]
    exact lv _ (by omega)
  · have w' := w
    unfold Wrong at w'
    have hw := way_le (a := a) (b := b) (by omega) (by omega) (by omega)
    have hb := band_in (a1 := c) w z (by omega) (by omega)
    rw [edges_way w z]
    obtain ⟨q, hq⟩ : ∃ q, a * b / 1000000 = q := ⟨_, rfl⟩
    rw [hq] at hw hb ⊢
    dsimp only
    have e0 : (mn (a + q) 1099511627776 == 0) = false := beq_eq_false_iff_ne.mpr (by unfold mn; split <;> omega)
    rw [e0, jobberlaw07_LimitsEdges.j1, if_neg (by decide), band]
    simp only [Option.bind_some]
    rw [hb]
    by_cases d1 : c ≥ mx (a - q) 1
    · rw [if_pos d1]
      have d2 : a - q ≤ c := by unfold mx at d1; split at d1 <;> omega
      rw [decide_eq_true d2, Bool.true_and]
      have e3 : decide (c ≤ a + q) = decide (c ≤ mn (a + q) 1099511627776) := by
        rw [Bool.eq_iff_iff]; simp only [decide_eq_true_eq]; unfold mn; split <;> omega
      rw [e3, if_pos (by simp)]
      exact lv _ (by omega)
    · rw [if_neg d1]
      have d2 : ¬ a - q ≤ c := by unfold mx at d1; split at d1 <;> omega
      rw [decide_eq_false d2, Bool.false_and, if_pos (by decide)]
      exact lv _ (by omega)
end Go.Proofs.Ythaaghkplbbgdaa.Lia.M
