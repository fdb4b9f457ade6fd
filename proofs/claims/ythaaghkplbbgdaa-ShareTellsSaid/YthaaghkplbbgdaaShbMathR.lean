/- The document's quotient is the program's, on numbers. -/
import Derived.Test.YthaaghkplbbgdaaShbMathA
namespace Go.Proofs.Ythaaghkplbbgdaa.Shb.M
open Go.RowKit Go.Proofs.Ythaaghkplbbgdaa.Shb Go.Proofs.YthaaghkplbbgdaaW.PrintWords Go.Proofs.YthaaghkplbbgdaaW.PrintLast
set_option linter.unusedVariables false
set_option linter.unusedSimpArgs false
theorem ab_nat (x : Int) : ab x = (x.natAbs : Int) := by unfold ab; split <;> omega
theorem pr_nat (a b : Int) : pr a b = ((a.natAbs * b.natAbs : Nat) : Int) := by unfold pr; rw [ab_nat, ab_nat]; simp
theorem told_sgn {n : Bool} {q : Int} (h : 0 ≤ q) : toldV (if n then -q else q) = sgn n q := by
  unfold toldV sgn
  cases n
  · simp only [Bool.false_eq_true, if_false, and_false]
    by_cases c : q < 9223372036854775808
    · rw [if_pos (by omega), if_pos c]
    · rw [if_neg (by omega), if_neg c]
  · simp only [if_true, and_true]
    by_cases c : q < 9223372036854775808
    · rw [if_pos (by omega), if_pos c]
    · rw [if_neg c]
      by_cases d : q = 9223372036854775808
      · subst d; decide
      · rw [if_neg d, if_neg (by omega)]
theorem neg_eq (a b : Int) : ((decide (a < 0) != decide (b < 0)) && !decide (a.natAbs * b.natAbs = 0)) = pneg a b := by
  unfold pneg
  rw [pr_nat]
  congr 1
  rw [Bool.eq_iff_iff]
  simp only [Bool.not_eq_true', decide_eq_false_iff_not, ne_eq, decide_eq_true_eq]
  omega
theorem away_eq {r0 d q0 : Nat} {ng : Bool} {r : Int} (hd : 0 < d) (h1 : 1 ≤ r) (h3 : r ≤ 3) : divAway r0 d q0 ng r = awayS r ng r0 d q0 := by
  unfold divAway awayS
  by_cases z : r0 = 0
  · subst z
    rw [if_pos rfl]
    repeat' split
    · simp
    · simp
    · symm
      rw [Bool.or_eq_false_iff, Bool.and_eq_false_iff]
      exact ⟨decide_eq_false (by omega), .inl (decide_eq_false (by omega))⟩
  · rw [if_neg z]
    have hz : decide ((r0 : Int) ≠ 0) = true := decide_eq_true (by omega)
    repeat' split
    · rw [hz]; simp
    · rw [hz]; simp
    · have e1 : decide (d < 2 * r0) = decide (2 * (r0 : Int) > (d : Int)) := by rw [Bool.eq_iff_iff]; simp only [decide_eq_true_eq]; omega
      have e3 : q0.testBit 0 = decide ((q0 : Int) % 2 = 1) := by
        rw [Nat.testBit_zero, Bool.eq_iff_iff]; simp only [decide_eq_true_eq]; omega
      rw [e1, e3]
      cases hc : decide (2 * (r0 : Int) > (d : Int))
      · have hc := of_decide_eq_false hc
        have e2 : (!decide (2 * r0 < d)) = decide (2 * (r0 : Int) = (d : Int)) := by
          rw [Bool.eq_iff_iff]; simp only [Bool.not_eq_true', decide_eq_false_iff_not, decide_eq_true_eq]; omega
        rw [e2]
      · rfl
theorem ref_div {a b c r : Int} (ha : I64 a) (hb : I64 b) (hc : I64 c) : jobberref01_Div.f a b c r = some (divS a b c r) := by
  unfold jobberref01_Div.f divS
  rw [if_pos ⟨ha, hb, hc⟩]
  by_cases h1 : r < 1 ∨ 3 < r
  · rw [if_pos h1, if_pos (by omega)]
  rw [if_neg h1, if_neg (show ¬ (r < 1 ∨ r > 3) by omega)]
  by_cases hz : c = 0
  · rw [if_pos hz, if_pos hz]
  rw [if_neg hz, if_neg hz]
  have hd : 0 < c.natAbs := by omega
  unfold divV divNeg
  rw [neg_eq]
  obtain ⟨ng, hng⟩ : ∃ n, (pneg a b != decide (c < 0)) = n := ⟨_, rfl⟩
  rw [hng, away_eq hd (by omega) (by omega), pr_nat, ab_nat]
  have e1 : (((a.natAbs * b.natAbs / c.natAbs : Nat)) : Int) = ((a.natAbs * b.natAbs : Nat) : Int) / (c.natAbs : Int) := by simp
  have e2 : (((a.natAbs * b.natAbs % c.natAbs : Nat)) : Int) = ((a.natAbs * b.natAbs : Nat) : Int) % (c.natAbs : Int) := by simp
  rw [← e1, ← e2]
  obtain ⟨q, hq⟩ : ∃ q, a.natAbs * b.natAbs / c.natAbs = q := ⟨_, rfl⟩
  rw [hq]
  congr 1
  cases awayS r ng ((a.natAbs * b.natAbs % c.natAbs : Nat) : Int) (c.natAbs : Int) (q : Int)
  · have := told_sgn (n := ng) (q := (q : Int)) (by omega)
    simpa using this
  · have := told_sgn (n := ng) (q := (q : Int) + 1) (by omega)
    simpa using this
end Go.Proofs.Ythaaghkplbbgdaa.Shb.M
