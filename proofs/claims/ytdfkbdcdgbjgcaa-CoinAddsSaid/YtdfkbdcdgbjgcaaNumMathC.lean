/- Sums, differences and products: the program's and the document's, on numbers. -/
import Derived.Test.YtdfkbdcdgbjgcaaNumMathB
namespace Go.Proofs.Ytdfkbdcdgbjgcaa.Num.M
open Go.RowKit Go.Proofs.Ytdfkbdcdgbjgcaa.Num Go.Proofs.YtdfkbdcdgbjgcaaW.PrintWords Go.Proofs.YtdfkbdcdgbjgcaaW.PrintLast
set_option linter.unusedVariables false
set_option linter.unusedSimpArgs false
theorem told_in {v : Int} (h : I64 v) : toldV v = (v, 0) := if_pos h
theorem told_out {v : Int} (h : ¬ I64 v) : toldV v = (0, 10) := if_neg h
theorem add_eq {a b : Int} (ha : I64 a) (hb : I64 b) : coin_Add.f a b = some (toldV (a + b)) := by
  unfold coin_Add.f
  by_cases h : I64 (a + b)
  · rw [told_in h, wid h.1 h.2]
    unfold I64 at ha hb h
    by_cases c1 : a < 0 <;> by_cases c2 : b < 0 <;> by_cases c3 : a + b < 0 <;> simp [c1, c2, c3] <;> omega
  · rw [told_out h]
    unfold I64 at ha hb h
    by_cases c1 : a < 0
    · have e : wrap64 (a + b) = a + b + 18446744073709551616 := by unfold wrap64; omega
      have c2 : b < 0 := by omega
      have c3 : ¬ a + b + 18446744073709551616 < 0 := by omega
      rw [e]
      simp [c1, c2, c3]
    · have e : wrap64 (a + b) = a + b - 18446744073709551616 := by unfold wrap64; omega
      have c2 : ¬ b < 0 := by omega
      have c3 : a + b - 18446744073709551616 < 0 := by omega
      rw [e]
      simp [c1, c2, c3]
theorem sub_eq {a b : Int} (ha : I64 a) (hb : I64 b) : coin_Sub.f a b = some (toldV (a - b)) := by
  unfold coin_Sub.f
  by_cases h : I64 (a - b)
  · rw [told_in h, wid h.1 h.2]
    unfold I64 at ha hb h
    by_cases c1 : a < 0 <;> by_cases c2 : b < 0 <;> by_cases c3 : a - b < 0 <;> simp [c1, c2, c3] <;> omega
  · rw [told_out h]
    unfold I64 at ha hb h
    by_cases c1 : a < 0
    · have e : wrap64 (a - b) = a - b + 18446744073709551616 := by unfold wrap64; omega
      have c2 : ¬ b < 0 := by omega
      have c3 : ¬ a - b + 18446744073709551616 < 0 := by omega
      rw [e]
      simp [c1, c2, c3]
    · have e : wrap64 (a - b) = a - b - 18446744073709551616 := by unfold wrap64; omega
      have c2 : b < 0 := by omega
      have c3 : a - b - 18446744073709551616 < 0 := by omega
      rw [e]
      simp [c1, c2, c3]
theorem prod_eq (a b : Int) : a * b = if pneg a b then -(pr a b) else pr a b := by
  have hp : pr a b = a * b ∧ (a < 0 ↔ b < 0) ∨ pr a b = -(a * b) ∧ ¬ (a < 0 ↔ b < 0) := by
    unfold pr ab
    by_cases c1 : a < 0 <;> by_cases c2 : b < 0
    · rw [if_pos c1, if_pos c2]; exact .inl ⟨Int.neg_mul_neg a b, by simp [c1, c2]⟩
    · rw [if_pos c1, if_neg c2]; exact .inr ⟨Int.neg_mul a b, by simp [c1, c2]⟩
    · rw [if_neg c1, if_pos c2]; exact .inr ⟨Int.mul_neg a b, by simp [c1, c2]⟩
    · rw [if_neg c1, if_neg c2]; exact .inl ⟨rfl, by simp [c1, c2]⟩
  unfold pneg
  rcases hp with ⟨h1, h2⟩ | ⟨h1, h2⟩
  · have e : (decide (a < 0) != decide (b < 0)) = false := by simp [h2]
    rw [e, h1]; simp
  · have e : (decide (a < 0) != decide (b < 0)) = true := by
      by_cases c1 : a < 0 <;> by_cases c2 : b < 0 <;> simp [c1, c2] at h2 ⊢
    rw [e, h1]
    by_cases z : a * b = 0
    · rw [z]; simp
    · rw [if_pos (by simpa using z)]; omega
theorem mul_eq {a b : Int} (ha : I64 a) (hb : I64 b) {k : Nat} : coin_Mul.f (k + 1) a b = some (toldV (a * b)) := by
  have z := pr_range ha hb
  unfold coin_Mul.f
  rw [times ha hb]; simp only [Option.bind_some]
  rw [prod_eq a b, told_sgn z.1]
  by_cases h : pr a b / 18446744073709551616 = 0
  · rw [if_pos h, signed (by omega) (by omega), show pr a b % 18446744073709551616 = pr a b by omega]; rfl
  · rw [if_neg h, sgn_big (by omega)]
theorem adds {a b : Int} (ha : I64 a) (hb : I64 b) : ∃ k, jobberlaw01_CoinAdds.f k a b = some true := by
  refine ⟨11, ?_⟩
  have e1 : jobberref01_Add.f a b = some (toldV (a + b)) := if_pos ⟨ha, hb⟩
  have e2 : jobberref01_Sub.f a b = some (toldV (a - b)) := if_pos ⟨ha, hb⟩
  have e3 : jobberref01_Mul.f a b = some (toldV (a * b)) := if_pos ⟨ha, hb⟩
  unfold jobberlaw01_CoinAdds.f
  rw [add_eq ha hb, sub_eq ha hb, mul_eq ha hb, e1, e2, e3]
  simp only [Option.bind_some, if_true]
  rw [lives (by omega)]; rfl
end Go.Proofs.Ytdfkbdcdgbjgcaa.Num.M
