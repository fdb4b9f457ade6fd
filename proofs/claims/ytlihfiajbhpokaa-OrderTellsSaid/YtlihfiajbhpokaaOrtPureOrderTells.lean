import Derived.Test.YtlihfiajbhpokaaOrtSaidOrderTells
import Derived.Test.YtlihfiajbhpokaaOrtMathA
namespace Go.Proofs.Ytlihfiajbhpokaa.Ort.Pure
open Go.RowKit Go.Proofs.Ytlihfiajbhpokaa.Ort Go.Proofs.Ytlihfiajbhpokaa.Ort.M Go.Proofs.YtlihfiajbhpokaaW.PrintWords Go.Proofs.YtlihfiajbhpokaaW.PrintLast

theorem cmpu (a b : Int) : cmp_Compare_uint64.f a b = some (if a < b then -1 else if a > b then 1 else 0) := by
  simp only [cmp_Compare_uint64.f, cmp_isNaN_uint64.f, Option.bind_some, bne_self_eq_false]
  simp only [Bool.false_eq_true, if_false]
  repeat' split
  all_goals rfl
theorem good_same (a0 a1 a2 a3 a4 a5 : Int) : jobberref12_Good.f a0 a1 a2 a3 a4 a5 = order_Good.f a0 a1 a2 a3 a4 a5 := rfl
theorem good_some (a0 a1 a2 a3 a4 a5 : Int) : ∃ g, order_Good.f a0 a1 a2 a3 a4 a5 = some g := by
  simp only [order_Good.f]
  repeat' split
  all_goals exact ⟨_, rfl⟩
theorem better_same (s a b : Int) : ∃ g, order_Better.f s a b = some g ∧ jobberref12_Better.f s a b = some g := by
  unfold order_Better.f jobberref12_Better.f
  by_cases h1 : s = 1
  · subst h1
    refine ⟨_, by rw [if_neg (by decide), if_pos rfl], ?_⟩
    rw [if_pos rfl]
    by_cases c : a > b
    · rw [if_pos c]; simp [c]
    · rw [if_neg c, if_neg (by decide)]; simp [c]
  · by_cases h2 : s = 2
    · subst h2
      exact ⟨_, by rw [if_pos rfl], by rw [if_neg h1, if_pos rfl]⟩
    · exact ⟨_, by rw [if_neg h2, if_neg h1], by rw [if_neg h1, if_neg h2]⟩
theorem crosses_same (s a b : Int) : ∃ g, order_Crosses.f s a b = some g ∧ jobberref12_Crosses.f s a b = some g := by
  unfold order_Crosses.f jobberref12_Crosses.f order_Better.f
  by_cases h1 : s = 1
  · subst h1
    refine ⟨!decide (b > a), by rw [if_pos rfl, if_neg (by decide), if_pos rfl]; rfl, ?_⟩
    rw [if_pos rfl]
    by_cases c : b ≤ a
    · rw [if_pos c]; simp; omega
    · rw [if_neg c, if_neg (by decide)]; simp; omega
  · by_cases h2 : s = 2
    · subst h2
      refine ⟨!decide (a > b), by rw [if_neg h1, if_pos rfl, if_pos rfl]; rfl, ?_⟩
      rw [if_neg h1, if_pos rfl]
      refine congrArg some ?_
      rw [Bool.eq_iff_iff]
      simp
    · exact ⟨_, by rw [if_neg h1, if_neg h2], by rw [if_neg h1, if_neg h2]⟩
theorem ahead_j (x19 : Bool) (a0 a1 s a3 a4 a5 b0 b1 t b3 b4 b5 : Int) : ∃ g, order_Ahead.j0 4 x19 a0 a1 s a3 a4 a5 b0 b1 t b3 b4 b5 = some g ∧ jobberref12_Ahead.j0 4 x19 a0 a1 s a3 a4 a5 b0 b1 t b3 b4 b5 = some g := by
  simp only [order_Ahead.j0, jobberref12_Ahead.j0, cmpu, or_int_two, Option.bind_some]
  cases x19 with
  | true => exact ⟨false, by simp, by simp⟩
  | false =>
    simp only [Bool.false_eq_true, if_false]
    by_cases h3 : a3 = b3
    · rw [if_pos h3, if_pos h3]
      by_cases h5 : a5 = b5
      · rw [if_pos h5]
        refine ⟨decide (a0 < b0), ?_, rfl⟩
        refine congrArg some (decide_eq_decide.2 ?_)
        repeat' split
        all_goals omega
      · rw [if_neg h5]
        refine ⟨decide (a5 < b5), ?_, rfl⟩
        refine congrArg some (decide_eq_decide.2 ?_)
        repeat' split
        all_goals omega
    · rw [if_neg h3, if_neg h3]
      obtain ⟨g, h, h'⟩ := better_same s a3 b3
      exact ⟨g, by rw [h]; rfl, by rw [h']; rfl⟩
theorem ahead_same (a0 a1 s a3 a4 a5 b0 b1 t b3 b4 b5 : Int) : ∃ g, order_Ahead.f 4 a0 a1 s a3 a4 a5 b0 b1 t b3 b4 b5 = some g ∧ jobberref12_Ahead.f 4 a0 a1 s a3 a4 a5 b0 b1 t b3 b4 b5 = some g := by
  unfold order_Ahead.f jobberref12_Ahead.f
  by_cases h : s = t
  · rw [if_pos h, if_pos h]
    by_cases h1 : s = 1
    · rw [if_pos h1, if_neg (by omega), show decide (s > 2) = false from decide_eq_false (by omega)]
      exact ahead_j _ _ _ _ _ _ _ _ _ _ _ _ _
    · rw [if_neg h1]
      by_cases h2 : s = 2
      · rw [if_neg (by omega), show decide (s > 2) = false from decide_eq_false (by omega), show (s != 2) = false by simp [h2]]
        exact ahead_j _ _ _ _ _ _ _ _ _ _ _ _ _
      · rw [show (s != 2) = true by simp [h2]]
        by_cases h0 : s < 1
        · rw [if_pos h0]; exact ahead_j _ _ _ _ _ _ _ _ _ _ _ _ _
        · rw [if_neg h0, show decide (s > 2) = true from decide_eq_true (by omega)]; exact ahead_j _ _ _ _ _ _ _ _ _ _ _ _ _
  · rw [if_neg h, if_neg h]
    exact ahead_j _ _ _ _ _ _ _ _ _ _ _ _ _
theorem hold_same (a0 a1 a2 a3 a4 a5 : Int) (h3 : I64 a3) (h4 : I64 a4) : ∃ z, order_Hold.f 4 a0 a1 a2 a3 a4 a5 = some z ∧ jobberref12_Hold.f a0 a1 a2 a3 a4 a5 = some z := by
  unfold order_Hold.f jobberref12_Hold.f
  rw [good_same]
  obtain ⟨g, hg⟩ := good_some a0 a1 a2 a3 a4 a5
  have e3 : jobberref01_Mul.f a3 a4 = some (toldV (a3 * a4)) := if_pos ⟨h3, h4⟩
  rw [hg, mul_eq h3 h4, e3]
  simp only [Option.bind_some]
  repeat' split
  all_goals exact ⟨_, rfl, rfl⟩
theorem OrderTells : jobberlaw12_OrderTells.Pure := by
  intro x y hx hy
  refine ⟨4, ?_⟩
  have h3 : I64 x.f3 := i64_of (by have := hx; simp only [WF33] at this; exact this.2.2.2.1)
  have h4 : I64 x.f4 := i64_of (by have := hx; simp only [WF33] at this; exact this.2.2.2.2.1)
  unfold jobberlaw12_OrderTells.f
  rw [good_same]
  obtain ⟨z, e1, e2⟩ := hold_same x.f0 x.f1 x.f2 x.f3 x.f4 x.f5 h3 h4
  obtain ⟨g, hg⟩ := good_some x.f0 x.f1 x.f2 x.f3 x.f4 x.f5
  obtain ⟨a, ha, ha'⟩ := ahead_same x.f0 x.f1 x.f2 x.f3 x.f4 x.f5 y.f0 y.f1 y.f2 y.f3 y.f4 y.f5
  obtain ⟨b, hb, hb'⟩ := better_same x.f2 x.f3 y.f3
  obtain ⟨c, hc, hc'⟩ := crosses_same x.f2 x.f3 y.f3
  rw [e1, e2, hg, ha, ha', hb, hb', hc, hc']
  simp [jobberlaw12_lives.f]

end Go.Proofs.Ytlihfiajbhpokaa.Ort.Pure
