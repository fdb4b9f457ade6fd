import Derived.Test.YtlihfiajbhpokaaOrrSaidOrderRank
namespace Go.Proofs.Ytlihfiajbhpokaa.Orr.Pure
open Go.RowKit Go.Proofs.Ytlihfiajbhpokaa.Orr Go.Proofs.YtlihfiajbhpokaaW.PrintWords Go.Proofs.YtlihfiajbhpokaaW.PrintLast

theorem cmpu (a b : Int) : cmp_Compare_uint64.f a b = some (if a < b then -1 else if a > b then 1 else 0) := by
  simp only [cmp_Compare_uint64.f, cmp_isNaN_uint64.f, Option.bind_some, bne_self_eq_false]
  simp only [Bool.false_eq_true, if_false]
  repeat' split
  all_goals rfl
def ahP (s pa qa ia pb qb ib : Int) : Prop := ((s = 1 ∧ pa > pb) ∨ (s = 2 ∧ pb > pa)) ∨ (pa = pb ∧ (qa < qb ∨ (qa = qb ∧ ia < ib)))
instance (s pa qa ia pb qb ib : Int) : Decidable (ahP s pa qa ia pb qb ib) := by unfold ahP; infer_instance
theorem ahead_ok (a0 a1 a3 a4 a5 b0 b1 b3 b4 b5 s : Int) (hs : s = 1 ∨ s = 2) : order_Ahead.f 4 a0 a1 s a3 a4 a5 b0 b1 s b3 b4 b5 = some (decide (ahP s a3 a5 a0 b3 b5 b0)) := by
  simp only [order_Ahead.f, order_Ahead.j0, order_Better.f, cmpu, or_int_two, Option.bind_some, if_true]
  rcases hs with rfl | rfl
  · simp only [if_true]
    rw [if_neg (by decide)]
    by_cases hp : a3 = b3
    · rw [if_pos hp]
      refine congrArg some (decide_eq_decide.2 ?_)
      unfold ahP
      repeat' split
      all_goals omega
    · rw [if_neg hp, if_neg (by decide)]
      refine congrArg some (decide_eq_decide.2 ?_)
      unfold ahP
      omega
  · rw [if_neg (by decide), if_neg (by decide)]
    by_cases hp : a3 = b3
    · rw [if_pos hp]
      refine congrArg some (decide_eq_decide.2 ?_)
      unfold ahP
      repeat' split
      all_goals omega
    · rw [if_neg hp]
      simp only [if_true]
      refine congrArg some (decide_eq_decide.2 ?_)
      unfold ahP
      omega
theorem ahead_no (k : Nat) (a0 a1 a3 a4 a5 b0 b1 b3 b4 b5 s : Int) (hs : ¬ (s = 1 ∨ s = 2)) : order_Ahead.f (k + 1) a0 a1 s a3 a4 a5 b0 b1 s b3 b4 b5 = some false := by
  simp only [order_Ahead.f, order_Ahead.j0, if_true]
  rw [if_neg (fun h => hs (.inl h)), if_pos]
  simpa using fun h => hs (.inr h)
theorem j1_ok (x9 : Bool) (a0 a1 a3 a4 a5 b0 b1 b3 b4 b5 c0 c1 c3 c4 c5 s : Int) (hs : s = 1 ∨ s = 2) (h9 : x9 = decide (a3 ≠ b3 ∨ a5 ≠ b5 ∨ a0 ≠ b0)) :
    jobberlaw12_OrderRank.j1 5 x9 a0 a1 s a3 a4 a5 b0 b1 s b3 b4 b5 c0 c1 s c3 c4 c5 = some true := by
  simp only [jobberlaw12_OrderRank.j1, ahead_ok _ _ _ _ _ _ _ _ _ _ s hs, Option.bind_some, jobberlaw12_lives.f]
  have e1 : ((decide (ahP s a3 a5 a0 b3 b5 b0) != decide (ahP s b3 b5 b0 a3 a5 a0)) != x9) = false := by
    rw [h9]
    by_cases p : ahP s a3 a5 a0 b3 b5 b0 <;> by_cases q : ahP s b3 b5 b0 a3 a5 a0 <;> by_cases u : (a3 ≠ b3 ∨ a5 ≠ b5 ∨ a0 ≠ b0) <;> simp only [p, q, u, decide_true, decide_false] <;> first | rfl | (exfalso; unfold ahP at p q; omega)
  rw [e1]
  simp only [Bool.false_eq_true, if_false, decide_eq_true_eq]
  by_cases p : ahP s a3 a5 a0 b3 b5 b0
  · rw [if_pos p]
    by_cases q : ahP s b3 b5 b0 c3 c5 c0
    · rw [if_pos q, if_pos]
      unfold ahP at p q ⊢
      omega
    · rw [if_neg q]
  · rw [if_neg p]
theorem j0_ok (a0 a1 a3 a4 a5 b0 b1 b3 b4 b5 c0 c1 c3 c4 c5 s : Int) (hs : s = 1 ∨ s = 2) :
    jobberlaw12_OrderRank.j0 6 false a0 a1 s a3 a4 a5 b0 b1 s b3 b4 b5 c0 c1 s c3 c4 c5 = some true := by
  simp only [jobberlaw12_OrderRank.j0, Bool.false_eq_true, if_false]
  by_cases h3 : a3 = b3
  · rw [if_pos h3]
    by_cases h5 : a5 = b5
    · rw [if_pos h5]
      exact j1_ok _ _ _ _ _ _ _ _ _ _ _ _ _ _ _ _ s hs (by by_cases h0 : a0 = b0 <;> simp [h3, h5, h0])
    · rw [if_neg h5]
      exact j1_ok _ _ _ _ _ _ _ _ _ _ _ _ _ _ _ _ s hs (by simp [h5])
  · rw [if_neg h3]
    exact j1_ok _ _ _ _ _ _ _ _ _ _ _ _ _ _ _ _ s hs (by simp [h3])
theorem OrderRank : jobberlaw12_OrderRank.Pure := by
  intro x y z s _ _ _ _
  refine ⟨6, ?_⟩
  unfold jobberlaw12_OrderRank.f
  by_cases h1 : s = 1
  · rw [if_pos h1]
    exact j0_ok _ _ _ _ _ _ _ _ _ _ _ _ _ _ _ s (.inl h1)
  · rw [if_neg h1]
    by_cases h2 : s = 2
    · have e : (s != 2) = false := by simp [h2]
      rw [e]
      exact j0_ok _ _ _ _ _ _ _ _ _ _ _ _ _ _ _ s (.inr h2)
    · have e : (s != 2) = true := by simp [h2]
      rw [e]
      simp only [jobberlaw12_OrderRank.j0, if_true]
      rw [ahead_no 4 _ _ _ _ _ _ _ _ _ _ s (by omega)]
      rfl

end Go.Proofs.Ytlihfiajbhpokaa.Orr.Pure
