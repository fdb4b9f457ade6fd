/- The plain law of whole lots: of any lot and quantity the trimmed quantity is the greatest whole number of lots. No condition but the int64 range. -/
import Derived.Test.YthaaghkplbbgdaaLimSaidLimitsTrim
namespace Go.Proofs.Ythaaghkplbbgdaa.Lim.M
open Go.Proofs.Ythaaghkplbbgdaa.Lim Go.RowKit Go.Proofs.YthaaghkplbbgdaaW.PrintWords Go.Proofs.YthaaghkplbbgdaaW.PrintLast
set_option linter.unusedVariables false
set_option linter.unusedSimpArgs false
def I64 (x : Int) : Prop := -9223372036854775808 ≤ x ∧ x ≤ 9223372036854775807
theorem i64_of {x : Int} (h : (Lit.int .i64 x).wf = true) : I64 x := by
  simp [Lit.wf, IntKind.min, IntKind.max, IntKind.signed, IntKind.bits] at h
  unfold I64
  omega
theorem wid {x : Int} (h0 : -9223372036854775808 ≤ x) (h1 : x ≤ 9223372036854775807) : wrap64 x = x := by unfold wrap64; omega
theorem lives {k : Nat} (hk : 20 ≤ k) : jobberlaw07_lives.f k = some true := by
  have e : jobberlaw07_lives.f 20 = some true := by decide +kernel
  have m : ∀ d, jobberlaw07_lives.f (20 + d) = some true := by
    intro d
    induction d with
    | zero => exact e
    | succ d ih => exact jobberlaw07_lives.mono _ _ ih
  have := m (k - 20)
  rwa [show 20 + (k - 20) = k by omega] at this
theorem lv {k : Nat} (hk : 20 ≤ k) : ((jobberlaw07_lives.f k).bind fun t128 => (some t128)) = some true := by rw [lives hk]; rfl
theorem le_self {a b : Int} (hb : 0 ≤ b) (ha : 1 ≤ a) : b % a ≤ b := by
  have hd := Int.emod_add_mul_ediv b a
  have := Int.mul_nonneg (show 0 ≤ a by omega) (Int.ediv_nonneg hb (show 0 ≤ a by omega))
  omega
theorem trim_small {a b : Int} (h : a < 1 ∨ b < 1) : limits_Trim.f a b = some 0 := by
  unfold limits_Trim.f
  rw [if_pos]
  unfold mn
  split <;> omega
theorem trim {a b : Int} (ha : 1 ≤ a) (hb : 1 ≤ b) (hi : I64 b) : limits_Trim.f a b = some (b - b % a) := by
  unfold limits_Trim.f
  have h0 := Int.emod_nonneg b (show a ≠ 0 by omega)
  have h1 := Int.emod_lt_of_pos b (show 0 < a by omega)
  have h2 := le_self (a := a) (show 0 ≤ b by omega) (by omega)
  unfold I64 at hi
  rw [if_neg (by unfold mn; split <;> omega), if_neg (by omega), Int.tmod_eq_emod_of_nonneg (by omega), wid (by omega) (by omega)]
theorem law {a b : Int} (ha : I64 a) (hb : I64 b) : ∃ k, jobberlaw07_LimitsTrim.f k a b = some true := by
  refine ⟨30, ?_⟩
  unfold jobberlaw07_LimitsTrim.f
  by_cases c : a < 1 ∨ b < 1
  · rw [trim_small c]; simp only [Option.bind_some]
    have hl : jobberlaw07_LimitsTrim.j0 30 a b 0 true = some true := by
      rw [jobberlaw07_LimitsTrim.j0, if_pos rfl, if_pos rfl, lv (by omega)]
    by_cases c1 : a < 1
    · rw [if_pos c1, hl]
    · rw [if_neg c1, decide_eq_true (by omega), hl]
  · have h0 := Int.emod_nonneg b (show a ≠ 0 by omega)
    have h1 := Int.emod_lt_of_pos b (show 0 < a by omega)
    have h2 := le_self (a := a) (show 0 ≤ b by omega) (by omega)
    have hd := Int.emod_add_mul_ediv b a
    unfold I64 at hb
    rw [trim (by omega) (by omega) hb]; simp only [Option.bind_some]
    rw [if_neg (by omega), decide_eq_false (by omega), jobberlaw07_LimitsTrim.j0, if_neg (by decide), if_pos (by omega), if_pos (by omega), if_neg (by omega)]
    have hz : Int.tmod (b - b % a) a = 0 := by
      rw [Int.tmod_eq_emod_of_nonneg (by omega), show b - b % a = a * (b / a) by omega, Int.mul_emod_right]
    rw [if_pos hz, wid (by omega) (by omega), if_pos (by omega), lv (by omega)]
    by_cases e0 : b - b % a = 0
    · rw [if_pos e0]
    rw [if_neg e0]
    by_cases e1 : a > 1099511627776
    · rw [if_pos e1]
    rw [if_neg e1]
    by_cases e2 : b - b % a > 1099511627776
    · rw [if_pos e2]
    rw [if_neg e2]
    have hl : limits_Lot.f 29 a (b - b % a) = some 0 := by
      unfold limits_Lot.f
      rw [if_neg (by omega), decide_eq_false (by omega), limits_Lot.j0, if_neg (by decide), if_neg (by omega), if_neg (by omega), if_neg (by omega), if_pos hz]
    rw [hl]; simp only [Option.bind_some]; rw [if_true]
end Go.Proofs.Ythaaghkplbbgdaa.Lim.M
