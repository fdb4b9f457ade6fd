/- What Div of package coin tells (for shares), on numbers. -/
import Derived.Test.YtjjnbcaemognhaaZClrMathD
namespace Go.Proofs.Ytjjnbcaemognhaa.Clr.M
open Go.RowKit Go.Proofs.Ytjjnbcaemognhaa.Clr Go.Proofs.YtjjnbcaemognhaaW.PrintWords Go.Proofs.YtjjnbcaemognhaaW.PrintLast
set_option linter.unusedVariables false
set_option linter.unusedSimpArgs false
def I64 (x : Int) : Prop := -9223372036854775808 ≤ x ∧ x ≤ 9223372036854775807
theorem wid {x : Int} (h0 : -9223372036854775808 ≤ x) (h1 : x ≤ 9223372036854775807) : wrap64 x = x := by unfold wrap64; omega
def ab (x : Int) : Int := if x < 0 then -x else x
theorem ab_range {x : Int} (h : I64 x) : 0 ≤ ab x ∧ ab x ≤ 9223372036854775808 := by unfold ab; unfold I64 at h; split <;> omega
theorem size {x : Int} (h : I64 x) : coin_size.f x = some (ab x) := by
  unfold I64 at h
  unfold coin_size.f ab
  simp only [u64_def]
  split
  · congr 1; omega
  · congr 1; omega
theorem or_ne {h l : Int} (h0 : 0 ≤ h) (h1 : h < 18446744073709551616) (l0 : 0 ≤ l) (l1 : l < 18446744073709551616) : (Go.bits .or .u64 h l != 0) = (decide (h ≠ 0) || decide (l ≠ 0)) := by
  obtain ⟨a, rfl⟩ := Int.eq_ofNat_of_zero_le h0
  obtain ⟨b, rfl⟩ := Int.eq_ofNat_of_zero_le l0
  have ha : a < 2 ^ 64 := by omega
  have hb : b < 2 ^ 64 := by omega
  rw [(bits_nat .u64 64 (by decide) u64_range a b ha hb).2, Bool.eq_iff_iff]
  simp only [bne_iff_ne, ne_eq, Int.natCast_eq_zero, Nat.or_eq_zero_iff, Bool.or_eq_true, decide_eq_true_eq]
  omega
def pr (a b : Int) : Int := ab a * ab b
theorem pr_range {a b : Int} (ha : I64 a) (hb : I64 b) : 0 ≤ pr a b ∧ pr a b ≤ 85070591730234615865843651857942052864 := by
  have x := ab_range ha; have y := ab_range hb
  exact ⟨Int.mul_nonneg x.1 y.1, Int.mul_le_mul x.2 y.2 y.1 (by omega)⟩
def pneg (a b : Int) : Bool := (decide (a < 0) != decide (b < 0)) && decide (pr a b ≠ 0)
theorem times {a b : Int} (ha : I64 a) (hb : I64 b) : coin_times.f a b = some (pr a b / 18446744073709551616, pr a b % 18446744073709551616, pneg a b) := by
  have x := ab_range ha; have y := ab_range hb; have z := pr_range ha hb
  unfold coin_times.f
  rw [size ha]; simp only [Option.bind_some]
  rw [size hb]; simp only [Option.bind_some]
  unfold bits_Mul64.f
  rw [if_pos ⟨⟨x.1, by omega⟩, y.1, by omega⟩]; simp only [Option.bind_some]
  have e : ab a * ab b = pr a b := rfl
  rw [e]
  unfold pneg
  split
  · rename_i hc
    rw [hc, or_ne (by omega) (by omega) (by omega) (by omega), Bool.true_and]
    congr 3
    rw [Bool.eq_iff_iff]
    simp only [ne_eq, Bool.or_eq_true, decide_eq_true_eq]
    omega
  · rename_i hc
    have : (decide (a < 0) != decide (b < 0)) = false := by simpa using hc
    rw [this, Bool.false_and]
def sgn (neg : Bool) (q : Int) : Int × Int := if q < 9223372036854775808 then (if neg then -q else q, 0) else if q = 9223372036854775808 ∧ neg = true then (-9223372036854775808, 0) else (0, 10)
theorem signed {q : Int} {neg : Bool} {k : Nat} (h0 : 0 ≤ q) (h1 : q < 18446744073709551616) : coin_signed.f (k + 1) q neg = some (sgn neg q) := by
  unfold coin_signed.f sgn
  split
  · rename_i hq
    rw [coin_signed.j0, wid (x := q) (by omega) (by omega)]
    cases neg with
    | true => rw [if_pos rfl, if_pos rfl, wid (by omega) (by omega)]
    | false => rw [if_neg (by decide), if_pos hq, if_neg (by decide)]
  · rename_i hq
    rw [coin_signed.j0, if_neg (by decide), if_neg hq]
    split
    · rename_i he
      cases neg with
      | true => rw [if_pos rfl, if_pos ⟨he, rfl⟩]
      | false => rw [if_neg (by decide), if_neg (by simp)]
    · rename_i he
      rw [if_neg (by omega)]
def awayS (round : Int) (neg : Bool) (rest by_ q : Int) : Bool := if round = 1 then neg && decide (rest ≠ 0) else if round = 2 then !neg && decide (rest ≠ 0) else decide (2 * rest > by_) || (decide (2 * rest = by_) && decide (q % 2 = 1))
theorem away {round : Int} {neg : Bool} {rest by_ q : Int} (h0 : 0 ≤ rest) (h1 : rest < by_) (h2 : by_ < 18446744073709551616) (h3 : 0 ≤ q) (h4 : q < 18446744073709551616) : coin_away.f round neg rest by_ q = some (awayS round neg rest by_ q) := by
  unfold coin_away.f awayS
  rw [if_pos ⟨h3, by omega⟩, u64_small (x := by_ - rest) (by omega) (by omega)]
  congr 1
  split
  · congr 1
    rw [Bool.eq_iff_iff]; simp
  split
  · congr 1
    rw [Bool.eq_iff_iff]; simp
  · congr 1
    · rw [Bool.eq_iff_iff]; simp only [decide_eq_true_eq]; omega
    · congr 1
      · rw [Bool.eq_iff_iff]; simp only [beq_iff_eq, decide_eq_true_eq]; omega
def divS (a b c round : Int) : Int × Int :=
  if round < 1 ∨ round > 3 then (0, 2) else if c = 0 then (0, 11) else
    sgn (pneg a b != decide (c < 0)) (if awayS round (pneg a b != decide (c < 0)) (pr a b % ab c) (ab c) (pr a b / ab c) = true then pr a b / ab c + 1 else pr a b / ab c)
theorem sgn_big {neg : Bool} {q : Int} (h : 9223372036854775808 < q) : sgn neg q = (0, 10) := by
  unfold sgn
  rw [if_neg (by omega), if_neg (by omega)]
theorem div {a b c round : Int} (ha : I64 a) (hb : I64 b) (hc : I64 c) {k : Nat} (hk : 3 ≤ k) : coin_Div.f k a b c round = some (divS a b c round) := by
  obtain ⟨k, rfl⟩ : ∃ m, k = m + 2 := ⟨k - 2, by omega⟩
  unfold coin_Div.f divS
  by_cases h1 : round < 1
  · rw [if_pos h1, if_pos (.inl h1), coin_Div.j0, if_pos rfl]
  rw [if_neg h1, coin_Div.j0]
  by_cases h2 : round > 3
  · rw [decide_eq_true h2, if_pos rfl, if_pos (.inr h2)]
  rw [decide_eq_false h2, if_neg (by decide), if_neg (show ¬ (round < 1 ∨ round > 3) by omega)]
  by_cases hz : c = 0
  · rw [if_pos hz, if_pos hz]
  have z := pr_range ha hb; have y := ab_range hc
  have yp : 0 < ab c := by unfold ab; unfold I64 at hc; split <;> omega
  rw [if_neg hz, if_neg hz, times ha hb]; simp only [Option.bind_some]
  rw [size hc]; simp only [Option.bind_some]
  have hq := Int.emod_add_mul_ediv (pr a b) (ab c)
  have r0 := Int.emod_nonneg (pr a b) (show ab c ≠ 0 by omega)
  have r1 := Int.emod_lt_of_pos (pr a b) yp
  have q0 := Int.ediv_nonneg z.1 (show 0 ≤ ab c by omega)
  by_cases hh : pr a b / 18446744073709551616 ≥ ab c
  · rw [if_pos hh]
    have : 18446744073709551616 ≤ pr a b / ab c := by
      rw [Int.le_ediv_iff_mul_le yp]
      omega
    rw [sgn_big]
    split <;> omega
  · rw [if_neg hh]
    have q1 : pr a b / ab c < 18446744073709551616 := by
      rw [Int.ediv_lt_iff_lt_mul yp]
      omega
    have e : pr a b / 18446744073709551616 * 18446744073709551616 + pr a b % 18446744073709551616 = pr a b := by omega
    unfold bits_Div64.f Div64N Div64R
    rw [if_pos ⟨⟨by omega, by omega⟩, ⟨by omega, by omega⟩, ⟨by omega, by omega⟩, by omega⟩, e]; simp only [Option.bind_some]
    rw [away r0 r1 (by omega) q0 q1]; simp only [Option.bind_some]
    by_cases hw : awayS round (pneg a b != decide (c < 0)) (pr a b % ab c) (ab c) (pr a b / ab c) = true
    · rw [if_pos hw, if_pos hw]
      by_cases hov : pr a b / ab c = 18446744073709551615
      · rw [hov, if_pos (show IntKind.u64.wrap (18446744073709551615 + 1) = 0 by rw [u64_def]; rfl), sgn_big (by omega)]
      · rw [u64_small (by omega) (by omega), if_neg (by omega), signed (by omega) (by omega)]; rfl
    · rw [if_neg hw, if_neg hw, signed q0 q1]; rfl
end Go.Proofs.Ytjjnbcaemognhaa.Clr.M
