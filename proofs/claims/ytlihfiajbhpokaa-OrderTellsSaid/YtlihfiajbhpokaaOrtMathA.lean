import Derived.Test.YtlihfiajbhpokaaOrtx
namespace Go.Proofs.Ytlihfiajbhpokaa.Ort.M
open Go.RowKit Go.Proofs.Ytlihfiajbhpokaa.Ort Go.Proofs.YtlihfiajbhpokaaW.PrintWords Go.Proofs.YtlihfiajbhpokaaW.PrintLast
set_option linter.unusedVariables false
set_option linter.unusedSimpArgs false
theorem u64_def (x : Int) : IntKind.u64.wrap x = x % 18446744073709551616 := rfl
theorem u64_range (n : Int) (h0 : 0 ≤ n) (h1 : n < 2 ^ 64) : IntKind.u64.wrap n = n := by rw [u64_def]; omega
def I64 (x : Int) : Prop := -9223372036854775808 ≤ x ∧ x ≤ 9223372036854775807
theorem i64_of {x : Int} (h : (Lit.int .i64 x).wf = true) : I64 x := by
  simp [Lit.wf, IntKind.min, IntKind.max, IntKind.signed, IntKind.bits] at h
  unfold I64
  omega
theorem wid {x : Int} (h0 : -9223372036854775808 ≤ x) (h1 : x ≤ 9223372036854775807) : wrap64 x = x := by unfold wrap64; omega
def ab (x : Int) : Int := if x < 0 then -x else x
theorem ab_range {x : Int} (h : I64 x) : 0 ≤ ab x ∧ ab x ≤ 9223372036854775808 := by unfold ab; unfold I64 at h; split <;> omega
theorem size {x : Int} (h : I64 x) : coin_size.f x = some (ab x) := by
  unfold I64 at h
  unfold coin_size.f ab
  simp only [u64_def]
  split
  · congr 1; omega
  · congr 1; omega
theorem or_ne {h l : Int} (h0 : 0 ≤ h) (h1 : h < 18446744073709551616) (l0 : 0 ≤ l) (l1 : l < 18446744073709551616) : (Go.bits .or .u64 h l != 0) = (decide (h ≠ 0) || decide (l ≠ 0)) := by
  obtain ⟨a, rfl⟩ := Int.eq_ofNat_of_zero_le h0
  obtain ⟨b, rfl⟩ := Int.eq_ofNat_of_zero_le l0
  have ha : a < 2 ^ 64 := by omega
  have hb : b < 2 ^ 64 := by omega
  rw [(bits_nat .u64 64 (by decide) u64_range a b ha hb).2, Bool.eq_iff_iff]
  simp only [bne_iff_ne, ne_eq, Int.natCast_eq_zero, Nat.or_eq_zero_iff, Bool.or_eq_true, decide_eq_true_eq]
  omega
def pr (a b : Int) : Int := ab a * ab b
theorem pr_range {a b : Int} (ha : I64 a) (hb : I64 b) : 0 ≤ pr a b ∧ pr a b ≤ 85070591730234615865843651857942052864 := by
  have x := ab_range ha; have y := ab_range hb
  exact ⟨Int.mul_nonneg x.1 y.1, Int.mul_le_mul x.2 y.2 y.1 (by omega)⟩
def pneg (a b : Int) : Bool := (decide (a < 0) != decide (b < 0)) && decide (pr a b ≠ 0)
theorem times {a b : Int} (ha : I64 a) (hb : I64 b) : coin_times.f a b = some (pr a b / 18446744073709551616, pr a b % 18446744073709551616, pneg a b) := by
  have x := ab_range ha; have y := ab_range hb; have z := pr_range ha hb
  unfold coin_times.f
  rw [size ha]; simp only [Option.bind_some]
  rw [size hb]; simp only [Option.bind_some]
  unfold bits_Mul64.f
  rw [if_pos ⟨⟨x.1, by omega⟩, y.1, by omega⟩]; simp only [Option.bind_some]
  have e : ab a * ab b = pr a b := rfl
  rw [e]
  unfold pneg
  split
  · rename_i hc
    rw [hc, or_ne (by omega) (by omega) (by omega) (by omega), Bool.true_and]
    congr 3
    rw [Bool.eq_iff_iff]
    simp only [ne_eq, Bool.or_eq_true, decide_eq_true_eq]
    omega
  · rename_i hc
    have : (decide (a < 0) != decide (b < 0)) = false := by simpa using hc
    rw [this, Bool.false_and]
def sgn (neg : Bool) (q : Int) : Int × Int := if q < 9223372036854775808 then (if neg then -q else q, 0) else if q = 9223372036854775808 ∧ neg = true then (-9223372036854775808, 0) else (0, 10)
theorem signed {q : Int} {neg : Bool} {k : Nat} (h0 : 0 ≤ q) (h1 : q < 18446744073709551616) : coin_signed.f (k + 1) q neg = some (sgn neg q) := by
  unfold coin_signed.f sgn
  split
  · rename_i hq
    rw [coin_signed.j0, wid (x := q) (by omega) (by omega)]
    cases neg with
    | true => rw [if_pos rfl, if_pos rfl, wid (by omega) (by omega)]
    | false => rw [if_neg (by decide), if_pos hq, if_neg (by decide)]
  · rename_i hq
    rw [coin_signed.j0, if_neg (by decide), if_neg hq]
    split
    · rename_i he
      cases neg with
      | true => rw [if_pos rfl, if_pos ⟨he, rfl⟩]
      | false => rw [if_neg (by decide), if_neg (by simp)]
    · rename_i he
      rw [if_neg (by omega)]
theorem sgn_big {neg : Bool} {q : Int} (h : 9223372036854775808 < q) : sgn neg q = (0, 10) := by
  unfold sgn
  rw [if_neg (by omega), if_neg (by omega)]
theorem told_in {v : Int} (h : I64 v) : toldV v = (v, 0) := if_pos h
theorem told_out {v : Int} (h : ¬ I64 v) : toldV v = (0, 10) := if_neg h
theorem told_sgn {n : Bool} {q : Int} (h : 0 ≤ q) : toldV (if n then -q else q) = sgn n q := by
  unfold toldV sgn
  cases n
  · simp only [Bool.false_eq_true, if_false, and_false]
    by_cases c : q < 9223372036854775808
    · rw [if_pos (by omega), if_pos c]
    · rw [if_neg (by omega), if_neg c]
  · simp only [if_true, and_true]
    by_cases c : q < 9223372036854775808
    · rw [if_pos (by omega), if_pos c]
    · rw [if_neg c]
      by_cases d : q = 9223372036854775808
      · subst d; decide
      · rw [if_neg d, if_neg (by omega)]
theorem prod_eq (a b : Int) : a * b = if pneg a b then -(pr a b) else pr a b := by
  have hp : pr a b = a * b ∧ (a < 0 ↔ b < 0) ∨ pr a b = -(a * b) ∧ ¬ (a < 0 ↔ b < 0) := by
    unfold pr ab
    by_cases c1 : a < 0 <;> by_cases c2 : b < 0
    · rw [if_pos c1, if_pos c2]; exact .inl ⟨Int.neg_mul_neg a b, by simp [c1, c2]⟩
    · rw [if_pos c1, if_neg c2]; exact .inr ⟨Int.neg_mul a b, by simp [c1, c2]⟩
    · rw [if_neg c1, if_pos c2]; exact .inr ⟨Int.mul_neg a b, by simp [c1, c2]⟩
    · rw [if_neg c1, if_neg c2]; exact .inl ⟨rfl, by simp [c1, c2]⟩
  unfold pneg
  rcases hp with ⟨h1, h2⟩ | ⟨h1, h2⟩
  · have e : (decide (a < 0) != decide (b < 0)) = false := by simp [h2]
    rw [e, h1]; simp
  · have e : (decide (a < 0) != decide (b < 0)) = true := by
      by_cases c1 : a < 0 <;> by_cases c2 : b < 0 <;> simp [c1, c2] at h2 ⊢
    rw [e, h1]
    by_cases z : a * b = 0
    · rw [z]; simp
    · rw [if_pos (by simpa using z)]; omega
theorem mul_eq {a b : Int} (ha : I64 a) (hb : I64 b) {k : Nat} : coin_Mul.f (k + 1) a b = some (toldV (a * b)) := by
  have z := pr_range ha hb
  unfold coin_Mul.f
  rw [times ha hb]; simp only [Option.bind_some]
  rw [prod_eq a b, told_sgn z.1]
  by_cases h : pr a b / 18446744073709551616 = 0
  · rw [if_pos h, signed (by omega) (by omega), show pr a b % 18446744073709551616 = pr a b by omega]; rfl
  · rw [if_neg h, sgn_big (by omega)]
end Go.Proofs.Ytlihfiajbhpokaa.Ort.M
