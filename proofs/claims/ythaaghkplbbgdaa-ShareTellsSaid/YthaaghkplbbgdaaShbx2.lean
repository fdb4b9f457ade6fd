/- Printed by this session's wip/drive.py over the translation; some functions by hand. -/
import Derived.Test.YthaaghkplbbgdaaShbx0
import Derived.Test.YthaaghkplbbgdaaShbx1
namespace Go.Proofs.Ythaaghkplbbgdaa.Shb
open Go.RowKit Go.Proofs.YthaaghkplbbgdaaW.PrintWords Go.Proofs.YthaaghkplbbgdaaW.PrintLast Go.Proofs.YthaaghkplbbgdaaW.PrintMore
attribute [local go_sem] max2_int min2_int max_two min_two max_three min_three max_four min_four   -- for this text's walks alone
set_option linter.unusedVariables false
set_option linter.unusedSimpArgs false

/-! ### bits_Div64: function 59 (by hand) -/
/-! math/bits.Div64 -/
/-- One digit: q is U * 2^32 + d by Y, or more, and r is what is left of U by Y's upper half. -/
structure Dig (U Y Y1 Y0 d q r : Int) : Prop where
  eq : q * Y1 + r = U
  le : (U * 4294967296 + d) / Y ≤ q
  q1 : q ≤ 4294967297
  r0 : 0 ≤ r
  r1 : r < 4294967296
structure Nrm (Y Y1 Y0 : Int) : Prop where
  y : Y = Y1 * 4294967296 + Y0
  a0 : 2147483648 ≤ Y1
  a1 : Y1 < 4294967296
  b0 : 0 ≤ Y0
  b1 : Y0 < 4294967296
theorem Nrm.pos {Y Y1 Y0 : Int} (n : Nrm Y Y1 Y0) : 0 < Y := by have := n.y; have := n.a0; have := n.b0; omega
theorem Dig.q0 {U Y Y1 Y0 d q r : Int} (n : Nrm Y Y1 Y0) (h : Dig U Y Y1 Y0 d q r) (hU : 0 ≤ U) (hd : 0 ≤ d) : 0 ≤ q := Int.le_trans (Int.ediv_nonneg (by omega) (by have := n.pos; omega)) h.le
/-- the quotient is below 2^32 -/
theorem dig_lt {U Y d : Int} (hY : 0 < Y) (hU : U < Y) (hd : d < 4294967296) : (U * 4294967296 + d) / Y < 4294967296 := by
  rw [Int.ediv_lt_iff_lt_mul hY]
  omega
theorem dig_start {U Y Y1 Y0 d : Int} (n : Nrm Y Y1 Y0) (h0 : 0 ≤ U) (h1 : U < Y) (hd0 : 0 ≤ d) (hd : d < 4294967296) : Dig U Y Y1 Y0 d (U / Y1) (U - U / Y1 * Y1) := by
  have hy := n.y; have ha0 := n.a0; have ha1 := n.a1; have hb0 := n.b0; have hb1 := n.b1
  have hm := Int.emod_add_mul_ediv U Y1
  have hr0 := Int.emod_nonneg U (show Y1 ≠ 0 by omega)
  have hr1 := Int.emod_lt_of_pos U (show 0 < Y1 by omega)
  have hc : Y1 * (U / Y1) = U / Y1 * Y1 := Int.mul_comm _ _
  refine ⟨by omega, ?_, ?_, by omega, by omega⟩
  · -- the true quotient is not above
    rw [← Int.lt_add_one_iff, Int.ediv_lt_iff_lt_mul n.pos]
    have e : (U / Y1 + 1) * Y = (U / Y1 * Y1 + Y1) * 4294967296 + (U / Y1 + 1) * Y0 := by
      rw [hy, Int.mul_add, Int.add_mul, Int.one_mul, ← Int.mul_assoc, Int.add_mul (U / Y1 * Y1) Y1]
    have hq : 0 ≤ (U / Y1 + 1) * Y0 := Int.mul_nonneg (by have := Int.ediv_nonneg h0 (show 0 ≤ Y1 by omega); omega) hb0
    rw [e]
    omega
  · have : U / Y1 < 4294967298 := by
      rw [Int.ediv_lt_iff_lt_mul (by omega)]
      omega
    omega
theorem dig_stop {U Y Y1 Y0 d q r : Int} (n : Nrm Y Y1 Y0) (h : Dig U Y Y1 Y0 d q r) (hq : q < 4294967296) (hc : q * Y0 ≤ 4294967296 * r + d) : q = (U * 4294967296 + d) / Y := by
  have hl := h.le; have heq := h.eq
  have : q ≤ (U * 4294967296 + d) / Y := by
    rw [Int.le_ediv_iff_mul_le n.pos]
    have e : q * Y = q * Y1 * 4294967296 + q * Y0 := by rw [n.y, Int.mul_add, ← Int.mul_assoc]
    rw [e]
    omega
  omega
theorem dig_more {U Y Y1 Y0 d q r : Int} (n : Nrm Y Y1 Y0) (h : Dig U Y Y1 Y0 d q r) (hU : U < Y) (hd : d < 4294967296) (hc : q ≥ 4294967296 ∨ q * Y0 > 4294967296 * r + d) : (U * 4294967296 + d) / Y ≤ q - 1 := by
  have heq := h.eq
  have : (U * 4294967296 + d) / Y < q := by
    rcases hc with hc | hc
    · have := dig_lt n.pos hU hd
      omega
    · rw [Int.ediv_lt_iff_lt_mul n.pos]
      have e : q * Y = q * Y1 * 4294967296 + q * Y0 := by rw [n.y, Int.mul_add, ← Int.mul_assoc]
      rw [e]
      omega
  omega
theorem dig_next {U Y Y1 Y0 d q r : Int} (n : Nrm Y Y1 Y0) (h : Dig U Y Y1 Y0 d q r) (hm : (U * 4294967296 + d) / Y ≤ q - 1) (hr : r + Y1 < 4294967296) : Dig U Y Y1 Y0 d (q - 1) (r + Y1) := by
  have heq := h.eq; have := h.q1; have := h.r0; have := n.a0
  refine ⟨?_, hm, by omega, by omega, by omega⟩
  rw [Int.sub_mul, Int.one_mul]
  omega
theorem dig_break {U Y Y1 Y0 d q r : Int} (n : Nrm Y Y1 Y0) (h : Dig U Y Y1 Y0 d q r) (hd0 : 0 ≤ d) (hm : (U * 4294967296 + d) / Y ≤ q - 1) (hr : 4294967296 ≤ r + Y1) (hU : 0 ≤ U) : q - 1 = (U * 4294967296 + d) / Y := by
  have heq := h.eq; have := h.q1; have hb0 := n.b0; have hb1 := n.b1
  have hq1 : 0 ≤ q - 1 := Int.le_trans (Int.ediv_nonneg (by omega) (by have := n.pos; omega)) hm
  have : q - 1 ≤ (U * 4294967296 + d) / Y := by
    rw [Int.le_ediv_iff_mul_le n.pos]
    have e : (q - 1) * Y = (q * Y1 - Y1) * 4294967296 + (q - 1) * Y0 := by rw [n.y, Int.mul_add, ← Int.mul_assoc, Int.sub_mul q 1 Y1, Int.one_mul]
    have hp : (q - 1) * Y0 ≤ 4294967296 * 4294967295 := Int.mul_le_mul (by omega) (by omega) hb0 (by omega)
    rw [e]
    omega
  omega
/-- what is left behind a digit -/
theorem dig_rest {U Y d q : Int} (hY : 0 < Y) (h : q = (U * 4294967296 + d) / Y) : U * 4294967296 + d - q * Y = (U * 4294967296 + d) % Y := by
  have := Int.emod_add_mul_ediv (U * 4294967296 + d) Y
  rw [h, Int.mul_comm ((U * 4294967296 + d) / Y) Y]
  omega
theorem u64_small {x : Int} (h0 : 0 ≤ x) (h1 : x < 18446744073709551616) : IntKind.u64.wrap x = x := by
  show x % 18446744073709551616 = x
  omega
theorem u64_def (x : Int) : IntKind.u64.wrap x = x % 18446744073709551616 := rfl
theorem u64_range (n : Int) (h0 : 0 ≤ n) (h1 : n < 2 ^ 64) : IntKind.u64.wrap n = n := u64_small h0 h1
theorem u64_and32 (x : Int) (h0 : 0 ≤ x) (h1 : x < 18446744073709551616) : Go.bits .and .u64 x 4294967295 = x % 4294967296 := bits_mask .u64 64 (by decide) u64_range 32 (by decide) x h0 h1
theorem bitLenAux_spec : ∀ (f x : Nat), x < 2 ^ f → x < 2 ^ Lib.bitLenAux f x ∧ (x ≠ 0 → 2 ^ Lib.bitLenAux f x ≤ 2 * x)
  | 0, x, h => by
    have : x = 0 := by simpa using h
    subst this
    exact ⟨by simp [Lib.bitLenAux], fun h => absurd rfl h⟩
  | f + 1, x, h => by
    unfold Lib.bitLenAux
    by_cases h0 : x = 0
    · rw [if_pos h0]; subst h0; exact ⟨by simp, fun h => absurd rfl h⟩
    · rw [if_neg h0]
      have ih := bitLenAux_spec f (x / 2) (by rw [Nat.pow_succ] at h; omega)
      rw [Nat.add_comm, Nat.pow_succ]
      refine ⟨by omega, fun _ => ?_⟩
      by_cases h1 : x / 2 = 0
      · have : Lib.bitLenAux f (x / 2) = 0 := by rw [h1]; cases f <;> simp [Lib.bitLenAux]
        rw [this]; omega
      · have := ih.2 h1
        omega
/-- How far y is moved up: its highest bit stands then in the highest place. -/
theorem shift_spec {y : Int} (h0 : 0 < y) (h1 : y < 18446744073709551616) : ∃ s : Nat, (64 - (Lib.bitLen y.toNat : Int)) = s ∧ s ≤ 63 ∧ 9223372036854775808 ≤ y * 2 ^ s ∧ y * 2 ^ s < 18446744073709551616 := by
  obtain ⟨n, rfl⟩ := Int.eq_ofNat_of_zero_le (Int.le_of_lt h0)
  have hn : n < 2 ^ 64 := by omega
  obtain ⟨a, b⟩ := bitLenAux_spec 64 n hn
  have b := b (by omega)
  have hb : Lib.bitLen (n : Int).toNat = Lib.bitLenAux 64 n := rfl
  have hle := Lib.bitLen_le n 64 (by decide) hn
  have hle' : Lib.bitLenAux 64 n ≤ 64 := hle
  generalize Lib.bitLenAux 64 n = m at *
  have hm : 1 ≤ m := by
    rcases Nat.eq_zero_or_pos m with e | e
    · subst e; simp at a; omega
    · exact e
  have hcast : (n : Int) * 2 ^ (64 - m) = ((n * 2 ^ (64 - m) : Nat) : Int) := by rw [Int.natCast_mul, Int.natCast_pow]; rfl
  refine ⟨64 - m, by rw [hb]; omega, by omega, ?_, ?_⟩
  · have e : 2 ^ m * 2 ^ (64 - m) = 2 ^ 64 := by rw [← Nat.pow_add]; congr 1; omega
    have : 2 ^ 64 ≤ 2 * n * 2 ^ (64 - m) := by rw [← e]; exact Nat.mul_le_mul_right _ b
    have h2 : (9223372036854775808 : Nat) ≤ n * 2 ^ (64 - m) := by rw [Nat.mul_assoc] at this; omega
    rw [hcast]; omega
  · have e : 2 ^ m * 2 ^ (64 - m) = 2 ^ 64 := by rw [← Nat.pow_add]; congr 1; omega
    have : n * 2 ^ (64 - m) < 2 ^ m * 2 ^ (64 - m) := Nat.mul_lt_mul_of_pos_right a (Nat.two_pow_pos _)
    rw [e] at this
    have h2 : n * 2 ^ (64 - m) < (18446744073709551616 : Nat) := this
    rw [hcast]; omega
/-- All numbers ahead of the digits: Y is y moved up, U and L are the product moved up. -/
structure Prep (a0 a1 a2 : Int) (s : Nat) (Y U L : Int) : Prop where
  y : Y = a2 * 2 ^ s
  big : 9223372036854775808 ≤ Y
  lt : Y < 18446744073709551616
  u0 : 0 ≤ U
  u1 : U < Y
  l0 : 0 ≤ L
  l1 : L < 18446744073709551616
  n : (a0 * 18446744073709551616 + a1) * 2 ^ s = U * 18446744073709551616 + L
theorem prep {a0 a1 a2 : Int} {s : Nat} (h0 : 0 ≤ a0) (h1 : a0 < a2) (h2 : 0 ≤ a1) (h3 : a1 < 18446744073709551616) (hs : s ≤ 63) (hb : 9223372036854775808 ≤ a2 * 2 ^ s) (hl : a2 * 2 ^ s < 18446744073709551616) :
    Prep a0 a1 a2 s (IntKind.u64.wrap (a2 * 2 ^ s)) (Go.bits .or .u64 (IntKind.u64.wrap (a0 * 2 ^ s)) (a1 / 2 ^ (64 - s))) (IntKind.u64.wrap (a1 * 2 ^ s)) := by
  have hS : (0 : Int) < 2 ^ s := Int.pow_pos (by decide)
  have hT : (0 : Int) < 2 ^ (64 - s) := Int.pow_pos (by decide)
  have hST : (2 : Int) ^ (64 - s) * 2 ^ s = 18446744073709551616 := by
    rw [← Int.pow_add, show 64 - s + s = 64 by omega]; rfl
  have hT1 : (1 : Int) ≤ 2 ^ (64 - s) := by omega
  have hSle : (2 : Int) ^ s ≤ 18446744073709551616 := by
    rw [← hST]
    have := Int.mul_le_mul_of_nonneg_right hT1 (Int.le_of_lt hS)
    omega
  have ha : a0 * 2 ^ s + 2 ^ s ≤ a2 * 2 ^ s := by
    have : (a0 + 1) * 2 ^ s ≤ a2 * 2 ^ s := Int.mul_le_mul_of_nonneg_right (by omega) (Int.le_of_lt hS)
    rw [Int.add_mul, Int.one_mul] at this
    exact this
  have ha0 : 0 ≤ a0 * 2 ^ s := Int.mul_nonneg h0 (Int.le_of_lt hS)
  have hq0 : 0 ≤ a1 / 2 ^ (64 - s) := Int.ediv_nonneg h2 (Int.le_of_lt hT)
  have hq1 : a1 / 2 ^ (64 - s) < 2 ^ s := by
    rw [Int.ediv_lt_iff_lt_mul hT, Int.mul_comm, hST]
    exact h3
  have hr0 := Int.emod_nonneg a1 (show (2 : Int) ^ (64 - s) ≠ 0 by omega)
  have hr1 := Int.emod_lt_of_pos a1 hT
  have hqr := Int.emod_add_mul_ediv a1 (2 ^ (64 - s))
  have e1 : a1 * 2 ^ s = a1 % 2 ^ (64 - s) * 2 ^ s + a1 / 2 ^ (64 - s) * 18446744073709551616 := by
    rw [← hST, ← Int.mul_assoc, ← Int.add_mul, Int.mul_comm (a1 / 2 ^ (64 - s)), hqr]
  have hrS0 : 0 ≤ a1 % 2 ^ (64 - s) * 2 ^ s := Int.mul_nonneg hr0 (Int.le_of_lt hS)
  have hrS1 : a1 % 2 ^ (64 - s) * 2 ^ s < 18446744073709551616 := by
    rw [← hST]
    exact Int.mul_lt_mul_of_pos_right hr1 hS
  have eL : IntKind.u64.wrap (a1 * 2 ^ s) = a1 % 2 ^ (64 - s) * 2 ^ s := by
    rw [u64_def, e1, Int.add_mul_emod_self_right]
    omega
  have eU : Go.bits .or .u64 (IntKind.u64.wrap (a0 * 2 ^ s)) (a1 / 2 ^ (64 - s)) = a0 * 2 ^ s + a1 / 2 ^ (64 - s) := by
    rw [u64_small ha0 (by omega)]
    exact bits_join .u64 64 (by decide) u64_range s _ _ ha0 (Int.mul_emod_left _ _) (by omega) hq0 hq1 (by omega)
  rw [eL, eU, u64_small (x := a2 * 2 ^ s) (by omega) hl]
  refine ⟨rfl, hb, hl, by omega, by omega, hrS0, hrS1, ?_⟩
  rw [Int.add_mul, e1, Int.mul_assoc, Int.mul_comm 18446744073709551616 (2 ^ s), ← Int.mul_assoc, Int.add_mul]
  omega
theorem Prep.nrm {a0 a1 a2 Y U L : Int} {s : Nat} (p : Prep a0 a1 a2 s Y U L) : Nrm Y (Y / 4294967296) (Go.bits .and .u64 Y 4294967295) := by
  have := p.big; have := p.lt
  rw [u64_and32 Y (by omega) (by omega)]
  exact ⟨by omega, by omega, by omega, by omega, by omega⟩
/-- The two digits, and what is left, are the quotient and the rest. -/
theorem div64_end {a0 a1 a2 Y U L d1 d0 q1 q0 R : Int} {s : Nat} (p : Prep a0 a1 a2 s Y U L) (h2 : 0 < a2) (hL : L = d1 * 4294967296 + d0) (hd0 : 0 ≤ d0) (hd0' : d0 < 4294967296) (hd1 : 0 ≤ d1) (hd1' : d1 < 4294967296) (e1 : q1 = (U * 4294967296 + d1) / Y) (eR : R = (U * 4294967296 + d1) % Y) (e0 : q0 = (R * 4294967296 + d0) / Y) :
    q1 * 4294967296 + q0 = (a0 * 18446744073709551616 + a1) / a2 ∧ (R * 4294967296 + d0 - q0 * Y) / 2 ^ s = (a0 * 18446744073709551616 + a1) % a2 := by
  have hY : 0 < Y := by have := p.big; omega
  have hS : (0 : Int) < 2 ^ s := Int.pow_pos (by decide)
  have a := Int.emod_add_mul_ediv (U * 4294967296 + d1) Y
  have b := Int.emod_add_mul_ediv (R * 4294967296 + d0) Y
  have c0 := Int.emod_nonneg (R * 4294967296 + d0) (show Y ≠ 0 by omega)
  have c1 := Int.emod_lt_of_pos (R * 4294967296 + d0) hY
  rw [← e1, ← eR] at a
  rw [← e0] at b
  -- N * S = (q1 * 2^32 + q0) * Y + rest
  have hN : (a0 * 18446744073709551616 + a1) * 2 ^ s = (q1 * 4294967296 + q0) * Y + (R * 4294967296 + d0) % Y := by
    have eYq : Y * q1 = q1 * Y := Int.mul_comm _ _
    have eYq0 : Y * q0 = q0 * Y := Int.mul_comm _ _
    have e2 : (q1 * 4294967296 + q0) * Y = q1 * Y * 4294967296 + q0 * Y := by rw [Int.add_mul, Int.mul_assoc, Int.mul_comm 4294967296 Y, ← Int.mul_assoc]
    rw [p.n, hL, e2]
    omega
  have hrest : R * 4294967296 + d0 - q0 * Y = (R * 4294967296 + d0) % Y := by
    have eYq0 : Y * q0 = q0 * Y := Int.mul_comm _ _
    omega
  rw [hrest]
  generalize (R * 4294967296 + d0) % Y = X at *
  generalize hq : q1 * 4294967296 + q0 = q at *
  rw [p.y] at hN c1
  -- X is a multiple of S
  have hX : X = ((a0 * 18446744073709551616 + a1) - q * a2) * 2 ^ s := by
    rw [Int.sub_mul, hN, Int.mul_assoc]
    omega
  have hz : (a0 * 18446744073709551616 + a1) - q * a2 < a2 := by
    rw [hX] at c1
    exact Int.lt_of_mul_lt_mul_right c1 (Int.le_of_lt hS)
  have hz0 : 0 ≤ (a0 * 18446744073709551616 + a1) - q * a2 := by
    rw [hX] at c0
    exact Int.nonneg_of_mul_nonneg_left c0 hS
  have eq : (a0 * 18446744073709551616 + a1) / a2 = q := by
    rw [show a0 * 18446744073709551616 + a1 = ((a0 * 18446744073709551616 + a1) - q * a2) + q * a2 by omega, Int.add_mul_ediv_right _ _ (by omega), Int.ediv_eq_zero_of_lt hz0 hz]
    omega
  refine ⟨eq.symm, ?_⟩
  rw [hX, Int.mul_ediv_cancel _ (by omega)]
  have := Int.emod_add_mul_ediv (a0 * 18446744073709551616 + a1) a2
  rw [eq, Int.mul_comm a2 q] at this
  omega
def Div64N (a0 a1 a2 : Int) : Int := (a0 * 18446744073709551616 + a1) / a2
def Div64R (a0 a1 a2 : Int) : Int := (a0 * 18446744073709551616 + a1) % a2
/-- One digit's loop's state, as the walk has it. -/
def DigW (U Y Y1 Y0 d q r : Int) : Prop := Nrm Y Y1 Y0 ∧ Dig U Y Y1 Y0 d q r ∧ 0 ≤ U ∧ U < Y ∧ Y < 18446744073709551616 ∧ 0 ≤ d ∧ d < 4294967296
theorem DigW.test {U Y Y1 Y0 d q r : Int} (h : DigW U Y Y1 Y0 d q r) (hq : q < 4294967296) : IntKind.u64.wrap (q * Y0) = q * Y0 ∧ IntKind.u64.wrap (IntKind.u64.wrap (4294967296 * r) + d) = 4294967296 * r + d := by
  obtain ⟨n, g, hU, hU1, hY, hd0, hd⟩ := h
  have hq0 := g.q0 n hU hd0
  have hb0 := n.b0; have hb1 := n.b1; have hr0 := g.r0; have hr1 := g.r1
  have h1 : 0 ≤ q * Y0 := Int.mul_nonneg hq0 hb0
  have h2 : q * Y0 ≤ 4294967295 * 4294967295 := Int.mul_le_mul (by omega) (by omega) hb0 (by omega)
  rw [u64_small h1 (by omega), u64_small (x := 4294967296 * r) (by omega) (by omega), u64_small (by omega) (by omega)]
  exact ⟨rfl, rfl⟩
set_option maxHeartbeats 8000000 in
set_option maxRecDepth 100000 in
theorem div64_main (a0 a1 a2 : Int) (w : World) (s : Nat) (h0 : 0 < a0) (h1 : a0 < a2) (h2 : 0 ≤ a1) (h3 : a1 < 18446744073709551616) (hs : s ≤ 63) (hb : 9223372036854775808 ≤ a2 * 2 ^ s) (hl : a2 * 2 ^ s < 18446744073709551616) (HL : Aside0 (∀ W, Calls Try.prog 70 #[.int .u64 a2] W fun e w' => e = .returned (.int .i64 s) ∧ w' = W)) :
    Calls Try.prog 59 #[.int .u64 a0, .int .u64 a1, .int .u64 a2] w fun e w' => e = .returned (.tuple #[.int .u64 (Div64N a0 a1 a2), .int .u64 (Div64R a0 a1 a2)]) ∧ Below w.heap.size w w' := by
  have P := Aside0.mk (prep (by omega) h1 h2 h3 hs hb hl)
  have NR := Aside0.mk P.out.nrm
  have EL := Aside0.mk (show IntKind.u64.wrap (a1 * 2 ^ s) = IntKind.u64.wrap (a1 * 2 ^ s) / 4294967296 * 4294967296 + Go.bits .and .u64 (IntKind.u64.wrap (a1 * 2 ^ s)) 4294967295 ∧ 0 ≤ IntKind.u64.wrap (a1 * 2 ^ s) / 4294967296 ∧ IntKind.u64.wrap (a1 * 2 ^ s) / 4294967296 < 4294967296 ∧ 0 ≤ Go.bits .and .u64 (IntKind.u64.wrap (a1 * 2 ^ s)) 4294967295 ∧ Go.bits .and .u64 (IntKind.u64.wrap (a1 * 2 ^ s)) 4294967295 < 4294967296 by
    have := P.out.l0; have := P.out.l1
    rw [u64_and32 _ (by omega) (by omega)]
    omega)
  have d0 : (a2 == 0) = false := by simp; omega
  have d1 : decide (a2 ≤ a0) = false := by simp; omega
  have d2 : (a0 == 0) = false := by simp; omega
  have HA := Aside0.mk (show 0 < a2 by omega)
  clear hb hl h0 h1 h2 h3
  go_enter Try.func59, Try.ntmps59
  go_upto_region 15 with (go_at_call 70; refine (HL.out _).mono ?_; rintro e w' ⟨rfl, rfl⟩)
  generalize hY0 : Go.bits .and .u64 (IntKind.u64.wrap (a2 * 2 ^ s)) 4294967295 = Y0 at P NR EL ⊢
  generalize hD0 : Go.bits .and .u64 (IntKind.u64.wrap (a1 * 2 ^ s)) 4294967295 = D0 at P NR EL ⊢
  generalize hU : Go.bits .or .u64 (IntKind.u64.wrap (a0 * 2 ^ s)) (a1 / 2 ^ (64 - s)) = U at P NR EL ⊢
  generalize hY1 : IntKind.u64.wrap (a2 * 2 ^ s) / 4294967296 = Y1 at P NR EL ⊢
  generalize hD1 : IntKind.u64.wrap (a1 * 2 ^ s) / 4294967296 = D1 at P NR EL ⊢
  generalize hY : IntKind.u64.wrap (a2 * 2 ^ s) = Y at P NR EL ⊢
  generalize hL : IntKind.u64.wrap (a1 * 2 ^ s) = L at P NR EL ⊢
  clear hY0 hD0 hU hY1 hD1 hY hL
  have W0 := Aside0.mk (show DigW U Y Y1 Y0 D1 (U / Y1) (U - U / Y1 * Y1) from ⟨NR.out, dig_start NR.out P.out.u0 P.out.u1 EL.out.2.1 EL.out.2.2.1, P.out.u0, P.out.u1, P.out.lt, EL.out.2.1, EL.out.2.2.1⟩)
  have hz : ¬ Y1 = 0 := by have := NR.out.a0; omega
  have hu0 : 0 ≤ U := P.out.u0
  have hy1 : 1 ≤ Y1 := by have := NR.out.a0; omega
  have E1 : IntKind.u64.wrap (U.tdiv Y1) = U / Y1 := by
    rw [Int.tdiv_eq_ediv_of_nonneg hu0]
    have a := Int.ediv_nonneg hu0 (show 0 ≤ Y1 by omega); have b := Int.ediv_le_self Y1 hu0; have c := P.out.u1; have d := P.out.lt
    exact u64_small a (by omega)
  have E2 : IntKind.u64.wrap (U - IntKind.u64.wrap (U / Y1 * Y1)) = U - U / Y1 * Y1 := by
    have a := W0.out.2.1.r0; have b := W0.out.2.1.r1; have c := P.out.u1; have d := P.out.lt; have e := Int.mul_nonneg (Int.ediv_nonneg hu0 (show 0 ≤ Y1 by omega)) (show 0 ≤ Y1 by omega)
    rw [u64_small (x := U / Y1 * Y1) e (by omega), u64_small a (by omega)]
  go_upto_block 0 with (fail)
  clear E1 E2
  go_cut [15] (fun v15 wc => v15 = .int .u64 ((U * 4294967296 + D1) / Y) ∧ Aside0 (wc = w'))
  case first =>
    go_wp2
    go_loopg [15, 16] (U / Y1).toNat (fun kq v15 v16 wr => ∃ q r : Int, v15 = .int .u64 q ∧ v16 = .int .u64 r ∧ Aside0 (DigW U Y Y1 Y0 D1 q r) ∧ Aside0 (q ≤ kq) ∧ Aside0 (wr = w'))
    case atStart => exact ⟨_, _, rfl, rfl, W0, ⟨by have := Int.ediv_nonneg hu0 (show 0 ≤ Y1 by omega); omega⟩, ⟨rfl⟩⟩
    case round =>
      obtain ⟨q, r, rfl, rfl, HD, HK, HW⟩ := hrel
      clear W0
      obtain ⟨n, g, u0, u1, yl, dd0, dd1⟩ := HD.out
      have hq0 := g.q0 n u0 dd0
      by_cases c1 : 4294967296 ≤ q
      · have c1b : decide (4294967296 ≤ q) = true := decide_eq_true c1
        have hm := dig_more n g u1 dd1 (.inl c1)
        have hmm := Aside0.mk hm
        have hgt : 1 ≤ q := by have := Int.ediv_nonneg (show 0 ≤ U * 4294967296 + D1 by omega) (show 0 ≤ Y by omega); omega
        have hle := g.q1
        have hr0 := g.r0
        have hr1 := g.r1
        have hy2 := n.a1
        by_cases c3 : 4294967296 ≤ r + Y1
        · have c3b : decide (4294967296 ≤ r + Y1) = true := decide_eq_true c3
          have hbr := Aside0.mk (dig_break n g dd0 hm c3 u0)
          clear hm n g u0 u1 yl dd0 dd1
          go_wp2
          go_meet
          case rel => exact ⟨by rw [hbr.out], HW⟩
        · have c3b : decide (4294967296 ≤ r + Y1) = false := decide_eq_false c3
          have hnx := Aside0.mk (dig_next n g hm (by omega))
          clear hm n g u0 u1 yl dd0 dd1
          go_wp2
          go_roundg (gk - 1)
          case measure => have := HK.out; omega
          case rel => exact ⟨q - 1, r + Y1, rfl, rfl, ⟨⟨HD.out.1, hnx.out, HD.out.2.2⟩⟩, ⟨by have := HK.out; omega⟩, HW⟩
      · have c1b : decide (4294967296 ≤ q) = false := decide_eq_false c1
        obtain ⟨t1, t2⟩ := HD.out.test (by omega)
        by_cases c2 : 4294967296 * r + D1 < q * Y0
        · have c2b : decide (IntKind.u64.wrap (IntKind.u64.wrap (4294967296 * r) + D1) < IntKind.u64.wrap (q * Y0)) = true := by rw [t1, t2]; exact decide_eq_true c2
          have t3 : IntKind.u64.wrap (4294967296 * r + D1) = 4294967296 * r + D1 := by have := g.r0; have := g.r1; exact u64_small (by omega) (by omega)
          have c2c : decide (IntKind.u64.wrap (4294967296 * r + D1) < IntKind.u64.wrap (q * Y0)) = true := by rw [t1, t3]; exact decide_eq_true c2
          have hm := dig_more n g u1 dd1 (.inr c2)
          clear t1 t2 t3 c2
          have hmm := Aside0.mk hm
          have hgt : 1 ≤ q := by have := Int.ediv_nonneg (show 0 ≤ U * 4294967296 + D1 by omega) (show 0 ≤ Y by omega); omega
          have hle := g.q1
          have hr0 := g.r0
          have hr1 := g.r1
          have hy2 := n.a1
          by_cases c3 : 4294967296 ≤ r + Y1
          · have c3b : decide (4294967296 ≤ r + Y1) = true := decide_eq_true c3
            have hbr := Aside0.mk (dig_break n g dd0 hm c3 u0)
            clear hm n g u0 u1 yl dd0 dd1
            go_wp2
            go_meet
            case rel => exact ⟨by rw [hbr.out], HW⟩
          · have c3b : decide (4294967296 ≤ r + Y1) = false := decide_eq_false c3
            have hnx := Aside0.mk (dig_next n g hm (by omega))
            clear hm n g u0 u1 yl dd0 dd1
            go_wp2
            go_roundg (gk - 1)
            case measure => have := HK.out; omega
            case rel => exact ⟨q - 1, r + Y1, rfl, rfl, ⟨⟨HD.out.1, hnx.out, HD.out.2.2⟩⟩, ⟨by have := HK.out; omega⟩, HW⟩
        · have c2b : decide (IntKind.u64.wrap (IntKind.u64.wrap (4294967296 * r) + D1) < IntKind.u64.wrap (q * Y0)) = false := by rw [t1, t2]; exact decide_eq_false c2
          have hst := Aside0.mk (dig_stop n g (by omega) (by omega))
          clear t1 t2 c1 c2 n g u0 u1 yl dd0 dd1
          go_wp2
          go_meet
          case rel => exact ⟨by rw [← hst.out], HW⟩
  case rest =>
    obtain ⟨rfl, HW⟩ := hcut
    obtain rfl : w' = wc := HW.out.symm
    clear HW
    obtain ⟨Q1, hQ1⟩ : ∃ Q1, (U * 4294967296 + D1) / Y = Q1 := ⟨_, rfl⟩
    obtain ⟨R, hR⟩ : ∃ R, (U * 4294967296 + D1) % Y = R := ⟨_, rfl⟩
    rw [hQ1]
    have HQ1 := Aside0.mk hQ1
    have HR := Aside0.mk hR
    have hYp : 0 < Y := by have := P.out.big; omega
    have hR0 : 0 ≤ R := by rw [← hR]; exact Int.emod_nonneg _ (by omega)
    have HR1 : Aside0 (R < Y) := ⟨by rw [← hR]; exact Int.emod_lt_of_pos _ hYp⟩
    have W1 := Aside0.mk (show DigW R Y Y1 Y0 D0 (R / Y1) (R - R / Y1 * Y1) from ⟨NR.out, dig_start NR.out hR0 HR1.out EL.out.2.2.2.1 EL.out.2.2.2.2, hR0, HR1.out, P.out.lt, EL.out.2.2.2.1, EL.out.2.2.2.2⟩)
    have ER : IntKind.u64.wrap (IntKind.u64.wrap (IntKind.u64.wrap (U * 4294967296) + D1) - IntKind.u64.wrap (Q1 * Y)) = R := by
      have h := dig_rest (d := D1) hYp hQ1.symm
      rw [hR] at h
      have := P.out.lt; have := HR1.out
      simp only [u64_def]
      omega
    have E1 : IntKind.u64.wrap (R.tdiv Y1) = R / Y1 := by
      rw [Int.tdiv_eq_ediv_of_nonneg hR0]
      have a := Int.ediv_nonneg hR0 (show 0 ≤ Y1 by omega); have b := Int.ediv_le_self Y1 hR0; have c := HR1.out; have d := P.out.lt
      exact u64_small a (by omega)
    have E2 : IntKind.u64.wrap (R - IntKind.u64.wrap (R / Y1 * Y1)) = R - R / Y1 * Y1 := by
      have a := W1.out.2.1.r0; have b := W1.out.2.1.r1; have c := HR1.out; have d := P.out.lt; have e := Int.mul_nonneg (Int.ediv_nonneg hR0 (show 0 ≤ Y1 by omega)) (show 0 ≤ Y1 by omega)
      rw [u64_small (x := R / Y1 * Y1) e (by omega), u64_small a (by omega)]
    clear hQ1 hR
    go_upto_block 2 with (fail)
    clear ER E1 E2
    go_cut [18] (fun v18 wc => v18 = .int .u64 ((R * 4294967296 + D0) / Y) ∧ Aside0 (wc = w'))
    case first =>
      go_wp2
      go_loopg [18, 16] (R / Y1).toNat (fun kq v18 v16 wr => ∃ q r : Int, v18 = .int .u64 q ∧ v16 = .int .u64 r ∧ Aside0 (DigW R Y Y1 Y0 D0 q r) ∧ Aside0 (q ≤ kq) ∧ Aside0 (wr = w'))
      case atStart => exact ⟨_, _, rfl, rfl, W1, ⟨by have := Int.ediv_nonneg hR0 (show 0 ≤ Y1 by omega); omega⟩, ⟨rfl⟩⟩
      case round =>
        obtain ⟨q, r, rfl, rfl, HD, HK, HW⟩ := hrel
        clear W1
        obtain ⟨n, g, u0, u1, yl, dd0, dd1⟩ := HD.out
        have hq0 := g.q0 n u0 dd0
        by_cases c1 : 4294967296 ≤ q
        · have c1b : decide (4294967296 ≤ q) = true := decide_eq_true c1
          have hm := dig_more n g u1 dd1 (.inl c1)
          have hmm := Aside0.mk hm
          have hgt : 1 ≤ q := by have := Int.ediv_nonneg (show 0 ≤ R * 4294967296 + D0 by omega) (show 0 ≤ Y by omega); omega
          have hle := g.q1
          have hr0 := g.r0
          have hr1 := g.r1
          have hy2 := n.a1
          by_cases c3 : 4294967296 ≤ r + Y1
          · have c3b : decide (4294967296 ≤ r + Y1) = true := decide_eq_true c3
            have hbr := Aside0.mk (dig_break n g dd0 hm c3 u0)
            clear hm n g u0 u1 yl dd0 dd1
            go_wp2
            go_meet
            case rel => exact ⟨by rw [hbr.out], HW⟩
          · have c3b : decide (4294967296 ≤ r + Y1) = false := decide_eq_false c3
            have hnx := Aside0.mk (dig_next n g hm (by omega))
            clear hm n g u0 u1 yl dd0 dd1
            go_wp2
            go_roundg (gk - 1)
            case measure => have := HK.out; omega
            case rel => exact ⟨q - 1, r + Y1, rfl, rfl, ⟨⟨HD.out.1, hnx.out, HD.out.2.2⟩⟩, ⟨by have := HK.out; omega⟩, HW⟩
        · have c1b : decide (4294967296 ≤ q) = false := decide_eq_false c1
          obtain ⟨t1, t2⟩ := HD.out.test (by omega)
          by_cases c2 : 4294967296 * r + D0 < q * Y0
          · have c2b : decide (IntKind.u64.wrap (IntKind.u64.wrap (4294967296 * r) + D0) < IntKind.u64.wrap (q * Y0)) = true := by rw [t1, t2]; exact decide_eq_true c2
            have t3 : IntKind.u64.wrap (4294967296 * r + D0) = 4294967296 * r + D0 := by have := g.r0; have := g.r1; exact u64_small (by omega) (by omega)
            have c2c : decide (IntKind.u64.wrap (4294967296 * r + D0) < IntKind.u64.wrap (q * Y0)) = true := by rw [t1, t3]; exact decide_eq_true c2
            have hm := dig_more n g u1 dd1 (.inr c2)
            clear t1 t2 t3 c2
            have hmm := Aside0.mk hm
            have hgt : 1 ≤ q := by have := Int.ediv_nonneg (show 0 ≤ R * 4294967296 + D0 by omega) (show 0 ≤ Y by omega); omega
            have hle := g.q1
            have hr0 := g.r0
            have hr1 := g.r1
            have hy2 := n.a1
            by_cases c3 : 4294967296 ≤ r + Y1
            · have c3b : decide (4294967296 ≤ r + Y1) = true := decide_eq_true c3
              have hbr := Aside0.mk (dig_break n g dd0 hm c3 u0)
              clear hm n g u0 u1 yl dd0 dd1
              go_wp2
              go_meet
              case rel => exact ⟨by rw [hbr.out], HW⟩
            · have c3b : decide (4294967296 ≤ r + Y1) = false := decide_eq_false c3
              have hnx := Aside0.mk (dig_next n g hm (by omega))
              clear hm n g u0 u1 yl dd0 dd1
              go_wp2
              go_roundg (gk - 1)
              case measure => have := HK.out; omega
              case rel => exact ⟨q - 1, r + Y1, rfl, rfl, ⟨⟨HD.out.1, hnx.out, HD.out.2.2⟩⟩, ⟨by have := HK.out; omega⟩, HW⟩
          · have c2b : decide (IntKind.u64.wrap (IntKind.u64.wrap (4294967296 * r) + D0) < IntKind.u64.wrap (q * Y0)) = false := by rw [t1, t2]; exact decide_eq_false c2
            have hst := Aside0.mk (dig_stop n g (by omega) (by omega))
            clear t1 t2 c1 c2 n g u0 u1 yl dd0 dd1
            go_wp2
            go_meet
            case rel => exact ⟨by rw [← hst.out], HW⟩
    case rest =>
      obtain ⟨rfl, HW⟩ := hcut
      obtain rfl : w' = wc := HW.out.symm
      have F := Aside0.mk (div64_end P.out HA.out EL.out.1 EL.out.2.2.2.1 EL.out.2.2.2.2 EL.out.2.1 EL.out.2.2.1 HQ1.out.symm HR.out.symm rfl)
      obtain ⟨Q0, hQ0⟩ : ∃ Q0, (R * 4294967296 + D0) / Y = Q0 := ⟨_, rfl⟩
      rw [hQ0] at F
      rw [hQ0]
      have G1 : IntKind.u64.wrap (IntKind.u64.wrap (Q1 * 4294967296) + Q0) = Div64N a0 a1 a2 := by
        have := F.out.1
        have b1 := dig_lt (d := D1) hYp P.out.u1 EL.out.2.2.1
        have b0 := dig_lt (d := D0) hYp HR1.out EL.out.2.2.2.2
        have c1 := Int.ediv_nonneg (a := U * 4294967296 + D1) (b := Y) (by have := EL.out.2.1; omega) (by omega)
        have c0 := Int.ediv_nonneg (a := R * 4294967296 + D0) (b := Y) (by have := EL.out.2.2.2.1; omega) (by omega)
        rw [HQ1.out] at b1 c1
        rw [hQ0] at b0 c0
        unfold Div64N
        rw [u64_small (x := Q1 * 4294967296) (by omega) (by omega), u64_small (by omega) (by omega)]
        exact F.out.1
      have G2 : IntKind.u64.wrap (IntKind.u64.wrap (IntKind.u64.wrap (R * 4294967296) + D0) - IntKind.u64.wrap (Q0 * Y)) / 2 ^ s = Div64R a0 a1 a2 := by
        have h := dig_rest (d := D0) hYp hQ0.symm
        have l0 := Int.emod_nonneg (R * 4294967296 + D0) (show Y ≠ 0 by omega)
        have l1 := Int.emod_lt_of_pos (R * 4294967296 + D0) hYp
        have := P.out.lt
        have e : IntKind.u64.wrap (IntKind.u64.wrap (IntKind.u64.wrap (R * 4294967296) + D0) - IntKind.u64.wrap (Q0 * Y)) = R * 4294967296 + D0 - Q0 * Y := by
          simp only [u64_def]
          omega
        rw [e]
        exact F.out.2
      clear hQ0
      go_wp2
      go_ret2
      exact ⟨rfl, Below.refl _ _⟩
def U64 (x : Int) : Prop := 0 ≤ x ∧ x < 18446744073709551616
instance (x : Int) : Decidable (U64 x) := inferInstanceAs (Decidable (_ ∧ _))
def bits_Div64.f (a0 a1 a2 : Int) : Option (Int × Int) := if U64 a0 ∧ U64 a1 ∧ U64 a2 ∧ a0 < a2 then some (Div64N a0 a1 a2, Div64R a0 a1 a2) else none
set_option maxHeartbeats 8000000 in
set_option maxRecDepth 100000 in
theorem bits_Div64.calls (a0 a1 a2 : Int) (r1 r2 : Int) (w : World) (h : bits_Div64.f a0 a1 a2 = some (r1, r2)) :
    Calls Try.prog 59 #[.int .u64 a0, .int .u64 a1, .int .u64 a2] w fun e w' => e = .returned (.tuple #[.int .u64 r1, .int .u64 r2]) ∧ Below w.heap.size w w' := by
  unfold bits_Div64.f at h
  by_cases hc : U64 a0 ∧ U64 a1 ∧ U64 a2 ∧ a0 < a2
  · rw [if_pos hc] at h
    injection h with h
    injection h with ha hb
    subst ha hb
    obtain ⟨⟨h00, h01⟩, ⟨h10, h11⟩, ⟨h20, h21⟩, hlt⟩ := hc
    by_cases hz : a0 = 0
    · subst hz
      have e1 : Div64N 0 a1 a2 = a1 / a2 := by unfold Div64N; rw [Int.zero_mul, Int.zero_add]
      have e2 : Div64R 0 a1 a2 = a1 % a2 := by unfold Div64R; rw [Int.zero_mul, Int.zero_add]
      rw [e1, e2]
      have q0 := Int.ediv_nonneg h10 (show 0 ≤ a2 by omega)
      have q1 := Int.ediv_le_self a2 h10
      have m0 := Int.emod_nonneg a1 (show a2 ≠ 0 by omega)
      have m1 := Int.emod_lt_of_pos a1 hlt
      have t1 : IntKind.u64.wrap (a1.tdiv a2) = a1 / a2 := by rw [Int.tdiv_eq_ediv_of_nonneg h10]; exact u64_small q0 (by omega)
      have t2 : IntKind.u64.wrap (a1 / a2) = a1 / a2 := u64_small q0 (by omega)
      have t3 : IntKind.u64.wrap (a1.tmod a2) = a1 % a2 := by rw [Int.tmod_eq_emod_of_nonneg h10]; exact u64_small m0 (by omega)
      have t4 : IntKind.u64.wrap (a1 % a2) = a1 % a2 := u64_small m0 (by omega)
      have t5 : a1.tmod a2 = a1 % a2 := Int.tmod_eq_emod_of_nonneg h10
      have t6 : a1.tdiv a2 = a1 / a2 := Int.tdiv_eq_ediv_of_nonneg h10
      have hz2 : ¬ a2 = 0 := by omega
      have d0 : (a2 == 0) = false := by simp; omega
      have d1 : decide (a2 ≤ 0) = false := by simp; omega
      clear e1 e2 q0 q1 m0 m1 h01 h11 h21 h20
      go_enter Try.func59, Try.ntmps59
      go_wp2
      go_quiet (fail)
      go_wp2
      go_ret2
      exact ⟨rfl, pw_below_drewN (Below.refl _ _) _⟩
    · obtain ⟨s, hs, hs1, hs2, hs3⟩ := shift_spec (y := a2) (by omega) h21
      exact div64_main a0 a1 a2 w s (by omega) hlt h10 h11 hs1 hs2 hs3 ⟨fun W => by have := Try.bits_LeadingZeros64 a2 W h20 (by omega); rw [hs] at this; exact this⟩
  · rw [if_neg hc] at h; cases h

/-! ### coin_away: function 60 (by hand) -/
def coin_away.f (a0 : Int) (a1 : Bool) (a2 a3 a4 : Int) : Option Bool := if 0 ≤ a4 ∧ a4 ≤ 18446744073709551615 then
  some (if a0 = 1 then (a1 && a2 != 0) else if a0 = 2 then (!a1 && a2 != 0) else (decide (IntKind.u64.wrap (a3 - a2) < a2) || (a2 == IntKind.u64.wrap (a3 - a2) && a4 % 2 == 1))) else none
set_option maxHeartbeats 8000000 in
set_option maxRecDepth 100000 in
theorem coin_away.calls (a0 : Int) (a1 : Bool) (a2 a3 a4 : Int) (r : Bool) (w : World) (h : coin_away.f a0 a1 a2 a3 a4 = some r) :
    Calls Try.prog 60 #[.int .i64 a0, .bool a1, .int .u64 a2, .int .u64 a3, .int .u64 a4] w fun e w' => e = .returned (.bool r) ∧ Below w.heap.size w w' := by
  unfold coin_away.f at h
  by_cases hb : 0 ≤ a4 ∧ a4 ≤ 18446744073709551615
  · rw [if_pos hb] at h
    obtain rfl := Option.some.inj h
    clear h
    have hand := and_one_u64 a4 hb.1 hb.2
    clear hb
    by_cases h1 : a0 = 1
    · subst h1
      rw [if_pos rfl]
      cases a1 <;> cases hz : a2 != 0 <;> (go_enter Try.func60, Try.ntmps60; go_wp2; go_ret; exact ⟨rfl, Below.refl _ _⟩)
    · rw [if_neg h1]
      have b1 : (a0 == 1) = false := by simpa using h1
      by_cases h2 : a0 = 2
      · subst h2
        rw [if_pos rfl]
        cases a1 <;> cases hz : a2 != 0 <;> (go_enter Try.func60, Try.ntmps60; go_wp2; go_ret; exact ⟨rfl, Below.refl _ _⟩)
      · rw [if_neg h2]
        have b2 : (a0 == 2) = false := by simpa using h2
        clear h1 h2
        cases c1 : decide (IntKind.u64.wrap (a3 - a2) < a2)
        · cases c2 : a2 == IntKind.u64.wrap (a3 - a2)
          · go_enter Try.func60, Try.ntmps60
            go_wp2
            go_ret
            exact ⟨rfl, Below.refl _ _⟩
          · cases c3 : a4 % 2 == 1 <;> (go_enter Try.func60, Try.ntmps60; go_wp2; go_ret; exact ⟨rfl, Below.refl _ _⟩)
        · go_enter Try.func60, Try.ntmps60
          go_wp2
          go_ret
          exact ⟨rfl, Below.refl _ _⟩
  · rw [if_neg hb] at h; cases h

/-! ### coin_signed: function 61 -/
def coin_signed.j0 : Nat → Int → Bool → Bool → Option (Int × Int)
  | 0, _, _, _ => none
  | k + 1, x0, x1, x6 => if x6 = true then (some (wrap64 (-(wrap64 (x0))), 0)) else (if x0 < 9223372036854775808 then (some (wrap64 (x0), 0)) else (if x0 = 9223372036854775808 then (if x1 = true then (some ((-9223372036854775808), 0)) else (some (0, 10))) else (some (0, 10))))
def coin_signed.f (k : Nat) (a0 : Int) (a1 : Bool) : Option (Int × Int) := if a0 < 9223372036854775808 then (coin_signed.j0 k a0 a1 a1) else (coin_signed.j0 k a0 a1 false)
theorem coin_signed.mono_l : ∀ k, (∀ y0 y1 y2, LeO (coin_signed.j0 k y0 y1 y2) (coin_signed.j0 (k + 1) y0 y1 y2))
  | 0 => fun _ _ _ r h => by simp [coin_signed.j0] at h
  | k + 1 => by
    have ih0 := coin_signed.mono_l k
    · intro y0 y1 y2
      unfold coin_signed.j0
      repeat' first
      | (with_reducible exact ih0 _ _ _)
      | (with_reducible exact LeO.refl _)
      | (with_reducible exact LeO.none _)
      | (with_reducible refine LeO.ite ?_ ?_)
      | (with_reducible refine LeO.bind ?_ (fun _ => ?_))
      | exact ih0 _ _ _
      | exact LeO.none _
      | refine LeO.ite ?_ ?_
      | refine LeO.bind ?_ (fun _ => ?_)
theorem coin_signed.mono : ∀ a0 a1 k, LeO (coin_signed.f k a0 a1) (coin_signed.f (k + 1) a0 a1) := by
  intro a0 a1 k
  have ih0 := coin_signed.mono_l k
  unfold coin_signed.f
  repeat' first
      | (with_reducible exact ih0 _ _ _)
      | (with_reducible exact LeO.refl _)
      | (with_reducible exact LeO.none _)
      | (with_reducible refine LeO.ite ?_ ?_)
      | (with_reducible refine LeO.bind ?_ (fun _ => ?_))
      | exact ih0 _ _ _
      | exact LeO.none _
      | refine LeO.ite ?_ ?_
      | refine LeO.bind ?_ (fun _ => ?_)
set_option maxHeartbeats 8000000 in
set_option maxRecDepth 100000 in
theorem coin_signed.calls (k : Nat) (a0 : Int) (a1 : Bool) (r1 : Int) (r2 : Int) (w : World) (h : coin_signed.f k a0 a1 = some (r1, r2)) :
    Calls Try.prog 61 #[.int .u64 a0, .bool a1] w fun e w' => e = .returned (.tuple #[.int .i64 r1, .int .i64 r2]) ∧ Drawn0 w w' := by
  have H : (if a0 < 9223372036854775808 then (coin_signed.j0 k a0 a1 a1) else (coin_signed.j0 k a0 a1 false)) = some (r1, r2) := h
  clear h
  have HC3 := Aside0.mk H
  clear H
  go_enter Try.func61, Try.ntmps61
  go_upto_region 1 with (fail)
  go_cut [6] (fun v6 wc => ∃ (kq : Nat) (x6_2 : Bool), v6 = .bool x6_2 ∧ Aside0 (coin_signed.j0 kq a0 a1 x6_2 = some (r1, r2)) ∧ Aside0 (kq ≤ k) ∧ Drawn0 w wc)
  case first =>
    have H := HC3.out
    clear HC3
    by_cases c4 : a0 < 9223372036854775808
    · rw [if_pos c4] at H
      have c4b0 : decide (a0 < 9223372036854775808) = true := decide_eq_true c4
      clear c4
      (first | rw [c4b0] | (simp only [i64_w, i32_w]; rw [c4b0]) | skip)
      have H' := Aside0.mk H
      clear H
      go_wp2
      go_meet
      case rel => exact ⟨_, (a1), (by first | rfl | (simp; done) | (simp [*]; done)), H', ⟨by first | omega | exact Nat.le_refl _⟩, by repeat (first | exact Drawn0.refl _ | apply Drawn0.step)⟩
    · rw [if_neg c4] at H
      have c4b0 : decide (a0 < 9223372036854775808) = false := decide_eq_false c4
      clear c4
      (first | rw [c4b0] | (simp only [i64_w, i32_w]; rw [c4b0]) | skip)
      have H' := Aside0.mk H
      clear H
      go_wp2
      go_meet
      case rel => exact ⟨_, (false), (by first | rfl | (simp; done) | (simp [*]; done)), H', ⟨by first | omega | exact Nat.le_refl _⟩, by repeat (first | exact Drawn0.refl _ | apply Drawn0.step)⟩
  case rest =>
    clear HC3
    try clear p2
    try clear c4
    try clear c4b0
    obtain ⟨kq, x6_2, rfl, HA, HJ2, ⟨mc2, rfl⟩⟩ := hcut
    cases kq with
    | zero => exact absurd HA.out (by simp [coin_signed.j0])
    | succ kj2 =>
      have H := HA.out
      clear HA
      simp only [coin_signed.j0] at H
      by_cases c5 : x6_2 = true
      · subst c5
        have H1 : (some (wrap64 (-(wrap64 (a0))), 0)) = some (r1, r2) := by rw [if_pos rfl] at H; exact H
        clear H
        have H := H1
        clear H1
        simp only [Option.some.injEq, Prod.mk.injEq] at H
        obtain ⟨rfl, rfl⟩ := H
        go_wp2
        go_ret2
        exact ⟨by first | rfl | (simp; done) | (simp [*]; done), by repeat (first | exact Drawn0.refl _ | apply Drawn0.step)⟩
      · replace c5 := Bool.eq_false_iff.mpr c5
        subst c5
        have H1 : (if a0 < 9223372036854775808 then (some (wrap64 (a0), 0)) else (if a0 = 9223372036854775808 then (if a1 = true then (some ((-9223372036854775808), 0)) else (some (0, 10))) else (some (0, 10)))) = some (r1, r2) := by rw [if_neg (show ¬ (false = true) by decide)] at H; exact H
        clear H
        have H := H1
        clear H1
        by_cases c6 : a0 < 9223372036854775808
        · rw [if_pos c6] at H
          have c6b0 : decide (a0 < 9223372036854775808) = true := decide_eq_true c6
          clear c6
          simp only [Option.some.injEq, Prod.mk.injEq] at H
          obtain ⟨rfl, rfl⟩ := H
          go_wp2
          go_ret2
          exact ⟨by first | rfl | (simp; done) | (simp [*]; done), by repeat (first | exact Drawn0.refl _ | apply Drawn0.step)⟩
        · rw [if_neg c6] at H
          have c6b0 : decide (a0 < 9223372036854775808) = false := decide_eq_false c6
          clear c6
          by_cases c7 : a0 = 9223372036854775808
          · rw [if_pos c7] at H
            have c7b0 : (a0 == 9223372036854775808) = true := beq_iff_eq.mpr c7
            have c7b1 : (a0 != 9223372036854775808) = false := bne_eq_false_iff_eq.mpr c7
            clear c7
            by_cases c8 : a1 = true
            · subst c8
              have H1 : (some ((-9223372036854775808), 0)) = some (r1, r2) := by rw [if_pos rfl] at H; exact H
              clear H
              have H := H1
              clear H1
              simp only [Option.some.injEq, Prod.mk.injEq] at H
              obtain ⟨rfl, rfl⟩ := H
              go_wp2
              go_ret2
              exact ⟨by first | rfl | (simp; done) | (simp [*]; done), by repeat (first | exact Drawn0.refl _ | apply Drawn0.step)⟩
            · replace c8 := Bool.eq_false_iff.mpr c8
              subst c8
              have H1 : (some (0, 10)) = some (r1, r2) := by rw [if_neg (show ¬ (false = true) by decide)] at H; exact H
              clear H
              have H := H1
              clear H1
              simp only [Option.some.injEq, Prod.mk.injEq] at H
              obtain ⟨rfl, rfl⟩ := H
              go_wp2
              go_ret2
              exact ⟨by first | rfl | (simp; done) | (simp [*]; done), by repeat (first | exact Drawn0.refl _ | apply Drawn0.step)⟩
          · rw [if_neg c7] at H
            have c7b0 : (a0 == 9223372036854775808) = false := beq_eq_false_iff_ne.mpr c7
            have c7b1 : (a0 != 9223372036854775808) = true := bne_iff_ne.mpr c7
            simp only [Option.some.injEq, Prod.mk.injEq] at H
            obtain ⟨rfl, rfl⟩ := H
            go_wp2
            go_ret2
            exact ⟨by first | rfl | (simp; done) | (simp [*]; done), by repeat (first | exact Drawn0.refl _ | apply Drawn0.step)⟩

/-! ### coin_Div: function 45 -/
def coin_Div.j0 : Nat → Int → Int → Int → Int → Bool → Option (Int × Int)
  | 0, _, _, _, _, _ => none
  | k + 1, x0, x1, x2, x3, x15 => if x15 = true then (some (0, 2)) else (if x2 = 0 then (some (0, 11)) else ((coin_times.f x0 x1).bind fun bt112 => ((coin_size.f x2).bind fun t115 => (if bt112.1 ≥ t115 then (some (0, 10)) else ((bits_Div64.f bt112.1 bt112.2.1 t115).bind fun bt117 => ((coin_away.f x3 (bt112.2.2 != (decide (x2 < 0))) bt117.2 t115 bt117.1).bind fun t119 => (if t119 = true then (if (IntKind.u64.wrap (bt117.1 + 1)) = 0 then (some (0, 10)) else ((coin_signed.f k (IntKind.u64.wrap (bt117.1 + 1)) (bt112.2.2 != (decide (x2 < 0)))).bind fun bt120 => (some (bt120.1, bt120.2)))) else ((coin_signed.f k bt117.1 (bt112.2.2 != (decide (x2 < 0)))).bind fun bt122 => (some (bt122.1, bt122.2))))))))))
def coin_Div.f (k : Nat) (a0 : Int) (a1 : Int) (a2 : Int) (a3 : Int) : Option (Int × Int) := if a3 < 1 then (coin_Div.j0 k a0 a1 a2 a3 true) else (coin_Div.j0 k a0 a1 a2 a3 (decide (a3 > 3)))
theorem coin_Div.mono_l : ∀ k, (∀ y0 y1 y2 y3 y4, LeO (coin_Div.j0 k y0 y1 y2 y3 y4) (coin_Div.j0 (k + 1) y0 y1 y2 y3 y4))
  | 0 => fun _ _ _ _ _ r h => by simp [coin_Div.j0] at h
  | k + 1 => by
    have ih0 := coin_Div.mono_l k
    · intro y0 y1 y2 y3 y4
      unfold coin_Div.j0
      repeat' first
      | (with_reducible exact ih0 _ _ _ _ _)
      | (with_reducible exact coin_signed.mono _ _ _)
      | (with_reducible exact LeO.refl _)
      | (with_reducible exact LeO.none _)
      | (with_reducible refine LeO.ite ?_ ?_)
      | (with_reducible refine LeO.bind ?_ (fun _ => ?_))
      | exact ih0 _ _ _ _ _
      | exact coin_signed.mono _ _ _
      | exact LeO.none _
      | refine LeO.ite ?_ ?_
      | refine LeO.bind ?_ (fun _ => ?_)
theorem coin_Div.mono : ∀ a0 a1 a2 a3 k, LeO (coin_Div.f k a0 a1 a2 a3) (coin_Div.f (k + 1) a0 a1 a2 a3) := by
  intro a0 a1 a2 a3 k
  have ih0 := coin_Div.mono_l k
  unfold coin_Div.f
  repeat' first
      | (with_reducible exact ih0 _ _ _ _ _)
      | (with_reducible exact coin_signed.mono _ _ _)
      | (with_reducible exact LeO.refl _)
      | (with_reducible exact LeO.none _)
      | (with_reducible refine LeO.ite ?_ ?_)
      | (with_reducible refine LeO.bind ?_ (fun _ => ?_))
      | exact ih0 _ _ _ _ _
      | exact coin_signed.mono _ _ _
      | exact LeO.none _
      | refine LeO.ite ?_ ?_
      | refine LeO.bind ?_ (fun _ => ?_)
set_option maxHeartbeats 8000000 in
set_option maxRecDepth 100000 in
theorem coin_Div.calls (k : Nat) (a0 : Int) (a1 : Int) (a2 : Int) (a3 : Int) (r1 : Int) (r2 : Int) (w : World) (h : coin_Div.f k a0 a1 a2 a3 = some (r1, r2)) :
    Calls Try.prog 45 #[.int .i64 a0, .int .i64 a1, .int .i64 a2, .int .i64 a3] w fun e w' => e = .returned (.tuple #[.int .i64 r1, .int .i64 r2]) ∧ Below w.heap.size w w' := by
  have hu79 := Try.underlying79
  have HB := Aside0.mk (Below.refl w.heap.size w)
  have H : (if a3 < 1 then (coin_Div.j0 k a0 a1 a2 a3 true) else (coin_Div.j0 k a0 a1 a2 a3 (decide (a3 > 3)))) = some (r1, r2) := h
  clear h
  have HC5 := Aside0.mk H
  clear H
  go_enter Try.func45, Try.ntmps45
  go_upto_region 1 with (fail)
  go_cut [15] (fun v15 wc => ∃ (kq : Nat) (x15_4 : Bool), v15 = .bool x15_4 ∧ Aside0 (coin_Div.j0 kq a0 a1 a2 a3 x15_4 = some (r1, r2)) ∧ Aside0 (kq ≤ k) ∧ Aside0 (Below w.heap.size w wc))
  case first =>
    have H := HC5.out
    clear HC5
    by_cases c6 : a3 < 1
    · rw [if_pos c6] at H
      have c6b0 : decide (a3 < 1) = true := decide_eq_true c6
      clear c6
      (first | rw [c6b0] | (simp only [i64_w, i32_w]; rw [c6b0]) | skip)
      have H' := Aside0.mk H
      clear H
      go_wp2
      go_meet
      case rel => exact ⟨_, (true), (by first | rfl | (simp; done) | (simp [*]; done)), H', ⟨by first | omega | exact Nat.le_refl _⟩, ⟨by repeat (first | (with_reducible first | exact HB.out | apply below_alloc | apply pw_below_drewN | apply below_drew1) | exact HB.out)⟩⟩
    · rw [if_neg c6] at H
      have c6b0 : decide (a3 < 1) = false := decide_eq_false c6
      clear c6
      (first | rw [c6b0] | (simp only [i64_w, i32_w]; rw [c6b0]) | skip)
      have H' := Aside0.mk H
      clear H
      go_wp2
      go_meet
      case rel => exact ⟨_, (decide (a3 > 3)), (by first | rfl | (simp; done) | (simp [*]; done)), H', ⟨by first | omega | exact Nat.le_refl _⟩, ⟨by repeat (first | (with_reducible first | exact HB.out | apply below_alloc | apply pw_below_drewN | apply below_drew1) | exact HB.out)⟩⟩
  case rest =>
    clear HC5
    try clear p2
    try clear c4
    try clear c6
    try clear c6b0
    obtain ⟨kq, x15_4, rfl, HA, HJ4, HB⟩ := hcut
    cases kq with
    | zero => exact absurd HA.out (by simp [coin_Div.j0])
    | succ kj4 =>
      have H := HA.out
      clear HA
      simp only [coin_Div.j0] at H
      by_cases c7 : x15_4 = true
      · subst c7
        have H1 : (some (0, 2)) = some (r1, r2) := by rw [if_pos rfl] at H; exact H
        clear H
        have H := H1
        clear H1
        simp only [Option.some.injEq, Prod.mk.injEq] at H
        obtain ⟨rfl, rfl⟩ := H
        go_wp2
        go_ret2
        exact ⟨by first | rfl | (simp [errW_none, errW_some] <;> rfl) | (simp [*, errW_none, errW_some] <;> rfl), by repeat (first | (with_reducible first | exact HB.out | apply below_alloc | apply pw_below_drewN | apply below_drew1) | exact HB.out)⟩
      · replace c7 := Bool.eq_false_iff.mpr c7
        subst c7
        have H1 : (if a2 = 0 then (some (0, 11)) else ((coin_times.f a0 a1).bind fun bt112 => ((coin_size.f a2).bind fun t115 => (if bt112.1 ≥ t115 then (some (0, 10)) else ((bits_Div64.f bt112.1 bt112.2.1 t115).bind fun bt117 => ((coin_away.f a3 (bt112.2.2 != (decide (a2 < 0))) bt117.2 t115 bt117.1).bind fun t119 => (if t119 = true then (if (IntKind.u64.wrap (bt117.1 + 1)) = 0 then (some (0, 10)) else ((coin_signed.f kj4 (IntKind.u64.wrap (bt117.1 + 1)) (bt112.2.2 != (decide (a2 < 0)))).bind fun bt120 => (some (bt120.1, bt120.2)))) else ((coin_signed.f kj4 bt117.1 (bt112.2.2 != (decide (a2 < 0)))).bind fun bt122 => (some (bt122.1, bt122.2)))))))))) = some (r1, r2) := by rw [if_neg (show ¬ (false = true) by decide)] at H; exact H
        clear H
        have H := H1
        clear H1
        by_cases c8 : a2 = 0
        · rw [if_pos c8] at H
          have c8b0 : (a2 == 0) = true := beq_iff_eq.mpr c8
          have c8b1 : (a2 != 0) = false := bne_eq_false_iff_eq.mpr c8
          clear c8
          simp only [Option.some.injEq, Prod.mk.injEq] at H
          obtain ⟨rfl, rfl⟩ := H
          go_wp2
          go_ret2
          exact ⟨by first | rfl | (simp [errW_none, errW_some] <;> rfl) | (simp [*, errW_none, errW_some] <;> rfl), by repeat (first | (with_reducible first | exact HB.out | apply below_alloc | apply pw_below_drewN | apply below_drew1) | exact HB.out)⟩
        · rw [if_neg c8] at H
          have c8b0 : (a2 == 0) = false := beq_eq_false_iff_ne.mpr c8
          have c8b1 : (a2 != 0) = true := bne_iff_ne.mpr c8
          replace H := Option.bind_eq_some_iff.mp H
          obtain ⟨⟨t112, t113, t114⟩, A90, H⟩ := H
          replace H : ((coin_size.f a2).bind fun t115 => (if t112 ≥ t115 then (some (0, 10)) else ((bits_Div64.f t112 t113 t115).bind fun bt117 => ((coin_away.f a3 (t114 != (decide (a2 < 0))) bt117.2 t115 bt117.1).bind fun t119 => (if t119 = true then (if (IntKind.u64.wrap (bt117.1 + 1)) = 0 then (some (0, 10)) else ((coin_signed.f kj4 (IntKind.u64.wrap (bt117.1 + 1)) (t114 != (decide (a2 < 0)))).bind fun bt120 => (some (bt120.1, bt120.2)))) else ((coin_signed.f kj4 bt117.1 (t114 != (decide (a2 < 0)))).bind fun bt122 => (some (bt122.1, bt122.2)))))))) = some (r1, r2) := H
          have A9 := Aside0.mk A90
          clear A90
          replace H := Option.bind_eq_some_iff.mp H
          obtain ⟨t115, A100, H⟩ := H
          replace H : (if t112 ≥ t115 then (some (0, 10)) else ((bits_Div64.f t112 t113 t115).bind fun bt117 => ((coin_away.f a3 (t114 != (decide (a2 < 0))) bt117.2 t115 bt117.1).bind fun t119 => (if t119 = true then (if (IntKind.u64.wrap (bt117.1 + 1)) = 0 then (some (0, 10)) else ((coin_signed.f kj4 (IntKind.u64.wrap (bt117.1 + 1)) (t114 != (decide (a2 < 0)))).bind fun bt120 => (some (bt120.1, bt120.2)))) else ((coin_signed.f kj4 bt117.1 (t114 != (decide (a2 < 0)))).bind fun bt122 => (some (bt122.1, bt122.2))))))) = some (r1, r2) := H
          have A10 := Aside0.mk A100
          clear A100
          by_cases c11 : t112 ≥ t115
          · rw [if_pos c11] at H
            have c11b0 : decide (t115 ≤ t112) = true := decide_eq_true c11
            clear c11
            simp only [Option.some.injEq, Prod.mk.injEq] at H
            obtain ⟨rfl, rfl⟩ := H
            go_wp2_with (first | ((with_reducible refine gate_callee (f := 52) rfl ?_); refine goesL_ (some 27) rfl rfl Try.func52 (by kernel_rfl) rfl #[.int .i64 a0, .int .i64 a1] rfl (by (try simp only [List.map_toArray, List.map_cons, List.map_nil]); first | done | rfl | (simp only [List.length_drop, List.length_take]; rfl)) ?_; (with_reducible refine (coin_times.calls a0 a1 t112 t113 t114 _ A9.out).mono ?_); rintro e w12 ⟨rfl, hb⟩; refine ⟨_, rfl, ?_⟩; have n0_ := Aside0.mk (below_step (by repeat (first | (with_reducible first | exact HB.out | apply below_alloc | apply pw_below_drewN | apply below_drew1) | exact HB.out)) hb); clear HB; have HB := n0_; clear n0_; (try clear hb); (try clear hb2); (try clear hk); (try clear hi)) | ((with_reducible refine gate_callee (f := 58) rfl ?_); refine goesL_ (some 29) rfl rfl Try.func58 (by kernel_rfl) rfl #[.int .i64 a2] rfl (by (try simp only [List.map_toArray, List.map_cons, List.map_nil]); first | done | rfl | (simp only [List.length_drop, List.length_take]; rfl)) ?_; (with_reducible refine (coin_size.calls a2 t115 _ A10.out).mono ?_); rintro e w' ⟨rfl, ⟨nd, rfl⟩⟩; refine ⟨_, rfl, ?_⟩; (try (rw [drewN_self w12]; generalize hq_ : World.drewN w12 _ = w12; have n0_ : Aside0 (Below w.heap.size w w12) := ⟨by rw [← hq_]; exact (by repeat (first | (with_reducible first | exact HB.out | apply below_alloc | apply pw_below_drewN | apply below_drew1) | exact HB.out))⟩; clear HB hq_; have HB := n0_; clear n0_))) | ((with_reducible refine gate_dst (N := 10) rfl ?_); refine box_event ?hg (N := 10) ?hd (cs := #[.int .u64 0, .int .u64 0, .bool false]) (t := 79) ?hr ?_; (case hd => rfl); (case hg => rfl); (case hr => first | (go_simp; done) | (go_simp; rfl)); intro gb116 hg w13 hbox hb; have n0_ := Aside0.mk (below_step (by repeat (first | (with_reducible first | exact HB.out | apply below_alloc | apply pw_below_drewN | apply below_drew1) | exact HB.out)) hb); have n1_ := Aside0.mk (hbox); have n2_ := Aside0.mk ((by rw [hg]; exact (below_size (by repeat (first | (with_reducible first | exact HB.out | apply below_alloc | apply pw_below_drewN | apply below_drew1) | exact HB.out))) : w.heap.size ≤ gb116)); have n3_ := Aside0.mk ((by rw [hg]; exact (below_size (by repeat (first | (with_reducible first | exact HB.out | apply below_alloc | apply pw_below_drewN | apply below_drew1) | exact HB.out))) : w.heap.size ≤ gb116)); clear HB; have HB := n0_; have BK116 := n1_; have GW116 := n2_; have GE116 := n3_; clear n0_ n1_ n2_ n3_; clear hb hbox hg; have hcz14_0 : w13.cell? ⟨gb116, 0, none⟩ = some (.int .u64 0) := (blk_cell BK116.out 0).trans rfl; have hcz14_1 : w13.cell? ⟨gb116, 1, none⟩ = some (.int .u64 0) := (blk_cell BK116.out 1).trans rfl; have hcz14_2 : w13.cell? ⟨gb116, 2, none⟩ = some (.bool false) := (blk_cell BK116.out 2).trans rfl; have hfz14_0 := blk_frozen BK116.out 0; have hfz14_1 := blk_frozen BK116.out 1; have hfz14_2 := blk_frozen BK116.out 2))
            go_ret2
            exact ⟨by first | rfl | (simp [errW_none, errW_some] <;> rfl) | (simp [*, errW_none, errW_some] <;> rfl), by repeat (first | (with_reducible first | exact HB.out | apply below_alloc | apply pw_below_drewN | apply below_drew1 | refine below_set ?_ GE116.out) | exact HB.out)⟩
          · rw [if_neg c11] at H
            have c11b0 : decide (t115 ≤ t112) = false := decide_eq_false c11
            clear c11
            replace H := Option.bind_eq_some_iff.mp H
            obtain ⟨⟨t117, t118⟩, A150, H⟩ := H
            replace H : ((coin_away.f a3 (t114 != (decide (a2 < 0))) t118 t115 t117).bind fun t119 => (if t119 = true then (if (IntKind.u64.wrap (t117 + 1)) = 0 then (some (0, 10)) else ((coin_signed.f kj4 (IntKind.u64.wrap (t117 + 1)) (t114 != (decide (a2 < 0)))).bind fun bt120 => (some (bt120.1, bt120.2)))) else ((coin_signed.f kj4 t117 (t114 != (decide (a2 < 0)))).bind fun bt122 => (some (bt122.1, bt122.2))))) = some (r1, r2) := H
            have A15 := Aside0.mk A150
            clear A150
            replace H := Option.bind_eq_some_iff.mp H
            obtain ⟨t119, A160, H⟩ := H
            replace H : (if t119 = true then (if (IntKind.u64.wrap (t117 + 1)) = 0 then (some (0, 10)) else ((coin_signed.f kj4 (IntKind.u64.wrap (t117 + 1)) (t114 != (decide (a2 < 0)))).bind fun bt120 => (some (bt120.1, bt120.2)))) else ((coin_signed.f kj4 t117 (t114 != (decide (a2 < 0)))).bind fun bt122 => (some (bt122.1, bt122.2)))) = some (r1, r2) := H
            have A16 := Aside0.mk A160
            clear A160
            by_cases c17 : t119 = true
            · subst c17
              have H1 : (if (IntKind.u64.wrap (t117 + 1)) = 0 then (some (0, 10)) else ((coin_signed.f kj4 (IntKind.u64.wrap (t117 + 1)) (t114 != (decide (a2 < 0)))).bind fun bt120 => (some (bt120.1, bt120.2)))) = some (r1, r2) := by rw [if_pos rfl] at H; exact H
              clear H
              have H := H1
              clear H1
              by_cases c18 : (IntKind.u64.wrap (t117 + 1)) = 0
              · rw [if_pos c18] at H
                have c18b0 : ((IntKind.u64.wrap (t117 + 1)) == 0) = true := beq_iff_eq.mpr c18
                have c18b1 : ((IntKind.u64.wrap (t117 + 1)) != 0) = false := bne_eq_false_iff_eq.mpr c18
                clear c18
                simp only [Option.some.injEq, Prod.mk.injEq] at H
                obtain ⟨rfl, rfl⟩ := H
                go_wp2_with (first | ((with_reducible refine gate_callee (f := 52) rfl ?_); refine goesL_ (some 27) rfl rfl Try.func52 (by kernel_rfl) rfl #[.int .i64 a0, .int .i64 a1] rfl (by (try simp only [List.map_toArray, List.map_cons, List.map_nil]); first | done | rfl | (simp only [List.length_drop, List.length_take]; rfl)) ?_; (with_reducible refine (coin_times.calls a0 a1 t112 t113 t114 _ A9.out).mono ?_); rintro e w19 ⟨rfl, hb⟩; refine ⟨_, rfl, ?_⟩; have n0_ := Aside0.mk (below_step (by repeat (first | (with_reducible first | exact HB.out | apply below_alloc | apply pw_below_drewN | apply below_drew1) | exact HB.out)) hb); clear HB; have HB := n0_; clear n0_; (try clear hb); (try clear hb2); (try clear hk); (try clear hi)) | ((with_reducible refine gate_callee (f := 58) rfl ?_); refine goesL_ (some 29) rfl rfl Try.func58 (by kernel_rfl) rfl #[.int .i64 a2] rfl (by (try simp only [List.map_toArray, List.map_cons, List.map_nil]); first | done | rfl | (simp only [List.length_drop, List.length_take]; rfl)) ?_; (with_reducible refine (coin_size.calls a2 t115 _ A10.out).mono ?_); rintro e w' ⟨rfl, ⟨nd, rfl⟩⟩; refine ⟨_, rfl, ?_⟩; (try (rw [drewN_self w19]; generalize hq_ : World.drewN w19 _ = w19; have n0_ : Aside0 (Below w.heap.size w w19) := ⟨by rw [← hq_]; exact (by repeat (first | (with_reducible first | exact HB.out | apply below_alloc | apply pw_below_drewN | apply below_drew1) | exact HB.out))⟩; clear HB hq_; have HB := n0_; clear n0_))) | ((with_reducible refine gate_dst (N := 10) rfl ?_); refine box_event ?hg (N := 10) ?hd (cs := #[.int .u64 0, .int .u64 0, .bool false]) (t := 79) ?hr ?_; (case hd => rfl); (case hg => rfl); (case hr => first | (go_simp; done) | (go_simp; rfl)); intro gb116 hg w20 hbox hb; have n0_ := Aside0.mk (below_step (by repeat (first | (with_reducible first | exact HB.out | apply below_alloc | apply pw_below_drewN | apply below_drew1) | exact HB.out)) hb); have n1_ := Aside0.mk (hbox); have n2_ := Aside0.mk ((by rw [hg]; exact (below_size (by repeat (first | (with_reducible first | exact HB.out | apply below_alloc | apply pw_below_drewN | apply below_drew1) | exact HB.out))) : w.heap.size ≤ gb116)); have n3_ := Aside0.mk ((by rw [hg]; exact (below_size (by repeat (first | (with_reducible first | exact HB.out | apply below_alloc | apply pw_below_drewN | apply below_drew1) | exact HB.out))) : w.heap.size ≤ gb116)); clear HB; have HB := n0_; have BK116 := n1_; have GW116 := n2_; have GE116 := n3_; clear n0_ n1_ n2_ n3_; clear hb hbox hg; have hcz21_0 : w20.cell? ⟨gb116, 0, none⟩ = some (.int .u64 0) := (blk_cell BK116.out 0).trans rfl; have hcz21_1 : w20.cell? ⟨gb116, 1, none⟩ = some (.int .u64 0) := (blk_cell BK116.out 1).trans rfl; have hcz21_2 : w20.cell? ⟨gb116, 2, none⟩ = some (.bool false) := (blk_cell BK116.out 2).trans rfl; have hfz21_0 := blk_frozen BK116.out 0; have hfz21_1 := blk_frozen BK116.out 1; have hfz21_2 := blk_frozen BK116.out 2) | ((with_reducible refine gate_callee (f := 59) rfl ?_); refine goesL_ (some 40) rfl rfl Try.func59 (by kernel_rfl) rfl #[.int .u64 t112, .int .u64 t113, .int .u64 t115] rfl (by (try simp only [List.map_toArray, List.map_cons, List.map_nil]); first | done | rfl | (simp only [List.length_drop, List.length_take]; rfl)) ?_; (with_reducible refine (bits_Div64.calls t112 t113 t115 t117 t118 _ A15.out).mono ?_); rintro e w22 ⟨rfl, hb⟩; refine ⟨_, rfl, ?_⟩; have n0_ := Aside0.mk (blk_below (g := gb116) (o := .cells #[.int .u64 t112, .int .u64 t113, .bool t114] 79 (0, 0)) (by (with_reducible repeat (first | refine blk_drewN ?_ _ | refine blk_drew ?_ | refine blk_alloc ?_ _)); refine blk_put (cs := #[.int .u64 t112, .int .u64 t113, .bool false]) ?_ 2 _ rfl; (with_reducible repeat (first | refine blk_drewN ?_ _ | refine blk_drew ?_ | refine blk_alloc ?_ _)); refine blk_put (cs := #[.int .u64 t112, .int .u64 0, .bool false]) ?_ 1 _ rfl; (with_reducible repeat (first | refine blk_drewN ?_ _ | refine blk_drew ?_ | refine blk_alloc ?_ _)); refine blk_put (cs := #[.int .u64 0, .int .u64 0, .bool false]) ?_ 0 _ rfl; (with_reducible repeat (first | refine blk_drewN ?_ _ | refine blk_drew ?_ | refine blk_alloc ?_ _)); exact BK116.out) hb); have n1_ := Aside0.mk (below_step (by repeat (first | (with_reducible first | exact HB.out | apply below_alloc | apply pw_below_drewN | apply below_drew1 | refine below_set ?_ GE116.out) | exact HB.out)) hb); clear BK116; clear HB; have BK116 := n0_; have HB := n1_; clear n0_ n1_; (try clear hb); (try clear hb2); (try clear hk); (try clear hi); have hcz23_0 : w22.cell? ⟨gb116, 0, none⟩ = some (.int .u64 t112) := (blk_cell BK116.out 0).trans rfl; have hcz23_1 : w22.cell? ⟨gb116, 1, none⟩ = some (.int .u64 t113) := (blk_cell BK116.out 1).trans rfl; have hcz23_2 : w22.cell? ⟨gb116, 2, none⟩ = some (.bool t114) := (blk_cell BK116.out 2).trans rfl; have hfz23_0 := blk_frozen BK116.out 0; have hfz23_1 := blk_frozen BK116.out 1; have hfz23_2 := blk_frozen BK116.out 2) | ((with_reducible refine gate_callee (f := 60) rfl ?_); refine goesL_ (some 53) rfl rfl Try.func60 (by kernel_rfl) rfl #[.int .i64 a3, .bool (t114 != (decide (a2 < 0))), .int .u64 t118, .int .u64 t115, .int .u64 t117] rfl (by (try simp only [List.map_toArray, List.map_cons, List.map_nil]); first | done | rfl | (simp only [List.length_drop, List.length_take]; rfl)) ?_; (with_reducible refine (coin_away.calls a3 (t114 != (decide (a2 < 0))) t118 t115 t117 true _ A16.out).mono ?_); rintro e w24 ⟨rfl, hb⟩; refine ⟨_, rfl, ?_⟩; have n0_ := Aside0.mk (blk_below (g := gb116) (o := .cells #[.int .u64 t112, .int .u64 t113, .bool t114] 79 (0, 0)) (by (with_reducible repeat (first | refine blk_drewN ?_ _ | refine blk_drew ?_ | refine blk_alloc ?_ _)); exact BK116.out) hb); have n1_ := Aside0.mk (below_step (by repeat (first | (with_reducible first | exact HB.out | apply below_alloc | apply pw_below_drewN | apply below_drew1 | refine below_set ?_ GE116.out) | exact HB.out)) hb); clear BK116; clear HB; have BK116 := n0_; have HB := n1_; clear n0_ n1_; (try clear hb); (try clear hb2); (try clear hk); (try clear hi)))
                go_ret2
                exact ⟨by first | rfl | (simp [errW_none, errW_some] <;> rfl) | (simp [*, errW_none, errW_some] <;> rfl), by repeat (first | (with_reducible first | exact HB.out | apply below_alloc | apply pw_below_drewN | apply below_drew1 | refine below_set ?_ GE116.out) | exact HB.out)⟩
              · rw [if_neg c18] at H
                have c18b0 : ((IntKind.u64.wrap (t117 + 1)) == 0) = false := beq_eq_false_iff_ne.mpr c18
                have c18b1 : ((IntKind.u64.wrap (t117 + 1)) != 0) = true := bne_iff_ne.mpr c18
                replace H := Option.bind_eq_some_iff.mp H
                obtain ⟨⟨t120, t121⟩, A250, H⟩ := H
                replace H : (some (t120, t121)) = some (r1, r2) := H
                have A25 := Aside0.mk A250
                clear A250
                simp only [Option.some.injEq, Prod.mk.injEq] at H
                obtain ⟨rfl, rfl⟩ := H
                go_wp2_with (first | ((with_reducible refine gate_callee (f := 52) rfl ?_); refine goesL_ (some 27) rfl rfl Try.func52 (by kernel_rfl) rfl #[.int .i64 a0, .int .i64 a1] rfl (by (try simp only [List.map_toArray, List.map_cons, List.map_nil]); first | done | rfl | (simp only [List.length_drop, List.length_take]; rfl)) ?_; (with_reducible refine (coin_times.calls a0 a1 t112 t113 t114 _ A9.out).mono ?_); rintro e w26 ⟨rfl, hb⟩; refine ⟨_, rfl, ?_⟩; have n0_ := Aside0.mk (below_step (by repeat (first | (with_reducible first | exact HB.out | apply below_alloc | apply pw_below_drewN | apply below_drew1) | exact HB.out)) hb); clear HB; have HB := n0_; clear n0_; (try clear hb); (try clear hb2); (try clear hk); (try clear hi)) | ((with_reducible refine gate_callee (f := 58) rfl ?_); refine goesL_ (some 29) rfl rfl Try.func58 (by kernel_rfl) rfl #[.int .i64 a2] rfl (by (try simp only [List.map_toArray, List.map_cons, List.map_nil]); first | done | rfl | (simp only [List.length_drop, List.length_take]; rfl)) ?_; (with_reducible refine (coin_size.calls a2 t115 _ A10.out).mono ?_); rintro e w' ⟨rfl, ⟨nd, rfl⟩⟩; refine ⟨_, rfl, ?_⟩; (try (rw [drewN_self w26]; generalize hq_ : World.drewN w26 _ = w26; have n0_ : Aside0 (Below w.heap.size w w26) := ⟨by rw [← hq_]; exact (by repeat (first | (with_reducible first | exact HB.out | apply below_alloc | apply pw_below_drewN | apply below_drew1) | exact HB.out))⟩; clear HB hq_; have HB := n0_; clear n0_))) | ((with_reducible refine gate_dst (N := 10) rfl ?_); refine box_event ?hg (N := 10) ?hd (cs := #[.int .u64 0, .int .u64 0, .bool false]) (t := 79) ?hr ?_; (case hd => rfl); (case hg => rfl); (case hr => first | (go_simp; done) | (go_simp; rfl)); intro gb116 hg w27 hbox hb; have n0_ := Aside0.mk (below_step (by repeat (first | (with_reducible first | exact HB.out | apply below_alloc | apply pw_below_drewN | apply below_drew1) | exact HB.out)) hb); have n1_ := Aside0.mk (hbox); have n2_ := Aside0.mk ((by rw [hg]; exact (below_size (by repeat (first | (with_reducible first | exact HB.out | apply below_alloc | apply pw_below_drewN | apply below_drew1) | exact HB.out))) : w.heap.size ≤ gb116)); have n3_ := Aside0.mk ((by rw [hg]; exact (below_size (by repeat (first | (with_reducible first | exact HB.out | apply below_alloc | apply pw_below_drewN | apply below_drew1) | exact HB.out))) : w.heap.size ≤ gb116)); clear HB; have HB := n0_; have BK116 := n1_; have GW116 := n2_; have GE116 := n3_; clear n0_ n1_ n2_ n3_; clear hb hbox hg; have hcz28_0 : w27.cell? ⟨gb116, 0, none⟩ = some (.int .u64 0) := (blk_cell BK116.out 0).trans rfl; have hcz28_1 : w27.cell? ⟨gb116, 1, none⟩ = some (.int .u64 0) := (blk_cell BK116.out 1).trans rfl; have hcz28_2 : w27.cell? ⟨gb116, 2, none⟩ = some (.bool false) := (blk_cell BK116.out 2).trans rfl; have hfz28_0 := blk_frozen BK116.out 0; have hfz28_1 := blk_frozen BK116.out 1; have hfz28_2 := blk_frozen BK116.out 2) | ((with_reducible refine gate_callee (f := 59) rfl ?_); refine goesL_ (some 40) rfl rfl Try.func59 (by kernel_rfl) rfl #[.int .u64 t112, .int .u64 t113, .int .u64 t115] rfl (by (try simp only [List.map_toArray, List.map_cons, List.map_nil]); first | done | rfl | (simp only [List.length_drop, List.length_take]; rfl)) ?_; (with_reducible refine (bits_Div64.calls t112 t113 t115 t117 t118 _ A15.out).mono ?_); rintro e w29 ⟨rfl, hb⟩; refine ⟨_, rfl, ?_⟩; have n0_ := Aside0.mk (blk_below (g := gb116) (o := .cells #[.int .u64 t112, .int .u64 t113, .bool t114] 79 (0, 0)) (by (with_reducible repeat (first | refine blk_drewN ?_ _ | refine blk_drew ?_ | refine blk_alloc ?_ _)); refine blk_put (cs := #[.int .u64 t112, .int .u64 t113, .bool false]) ?_ 2 _ rfl; (with_reducible repeat (first | refine blk_drewN ?_ _ | refine blk_drew ?_ | refine blk_alloc ?_ _)); refine blk_put (cs := #[.int .u64 t112, .int .u64 0, .bool false]) ?_ 1 _ rfl; (with_reducible repeat (first | refine blk_drewN ?_ _ | refine blk_drew ?_ | refine blk_alloc ?_ _)); refine blk_put (cs := #[.int .u64 0, .int .u64 0, .bool false]) ?_ 0 _ rfl; (with_reducible repeat (first | refine blk_drewN ?_ _ | refine blk_drew ?_ | refine blk_alloc ?_ _)); exact BK116.out) hb); have n1_ := Aside0.mk (below_step (by repeat (first | (with_reducible first | exact HB.out | apply below_alloc | apply pw_below_drewN | apply below_drew1 | refine below_set ?_ GE116.out) | exact HB.out)) hb); clear BK116; clear HB; have BK116 := n0_; have HB := n1_; clear n0_ n1_; (try clear hb); (try clear hb2); (try clear hk); (try clear hi); have hcz30_0 : w29.cell? ⟨gb116, 0, none⟩ = some (.int .u64 t112) := (blk_cell BK116.out 0).trans rfl; have hcz30_1 : w29.cell? ⟨gb116, 1, none⟩ = some (.int .u64 t113) := (blk_cell BK116.out 1).trans rfl; have hcz30_2 : w29.cell? ⟨gb116, 2, none⟩ = some (.bool t114) := (blk_cell BK116.out 2).trans rfl; have hfz30_0 := blk_frozen BK116.out 0; have hfz30_1 := blk_frozen BK116.out 1; have hfz30_2 := blk_frozen BK116.out 2) | ((with_reducible refine gate_callee (f := 60) rfl ?_); refine goesL_ (some 53) rfl rfl Try.func60 (by kernel_rfl) rfl #[.int .i64 a3, .bool (t114 != (decide (a2 < 0))), .int .u64 t118, .int .u64 t115, .int .u64 t117] rfl (by (try simp only [List.map_toArray, List.map_cons, List.map_nil]); first | done | rfl | (simp only [List.length_drop, List.length_take]; rfl)) ?_; (with_reducible refine (coin_away.calls a3 (t114 != (decide (a2 < 0))) t118 t115 t117 true _ A16.out).mono ?_); rintro e w31 ⟨rfl, hb⟩; refine ⟨_, rfl, ?_⟩; have n0_ := Aside0.mk (blk_below (g := gb116) (o := .cells #[.int .u64 t112, .int .u64 t113, .bool t114] 79 (0, 0)) (by (with_reducible repeat (first | refine blk_drewN ?_ _ | refine blk_drew ?_ | refine blk_alloc ?_ _)); exact BK116.out) hb); have n1_ := Aside0.mk (below_step (by repeat (first | (with_reducible first | exact HB.out | apply below_alloc | apply pw_below_drewN | apply below_drew1 | refine below_set ?_ GE116.out) | exact HB.out)) hb); clear BK116; clear HB; have BK116 := n0_; have HB := n1_; clear n0_ n1_; (try clear hb); (try clear hb2); (try clear hk); (try clear hi)) | ((with_reducible refine gate_callee (f := 61) rfl ?_); refine goesL_ (some 60) rfl rfl Try.func61 (by kernel_rfl) rfl #[.int .u64 (IntKind.u64.wrap (t117 + 1)), .bool (t114 != (decide (a2 < 0)))] rfl (by (try simp only [List.map_toArray, List.map_cons, List.map_nil]); first | done | rfl | (simp only [List.length_drop, List.length_take]; rfl)) ?_; (with_reducible refine (coin_signed.calls kj4 (IntKind.u64.wrap (t117 + 1)) (t114 != (decide (a2 < 0))) t120 t121 _ A25.out).mono ?_); rintro e w' ⟨rfl, ⟨nd, rfl⟩⟩; refine ⟨_, rfl, ?_⟩))
                go_ret2
                exact ⟨by first | rfl | (simp [errW_none, errW_some] <;> rfl) | (simp [*, errW_none, errW_some] <;> rfl), by repeat (first | (with_reducible first | exact HB.out | apply below_alloc | apply pw_below_drewN | apply below_drew1 | refine below_set ?_ GE116.out) | exact HB.out)⟩
            · replace c17 := Bool.eq_false_iff.mpr c17
              subst c17
              have H1 : ((coin_signed.f kj4 t117 (t114 != (decide (a2 < 0)))).bind fun bt122 => (some (bt122.1, bt122.2))) = some (r1, r2) := by rw [if_neg (show ¬ (false = true) by decide)] at H; exact H
              clear H
              have H := H1
              clear H1
              replace H := Option.bind_eq_some_iff.mp H
              obtain ⟨⟨t122, t123⟩, A320, H⟩ := H
              replace H : (some (t122, t123)) = some (r1, r2) := H
              have A32 := Aside0.mk A320
              clear A320
              simp only [Option.some.injEq, Prod.mk.injEq] at H
              obtain ⟨rfl, rfl⟩ := H
              go_wp2_with (first | ((with_reducible refine gate_callee (f := 52) rfl ?_); refine goesL_ (some 27) rfl rfl Try.func52 (by kernel_rfl) rfl #[.int .i64 a0, .int .i64 a1] rfl (by (try simp only [List.map_toArray, List.map_cons, List.map_nil]); first | done | rfl | (simp only [List.length_drop, List.length_take]; rfl)) ?_; (with_reducible refine (coin_times.calls a0 a1 t112 t113 t114 _ A9.out).mono ?_); rintro e w33 ⟨rfl, hb⟩; refine ⟨_, rfl, ?_⟩; have n0_ := Aside0.mk (below_step (by repeat (first | (with_reducible first | exact HB.out | apply below_alloc | apply pw_below_drewN | apply below_drew1) | exact HB.out)) hb); clear HB; have HB := n0_; clear n0_; (try clear hb); (try clear hb2); (try clear hk); (try clear hi)) | ((with_reducible refine gate_callee (f := 58) rfl ?_); refine goesL_ (some 29) rfl rfl Try.func58 (by kernel_rfl) rfl #[.int .i64 a2] rfl (by (try simp only [List.map_toArray, List.map_cons, List.map_nil]); first | done | rfl | (simp only [List.length_drop, List.length_take]; rfl)) ?_; (with_reducible refine (coin_size.calls a2 t115 _ A10.out).mono ?_); rintro e w' ⟨rfl, ⟨nd, rfl⟩⟩; refine ⟨_, rfl, ?_⟩; (try (rw [drewN_self w33]; generalize hq_ : World.drewN w33 _ = w33; have n0_ : Aside0 (Below w.heap.size w w33) := ⟨by rw [← hq_]; exact (by repeat (first | (with_reducible first | exact HB.out | apply below_alloc | apply pw_below_drewN | apply below_drew1) | exact HB.out))⟩; clear HB hq_; have HB := n0_; clear n0_))) | ((with_reducible refine gate_dst (N := 10) rfl ?_); refine box_event ?hg (N := 10) ?hd (cs := #[.int .u64 0, .int .u64 0, .bool false]) (t := 79) ?hr ?_; (case hd => rfl); (case hg => rfl); (case hr => first | (go_simp; done) | (go_simp; rfl)); intro gb116 hg w34 hbox hb; have n0_ := Aside0.mk (below_step (by repeat (first | (with_reducible first | exact HB.out | apply below_alloc | apply pw_below_drewN | apply below_drew1) | exact HB.out)) hb); have n1_ := Aside0.mk (hbox); have n2_ := Aside0.mk ((by rw [hg]; exact (below_size (by repeat (first | (with_reducible first | exact HB.out | apply below_alloc | apply pw_below_drewN | apply below_drew1) | exact HB.out))) : w.heap.size ≤ gb116)); have n3_ := Aside0.mk ((by rw [hg]; exact (below_size (by repeat (first | (with_reducible first | exact HB.out | apply below_alloc | apply pw_below_drewN | apply below_drew1) | exact HB.out))) : w.heap.size ≤ gb116)); clear HB; have HB := n0_; have BK116 := n1_; have GW116 := n2_; have GE116 := n3_; clear n0_ n1_ n2_ n3_; clear hb hbox hg; have hcz35_0 : w34.cell? ⟨gb116, 0, none⟩ = some (.int .u64 0) := (blk_cell BK116.out 0).trans rfl; have hcz35_1 : w34.cell? ⟨gb116, 1, none⟩ = some (.int .u64 0) := (blk_cell BK116.out 1).trans rfl; have hcz35_2 : w34.cell? ⟨gb116, 2, none⟩ = some (.bool false) := (blk_cell BK116.out 2).trans rfl; have hfz35_0 := blk_frozen BK116.out 0; have hfz35_1 := blk_frozen BK116.out 1; have hfz35_2 := blk_frozen BK116.out 2) | ((with_reducible refine gate_callee (f := 59) rfl ?_); refine goesL_ (some 40) rfl rfl Try.func59 (by kernel_rfl) rfl #[.int .u64 t112, .int .u64 t113, .int .u64 t115] rfl (by (try simp only [List.map_toArray, List.map_cons, List.map_nil]); first | done | rfl | (simp only [List.length_drop, List.length_take]; rfl)) ?_; (with_reducible refine (bits_Div64.calls t112 t113 t115 t117 t118 _ A15.out).mono ?_); rintro e w36 ⟨rfl, hb⟩; refine ⟨_, rfl, ?_⟩; have n0_ := Aside0.mk (blk_below (g := gb116) (o := .cells #[.int .u64 t112, .int .u64 t113, .bool t114] 79 (0, 0)) (by (with_reducible repeat (first | refine blk_drewN ?_ _ | refine blk_drew ?_ | refine blk_alloc ?_ _)); refine blk_put (cs := #[.int .u64 t112, .int .u64 t113, .bool false]) ?_ 2 _ rfl; (with_reducible repeat (first | refine blk_drewN ?_ _ | refine blk_drew ?_ | refine blk_alloc ?_ _)); refine blk_put (cs := #[.int .u64 t112, .int .u64 0, .bool false]) ?_ 1 _ rfl; (with_reducible repeat (first | refine blk_drewN ?_ _ | refine blk_drew ?_ | refine blk_alloc ?_ _)); refine blk_put (cs := #[.int .u64 0, .int .u64 0, .bool false]) ?_ 0 _ rfl; (with_reducible repeat (first | refine blk_drewN ?_ _ | refine blk_drew ?_ | refine blk_alloc ?_ _)); exact BK116.out) hb); have n1_ := Aside0.mk (below_step (by repeat (first | (with_reducible first | exact HB.out | apply below_alloc | apply pw_below_drewN | apply below_drew1 | refine below_set ?_ GE116.out) | exact HB.out)) hb); clear BK116; clear HB; have BK116 := n0_; have HB := n1_; clear n0_ n1_; (try clear hb); (try clear hb2); (try clear hk); (try clear hi); have hcz37_0 : w36.cell? ⟨gb116, 0, none⟩ = some (.int .u64 t112) := (blk_cell BK116.out 0).trans rfl; have hcz37_1 : w36.cell? ⟨gb116, 1, none⟩ = some (.int .u64 t113) := (blk_cell BK116.out 1).trans rfl; have hcz37_2 : w36.cell? ⟨gb116, 2, none⟩ = some (.bool t114) := (blk_cell BK116.out 2).trans rfl; have hfz37_0 := blk_frozen BK116.out 0; have hfz37_1 := blk_frozen BK116.out 1; have hfz37_2 := blk_frozen BK116.out 2) | ((with_reducible refine gate_callee (f := 60) rfl ?_); refine goesL_ (some 53) rfl rfl Try.func60 (by kernel_rfl) rfl #[.int .i64 a3, .bool (t114 != (decide (a2 < 0))), .int .u64 t118, .int .u64 t115, .int .u64 t117] rfl (by (try simp only [List.map_toArray, List.map_cons, List.map_nil]); first | done | rfl | (simp only [List.length_drop, List.length_take]; rfl)) ?_; (with_reducible refine (coin_away.calls a3 (t114 != (decide (a2 < 0))) t118 t115 t117 false _ A16.out).mono ?_); rintro e w38 ⟨rfl, hb⟩; refine ⟨_, rfl, ?_⟩; have n0_ := Aside0.mk (blk_below (g := gb116) (o := .cells #[.int .u64 t112, .int .u64 t113, .bool t114] 79 (0, 0)) (by (with_reducible repeat (first | refine blk_drewN ?_ _ | refine blk_drew ?_ | refine blk_alloc ?_ _)); exact BK116.out) hb); have n1_ := Aside0.mk (below_step (by repeat (first | (with_reducible first | exact HB.out | apply below_alloc | apply pw_below_drewN | apply below_drew1 | refine below_set ?_ GE116.out) | exact HB.out)) hb); clear BK116; clear HB; have BK116 := n0_; have HB := n1_; clear n0_ n1_; (try clear hb); (try clear hb2); (try clear hk); (try clear hi)) | ((with_reducible refine gate_callee (f := 61) rfl ?_); refine goesL_ (some 60) rfl rfl Try.func61 (by kernel_rfl) rfl #[.int .u64 t117, .bool (t114 != (decide (a2 < 0)))] rfl (by (try simp only [List.map_toArray, List.map_cons, List.map_nil]); first | done | rfl | (simp only [List.length_drop, List.length_take]; rfl)) ?_; (with_reducible refine (coin_signed.calls kj4 t117 (t114 != (decide (a2 < 0))) t122 t123 _ A32.out).mono ?_); rintro e w' ⟨rfl, ⟨nd, rfl⟩⟩; refine ⟨_, rfl, ?_⟩))
              go_ret2
              exact ⟨by first | rfl | (simp [errW_none, errW_some] <;> rfl) | (simp [*, errW_none, errW_some] <;> rfl), by repeat (first | (with_reducible first | exact HB.out | apply below_alloc | apply pw_below_drewN | apply below_drew1 | refine below_set ?_ GE116.out) | exact HB.out)⟩

end Go.Proofs.Ythaaghkplbbgdaa.Shb
