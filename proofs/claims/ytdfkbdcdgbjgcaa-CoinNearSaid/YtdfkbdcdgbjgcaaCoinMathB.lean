/- Rounded down and rounded up differ by at most 1, and the nearest one is one of both: on numbers. -/
import Derived.Test.YtdfkbdcdgbjgcaaCoinMathA
namespace Go.Proofs.Ytdfkbdcdgbjgcaa.Coin.M
open Go.RowKit Go.Proofs.Ytdfkbdcdgbjgcaa.Coin Go.Proofs.YtdfkbdcdgbjgcaaW.PrintWords Go.Proofs.YtdfkbdcdgbjgcaaW.PrintLast
set_option linter.unusedVariables false
set_option linter.unusedSimpArgs false
theorem lives {k : Nat} (hk : 8 ≤ k) : jobberlaw01_lives.f k = some true := by
  have e : jobberlaw01_lives.f 8 = some true := by decide +kernel
  have m : ∀ d, jobberlaw01_lives.f (8 + d) = some true := by
    intro d
    induction d with
    | zero => exact e
    | succ d ih => exact jobberlaw01_lives.mono _ _ ih
  have := m (k - 8)
  rwa [show 8 + (k - 8) = k by omega] at this
theorem sub {a b : Int} (ha : I64 a) (hb : I64 b) (h : I64 (a - b)) : coin_Sub.f a b = some (a - b, 0) := by
  unfold I64 at *
  unfold coin_Sub.f
  rw [wid (by omega) (by omega)]
  split
  · rename_i hc
    rw [if_neg]
    intro h2
    by_cases c1 : a < 0 <;> by_cases c2 : b < 0 <;> by_cases c3 : a - b < 0 <;> simp [c1, c2, c3] at hc h2 <;> omega
  · rfl
theorem sgn_ok {n : Bool} {q : Int} (h0 : 0 ≤ q) (h : (sgn n q).2 = 0) : (sgn n q).1 = (if n then -q else q) ∧ I64 (if n then -q else q) := by
  unfold sgn at *
  unfold I64
  split at h
  · rename_i hq
    rw [if_pos hq]
    refine ⟨rfl, ?_⟩
    cases n <;> simp <;> omega
  · rename_i hq
    split at h
    · rename_i he
      rw [if_neg hq, if_pos he]
      obtain ⟨rfl, rfl⟩ := he
      simp
    · simp at h
theorem divS_in {a b c round : Int} (h1 : 1 ≤ round) (h2 : round ≤ 3) (hz : ¬ c = 0) : divS a b c round = sgn (pneg a b != decide (c < 0)) (if awayS round (pneg a b != decide (c < 0)) (pr a b % ab c) (ab c) (pr a b / ab c) = true then pr a b / ab c + 1 else pr a b / ab c) := by
  unfold divS
  rw [if_neg (by omega), if_neg hz]
theorem near {a b c : Int} (ha : I64 a) (hb : I64 b) (hc : I64 c) : ∃ k, jobberlaw01_CoinNear.f k a b c = some true := by
  refine ⟨11, ?_⟩
  unfold jobberlaw01_CoinNear.f
  rw [div ha hb hc (by omega)]; simp only [Option.bind_some]
  rw [div ha hb hc (by omega)]; simp only [Option.bind_some]
  rw [div ha hb hc (by omega)]; simp only [Option.bind_some]
  have hl : ∀ x y z e, jobberlaw01_CoinNear.j0 11 x y z e true = some true := by
    intro x y z e
    rw [jobberlaw01_CoinNear.j0, if_pos rfl, lives (by omega)]; rfl
  by_cases h1 : (divS a b c 1).2 = 0
  · rw [if_pos h1]
    by_cases h2 : (divS a b c 2).2 = 0
    · rw [show ((divS a b c 2).2 != 0) = false by rw [h2]; rfl, jobberlaw01_CoinNear.j0, if_neg (by decide)]
      by_cases hz : c = 0
      · unfold divS at h1; rw [if_neg (by omega), if_pos hz] at h1; simp at h1
      rw [divS_in (by omega) (by omega) hz] at h1 h2
      rw [divS_in (by omega) (by omega) hz, divS_in (by omega) (by omega) hz, divS_in (by omega) (by omega) hz]
      have z := pr_range ha hb; have y := ab_range hc
      have yp : 0 < ab c := by unfold ab; unfold I64 at hc; split <;> omega
      have r0 := Int.emod_nonneg (pr a b) (show ab c ≠ 0 by omega)
      have r1 := Int.emod_lt_of_pos (pr a b) yp
      have q0 := Int.ediv_nonneg z.1 (show 0 ≤ ab c by omega)
      generalize pr a b / ab c = q at *
      generalize pr a b % ab c = r at *
      generalize (pneg a b != decide (c < 0)) = n at *
      generalize ab c = d at *
      -- what each way rounds to
      have w1 : awayS 1 n r d q = (n && decide (r ≠ 0)) := rfl
      have w2 : awayS 2 n r d q = (!n && decide (r ≠ 0)) := rfl
      simp only [w1, w2] at h1 h2 ⊢
      clear w1 w2
      have fin : ∀ u v t : Int, I64 u → I64 v → 0 ≤ v - u → v - u ≤ 1 → (t = u ∨ t = v) → ((coin_Sub.f v u).bind fun bt132 => (if bt132.2 = 0 then (if bt132.1 ≥ 0 then (if bt132.1 ≤ 1 then (if (0 : Int) = 0 then (if t = u then ((jobberlaw01_lives.f 10).bind fun t134 => (some t134)) else (if t = v then ((jobberlaw01_lives.f 10).bind fun t135 => (some t135)) else (some false))) else (some false)) else (some false)) else (some false)) else (some false))) = some true := by
        intro u v t hu hv d0 d1 ht
        rw [sub hv hu (by unfold I64; omega)]; simp only [Option.bind_some, if_true]
        rw [if_pos d0, if_pos d1, lives (by omega)]; simp only [Option.bind_some]
        split
        · rfl
        · rw [if_pos (by omega)]
      by_cases hr : r = 0
      · subst hr
        have w3 : awayS 3 n 0 d q = false := by
          unfold awayS
          rw [if_neg (by decide), if_neg (by decide), decide_eq_false (by omega), decide_eq_false (show ¬ 2 * 0 = d by omega)]; rfl
        rw [w3]
        simp only [ne_eq, not_true_eq_false, decide_false, Bool.and_false, Bool.false_eq_true, if_false] at h1 h2 ⊢
        obtain ⟨e1, i1⟩ := sgn_ok q0 h1
        rw [h1, e1, sub i1 i1 (by unfold I64; omega)]; simp only [Option.bind_some, if_true]
        rw [if_pos (by omega), if_pos (by omega), lives (by omega)]; rfl
      · rw [show decide (r ≠ 0) = true from decide_eq_true hr] at h1 h2 ⊢
        cases n with
        | true =>
          simp only [Bool.and_true, Bool.not_true, if_true, Bool.false_eq_true, if_false] at h1 h2 ⊢
          obtain ⟨e1, i1⟩ := sgn_ok (q := q + 1) (by omega) h1
          obtain ⟨e2, i2⟩ := sgn_ok q0 h2
          rw [if_pos rfl] at e1 i1 e2 i2
          cases hw : awayS 3 true r d q with
          | true =>
            have f := fin _ _ _ i1 i2 (by omega) (by omega) (.inl rfl)
            simp only [Bool.false_eq_true, if_false, if_true, h1, e1, e2] at f ⊢
            exact f
          | false =>
            have f := fin _ _ _ i1 i2 (by omega) (by omega) (.inr rfl)
            simp only [Bool.false_eq_true, if_false, if_true, h2, e1, e2] at f ⊢
            exact f
        | false =>
          simp only [Bool.and_true, Bool.not_false, if_true, Bool.false_eq_true, if_false] at h1 h2 ⊢
          obtain ⟨e1, i1⟩ := sgn_ok q0 h1
          obtain ⟨e2, i2⟩ := sgn_ok (q := q + 1) (by omega) h2
          rw [if_neg (by decide)] at e1 i1 e2 i2
          cases hw : awayS 3 false r d q with
          | true =>
            have f := fin _ _ _ i1 i2 (by omega) (by omega) (.inr rfl)
            simp only [Bool.false_eq_true, if_false, if_true, h2, e1, e2] at f ⊢
            exact f
          | false =>
            have f := fin _ _ _ i1 i2 (by omega) (by omega) (.inl rfl)
            simp only [Bool.false_eq_true, if_false, if_true, h1, e1, e2] at f ⊢
            exact f
    · rw [show ((divS a b c 2).2 != 0) = true by simpa using h2]; exact hl _ _ _ _
  · rw [if_neg h1]; exact hl _ _ _ _
end Go.Proofs.Ytdfkbdcdgbjgcaa.Coin.M
