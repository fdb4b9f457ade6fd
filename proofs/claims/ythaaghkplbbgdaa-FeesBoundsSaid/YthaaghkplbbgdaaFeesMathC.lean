/- The bounds of a fee, on numbers. -/
import Derived.Test.YthaaghkplbbgdaaFeesMathB
namespace Go.Proofs.Ythaaghkplbbgdaa.Fees.M
open Go.RowKit Go.Proofs.Ythaaghkplbbgdaa.Fees Go.Proofs.YthaaghkplbbgdaaW.PrintWords Go.Proofs.YthaaghkplbbgdaaW.PrintLast
set_option linter.unusedVariables false
set_option linter.unusedSimpArgs false

/-- A number by a million, rounded. -/
def R (round m : Int) : Int := if awayS round false (m % 1000000) 1000000 (m / 1000000) = true then m / 1000000 + 1 else m / 1000000
theorem R_cases (round m : Int) (h1 : 1 ≤ round) (h2 : round ≤ 3) : R round m = if (round = 2 ∧ m % 1000000 ≠ 0) ∨ (round = 3 ∧ (2 * (m % 1000000) > 1000000 ∨ (2 * (m % 1000000) = 1000000 ∧ m / 1000000 % 2 = 1))) then m / 1000000 + 1 else m / 1000000 := by
  unfold R awayS
  have : round = 1 ∨ round = 2 ∨ round = 3 := by omega
  rcases this with rfl | rfl | rfl
  · simp
  · simp
  · simp
theorem R_mono {round m n : Int} (h1 : 1 ≤ round) (h2 : round ≤ 3) (h : m ≤ n) : R round m ≤ R round n := by
  rw [R_cases _ _ h1 h2, R_cases _ _ h1 h2]
  split <;> split <;> omega
theorem R_le {round m n : Int} (h1 : 1 ≤ round) (h2 : round ≤ 3) (h0 : 0 ≤ m) (h : m ≤ 100000 * n) : 0 ≤ R round m ∧ R round m ≤ n := by
  rw [R_cases _ _ h1 h2]
  split <;> omega
theorem feeDiv {n p round : Int} (hn : 0 ≤ n) (hn1 : n ≤ 4611686018427387904) (hp : Fine p) (h1 : 1 ≤ round) (h2 : round ≤ 3) : divS n p 1000000 round = (R round (n * p), 0) ∧ 0 ≤ n * p ∧ n * p ≤ 100000 * n := by
  unfold Fine at hp
  have m0 : 0 ≤ n * p := Int.mul_nonneg hn hp.1
  have m1 : n * p ≤ 100000 * n := by rw [Int.mul_comm 100000 n]; exact Int.mul_le_mul_of_nonneg_left hp.2 hn
  have hR := R_le h1 h2 m0 m1
  refine ⟨?_, m0, m1⟩
  have e1 : ab n = n := by unfold ab; rw [if_neg (by omega)]
  have e2 : ab p = p := by unfold ab; rw [if_neg (by omega)]
  have e3 : ab 1000000 = 1000000 := by decide
  have e4 : pneg n p = false := by unfold pneg; rw [decide_eq_false (by omega), decide_eq_false (by omega)]; rfl
  have e5 : pr n p = n * p := by unfold pr; rw [e1, e2]
  unfold divS
  rw [if_neg (by omega), if_neg (by decide), e3, e4, e5, show (false != decide ((1000000 : Int) < 0)) = false by decide]
  have : (if awayS round false (n * p % 1000000) 1000000 (n * p / 1000000) = true then n * p / 1000000 + 1 else n * p / 1000000) = R round (n * p) := rfl
  rw [this]
  unfold sgn
  rw [if_pos (by omega), if_neg (by decide)]
def feeS (n p round : Int) : Int × Int := if n < 0 ∨ n > 4611686018427387904 ∨ ¬ (0 ≤ p ∧ p ≤ 100000) then (0, 2) else divS n p 1000000 round
theorem fee {n p round : Int} {k : Nat} (hk : 3 ≤ k) (hn : I64 n) (hp : I64 p) : fees_Fee.f k n p round = some (feeS n p round) := by
  obtain ⟨b, hb, hbi⟩ := fine p
  unfold Fine at hbi
  unfold fees_Fee.f feeS
  by_cases c0 : n < 0
  · rw [if_pos c0, if_pos (.inl c0)]
  rw [if_neg c0]
  by_cases c1 : n > 4611686018427387904
  · rw [if_pos c1, if_pos (.inr (.inl c1))]
  rw [if_neg c1, hb]; simp only [Option.bind_some]
  cases b with
  | false => rw [if_neg (by decide), if_pos (.inr (.inr fun h => absurd (hbi.2 h) (by decide)))]
  | true =>
    have := hbi.1 rfl
    rw [if_pos rfl, if_neg (by omega), div hn hp (by unfold I64; omega) hk]; rfl
theorem sgn_err {n : Bool} {q : Int} (h : (sgn n q).2 ≠ 0) : (sgn n q).1 = 0 := by
  unfold sgn at *
  split at h
  · exact absurd rfl h
  · rename_i hq
    split at h
    · exact absurd rfl h
    · rename_i he
      rw [if_neg hq, if_neg he]
theorem divS_err {a b c round : Int} (h : (divS a b c round).2 ≠ 0) : (divS a b c round).1 = 0 := by
  unfold divS at *
  by_cases c0 : round < 1 ∨ round > 3
  · rw [if_pos c0]
  rw [if_neg c0] at h ⊢
  by_cases c1 : c = 0
  · rw [if_pos c1]
  rw [if_neg c1] at h ⊢
  exact sgn_err h
theorem feeS_err {n p round : Int} (h : (feeS n p round).2 ≠ 0) : (feeS n p round).1 = 0 := by
  unfold feeS at *
  split at h
  · rename_i hc; rw [if_pos hc]
  · rename_i hc; rw [if_neg hc]; exact divS_err h
theorem divS_round {a b c round : Int} (h : (divS a b c round).2 = 0) : 1 ≤ round ∧ round ≤ 3 := by
  unfold divS at h
  by_cases c0 : round < 1 ∨ round > 3
  · rw [if_pos c0] at h; exact absurd h (by decide)
  · omega
theorem feeS_ok {n p round : Int} (h : (feeS n p round).2 = 0) : 0 ≤ n ∧ n ≤ 4611686018427387904 ∧ Fine p ∧ 1 ≤ round ∧ round ≤ 3 ∧ feeS n p round = (R round (n * p), 0) := by
  unfold feeS at *
  split at h
  · exact absurd h (by decide)
  · rename_i hc
    have hr := divS_round h
    have hf : Fine p := by unfold Fine; omega
    rw [if_neg hc]
    exact ⟨by omega, by omega, hf, hr.1, hr.2, (feeDiv (by omega) (by omega) hf hr.1 hr.2).1⟩
theorem feeS_in {n p round : Int} (hn : 0 ≤ n) (hn1 : n ≤ 4611686018427387904) (hp : Fine p) (h1 : 1 ≤ round) (h2 : round ≤ 3) : feeS n p round = (R round (n * p), 0) := by
  unfold feeS
  unfold Fine at hp
  rw [if_neg (by omega)]
  exact (feeDiv hn hn1 hp h1 h2).1
/-- What a volume's row has is what the table has, or nothing. -/
theorem tier_has {l : List S64} (g : Good l) (P : Int → Int → Prop) {v : Int} : ∀ (d k : Nat) (i : Int) (x y z : Int) (r : Int × Int × Int), 0 ≤ i → l.length - i = d → d < k → P y z → (∀ j, i ≤ j → j < l.length → P (rd_T64 l j).f1 (rd_T64 l j).f2) → fees_Tier.l0 k v l (l.length : Int) i x y z = some r → P r.2.1 r.2.2 := by
  intro d
  induction d with
  | zero =>
    intro k i x y z r h0 hd hk hp hr h
    obtain ⟨k, rfl⟩ : ∃ m, k = m + 1 := ⟨k - 1, by omega⟩
    rw [fees_Tier.l0, if_neg (by omega)] at h
    obtain rfl := Option.some.inj h
    exact hp
  | succ d ih =>
    intro k i x y z r h0 hd hk hp hr h
    have hn := g.hi
    obtain ⟨k, rfl⟩ : ∃ m, k = m + 1 := ⟨k - 1, by omega⟩
    rw [fees_Tier.l0, if_pos (by omega), if_pos h0, if_pos (by omega)] at h
    by_cases hc : (rd_T64 l i).f0 > v
    · rw [if_pos hc] at h
      obtain rfl := Option.some.inj h
      exact hp
    · rw [if_neg hc, wid (by omega) (by omega)] at h
      exact ih k (i + 1) _ _ _ r (by omega) (by omega) (by omega) (hr i (Int.le_refl _) (by omega)) (fun j a b => hr j (by omega) b) h
theorem lift {α : Type} {f : Nat → Option α} (hm : ∀ k, LeO (f k) (f (k + 1))) {k0 : Nat} {r : α} (h : f k0 = some r) {k : Nat} (hk : k0 ≤ k) : f k = some r := by
  have m : ∀ d, f (k0 + d) = some r := by
    intro d
    induction d with
    | zero => exact h
    | succ d ih => exact hm _ _ ih
  have := m (k - k0)
  rwa [show k0 + (k - k0) = k by omega] at this
/-- The part that counts, of a good table: it's at most the greatest one. -/
theorem of_good {l : List S64} (g : Good l) {v : Int} (hv : 0 ≤ v) : ∃ T mp tp, (∀ k, 42 ≤ k → fees_Top.f k l = some T) ∧ Fine T ∧ Fine mp ∧ Fine tp ∧ mp ≤ T ∧ tp ≤ T ∧ ∀ k, 42 ≤ k → ∀ n role round, I64 n → fees_Of.f k l v n role round = some (if role = 1 then feeS n tp round else if role = 2 then feeS n mp round else (0, 2)) := by
  have hn := g.hi
  obtain ⟨_, T, hT, t0, t1, t2⟩ := top_loop g l.length 42 42 0 0 (by omega) (by omega) (by omega) (by omega)
  obtain ⟨_, r, hr⟩ := tier_loop g hv l.length 41 41 0 0 0 0 (by omega) (by omega) (by omega) (by omega)
  have hP := tier_has g (fun y z => Fine y ∧ Fine z ∧ y ≤ T ∧ z ≤ T) l.length 41 0 0 0 0 r (by omega) (by omega) (by omega) ⟨by unfold Fine; omega, by unfold Fine; omega, t0, t0⟩ (fun j a b => by
    obtain ⟨_, f1, f2, _⟩ := g.row j a b
    exact ⟨f1, f2, (t2 j a b).1, (t2 j a b).2⟩) hr
  obtain ⟨p1, p2, p3, p4⟩ := hP
  refine ⟨T, r.2.1, r.2.2, ?_, ⟨t0, t1 (by omega)⟩, p1, p2, p3, p4, ?_⟩
  · intro k hk
    refine lift (f := fun k => fees_Top.f k l) (k0 := 42) (fun k => fees_Top.mono _ _) ?_ hk
    obtain ⟨b, hb, hbi⟩ := good l (k := 42) (by omega)
    obtain rfl := hbi.2 g
    show fees_Top.f 42 l = some T
    unfold fees_Top.f
    rw [hb]; simp only [Option.bind_some, if_true]
    exact hT
  · intro k hk n role round hn64
    obtain ⟨b, hb, hbi⟩ := good l (k := k) (by omega)
    obtain rfl := hbi.2 g
    unfold fees_Of.f
    rw [hb]; simp only [Option.bind_some, if_true]
    rw [if_neg (by omega)]
    have ht : fees_Tier.f k l v = some r := by
      refine lift (f := fun k => fees_Tier.f k l v) (k0 := 42) (fun k => fees_Tier.mono _ _ _) ?_ hk
      obtain ⟨b, hb, hbi⟩ := good l (k := 42) (by omega)
      obtain rfl := hbi.2 g
      show fees_Tier.f 42 l v = some r
      unfold fees_Tier.f
      rw [hb]; simp only [Option.bind_some, if_true]
      rw [fees_Tier.j0, decide_eq_false (by omega), if_neg (by decide)]
      exact hr
    rw [ht]; simp only [Option.bind_some]
    unfold Fine at p1 p2
    rw [fee (by omega) hn64 (by unfold I64; omega), fee (by omega) hn64 (by unfold I64; omega)]
    by_cases c1 : role = 1
    · rw [if_pos c1, if_pos c1]
    · rw [if_neg c1, if_neg c1]
      by_cases c2 : role = 2
      · rw [if_pos c2, if_pos c2]
      · rw [if_neg c2, if_neg c2]
theorem of_bad {l : List S64} {v n role round : Int} {k : Nat} (hk : 40 < k) (h : ¬ (Good l ∧ 0 ≤ v)) : ∃ e, fees_Of.f k l v n role round = some (0, e) ∧ e ≠ 0 := by
  obtain ⟨b, hb, hbi⟩ := good l (k := k) (by omega)
  unfold fees_Of.f
  rw [hb]; simp only [Option.bind_some]
  cases b with
  | false => exact ⟨43, by rw [if_neg (by decide)], by decide⟩
  | true => exact ⟨2, by rw [if_pos rfl, if_pos (by have := hbi.1 rfl; by_cases hv : 0 ≤ v; exact absurd ⟨this, hv⟩ h; omega)], by decide⟩
theorem bounds {l : List S64} {v n more role round : Int} (hn : I64 n) (hm : I64 more) : ∃ k, jobberlaw08_FeesBounds.f k l v n more role round = some true := by
  refine ⟨52, ?_⟩
  unfold jobberlaw08_FeesBounds.f
  have err : ∀ x : Int × Int, x.2 ≠ 0 → x.1 = 0 → ∀ f : Option Bool, (if x.2 = 0 then f else (if x.1 = 0 then ((jobberlaw08_lives.f 52).bind fun t192 => (some t192)) else (some false))) = some true := by
    intro x h2 h1 f
    rw [if_neg h2, if_pos h1, lives (by omega)]; rfl
  by_cases hg : Good l ∧ 0 ≤ v
  · obtain ⟨T, mp, tp, hT, fT, fm, ft, lm, lt, hof⟩ := of_good hg.1 hg.2
    rw [hof 52 (by omega) n role round hn]; simp only [Option.bind_some]
    -- the part that counts
    have main : ∀ p, Fine p → p ≤ T → (∀ m, I64 m → fees_Of.f 50 l v m role round = some (feeS m p round)) → (if (feeS n p round).2 = 0 then ((fees_Top.f 52 l).bind fun t193 => ((fees_Fee.f 52 n t193 round).bind fun bt194 => (if (feeS n p round).1 < 0 then (jobberlaw08_FeesBounds.j0 52 l v n more role round (feeS n p round).1 true) else (if (feeS n p round).1 > n then (jobberlaw08_FeesBounds.j0 52 l v n more role round (feeS n p round).1 true) else (if bt194.2 = 0 then (jobberlaw08_FeesBounds.j0 52 l v n more role round (feeS n p round).1 (decide (bt194.1 < (feeS n p round).1))) else (jobberlaw08_FeesBounds.j0 52 l v n more role round (feeS n p round).1 true)))))) else (if (feeS n p round).1 = 0 then ((jobberlaw08_lives.f 52).bind fun t192 => (some t192)) else (some false))) = some true := by
      intro p hp hpT ho
      by_cases h2 : (feeS n p round).2 = 0
      · obtain ⟨n0, n1, _, r1, r2, e⟩ := feeS_ok h2
        rw [if_pos h2, hT 52 (by omega)]; simp only [Option.bind_some]
        have fT' := fT
        unfold Fine at fT'
        rw [fee (by omega) hn (by unfold I64; omega)]; simp only [Option.bind_some]
        obtain ⟨_, m0, m1⟩ := feeDiv n0 n1 hp r1 r2
        have hb := R_le r1 r2 m0 m1
        rw [feeS_in n0 n1 fT r1 r2, e]
        have hmono : R round (n * p) ≤ R round (n * T) := R_mono r1 r2 (Int.mul_le_mul_of_nonneg_left hpT n0)
        dsimp only
        rw [if_neg (by omega), if_neg (by omega), if_pos rfl, decide_eq_false (by omega), jobberlaw08_FeesBounds.j0, if_neg (by decide)]
        have liv : jobberlaw08_FeesBounds.j1 51 l v more role round (R round (n * p)) true = some true := by
          rw [jobberlaw08_FeesBounds.j1, if_pos rfl, lives (by omega)]; rfl
        by_cases c1 : more < n
        · rw [if_pos c1]; exact liv
        · rw [if_neg c1]
          by_cases c2 : more > 4611686018427387904
          · rw [decide_eq_true c2]; exact liv
          · rw [decide_eq_false c2, jobberlaw08_FeesBounds.j1, if_neg (by decide), ho more hm]; simp only [Option.bind_some]
            rw [feeS_in (by omega) (by omega) hp r1 r2]
            dsimp only
            have hmono2 : R round (n * p) ≤ R round (more * p) := R_mono r1 r2 (Int.mul_le_mul_of_nonneg_right (by omega) hp.1)
            rw [if_pos rfl, if_pos hmono2, lives (by omega)]; rfl
      · exact err _ h2 (feeS_err h2) _
    by_cases c1 : role = 1
    · simp only [if_pos c1]
      exact main tp ft lt (fun m hm => by rw [hof 50 (by omega) m role round hm, if_pos c1])
    · simp only [if_neg c1]
      by_cases c2 : role = 2
      · simp only [if_pos c2]
        exact main mp fm lm (fun m hm => by rw [hof 50 (by omega) m role round hm, if_neg c1, if_pos c2])
      · simp only [if_neg c2]
        exact err (0, 2) (by decide) rfl _
  · obtain ⟨e, he, hne⟩ := of_bad (n := n) (role := role) (round := round) (k := 52) (by omega) hg
    rw [he]; simp only [Option.bind_some]
    exact err (0, e) hne rfl _
end Go.Proofs.Ythaaghkplbbgdaa.Fees.M
