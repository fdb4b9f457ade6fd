/- What Share of package share tells, on lists: all together. -/
import Derived.Test.YtjjnbcaemognhaaZClrMathR
namespace Go.Proofs.Ytjjnbcaemognhaa.Clr.M
open Go.RowKit Go.Proofs.Ytjjnbcaemognhaa.Clr Go.Proofs.YtjjnbcaemognhaaW.PrintWords Go.Proofs.YtjjnbcaemognhaaW.PrintLast
set_option linter.unusedVariables false
set_option linter.unusedSimpArgs false
theorem div_sum {t q : Int} (ht : 0 < t) (f : Int → Int) (hf : ∀ j, 0 ≤ j → 0 ≤ f j) (hq : 0 ≤ q) : ∀ (n : Nat) (i : Int), 0 ≤ i → t * S (fun j => q * f j / t) i n ≤ q * S f i n
  | 0, i, _ => by simp [S]
  | n + 1, i, h => by
    have ih := div_sum ht f hf hq n (i + 1) (by omega)
    simp only [S]
    have h1 := Int.emod_add_mul_ediv (q * f i) t
    have h2 := Int.emod_nonneg (q * f i) (show t ≠ 0 by omega)
    rw [Int.mul_add, Int.mul_add]
    omega
structure Ok (mode : Int) (l : List S42) (qty lot tot : Int) (r : List Int) : Prop where
  gd : Gd lot l
  t0 : 0 < tot
  t1 : tot ≤ 70368744177664
  q0 : 1 ≤ qty
  q1 : qty ≤ 4611686018427387904
  md : mode = 1 ∨ mode = 2
  len : r.length = l.length
  bd : ∀ j : Int, 0 ≤ j → j < l.length → 0 ≤ rd r j ∧ rd r j ≤ tr lot (qt l j) ∧ rd r j % lot = 0
  sum : S (rd r) 0 l.length = mn (tr lot qty) tot
  fair : mode = 2 → ∀ j : Int, 0 ≤ j → j < l.length → pt lot l (mn (tr lot qty) tot) tot j ≤ rd r j
  time : mode = 1 → ∀ j j' : Int, 0 ≤ j → j < j' → j' < l.length → rd r j < tr lot (qt l j) → rd r j' = 0
theorem share (mode : Int) (l : List S42) (qty lot : Int) (hq : qty ≤ 9223372036854775807) : ∃ tot r, (∀ k, 100 ≤ k → share_Total.f k l lot = some tot ∧ share_Share.f k mode l qty lot = some r) ∧ 0 ≤ tot ∧ (lot < 1 → tot = 0) ∧
    ((r = [] ∧ (tot = 0 ∨ qty < 1 ∨ qty > 4611686018427387904 ∨ (mode ≠ 1 ∧ mode ≠ 2))) ∨ Ok mode l qty lot tot r) := by
  obtain ⟨tot, ht, hs⟩ := total lot l
  by_cases c0 : tot = 0
  · refine ⟨tot, [], fun k hk => ⟨ht k (by omega), ?_⟩, by omega, by omega, Or.inl ⟨rfl, Or.inl c0⟩⟩
    unfold share_Share.f
    rw [ht k (by omega)]
    simp only [Option.bind_some]
    rw [if_pos c0]
  obtain ⟨hg, hsum⟩ : Gd lot l ∧ tot = S (fun j => tr lot (qt l j)) 0 l.length := by
    rcases hs with hs | hs
    · exact absurd hs c0
    · exact hs
  have tn : 0 ≤ tot := by
    rw [hsum]
    exact S_nonneg (fun j a b => (tr_range hg.1 (hg.2.2.2 j a (by omega)).1).1)
  have tb : tot ≤ 70368744177664 := by
    have h1 : S (fun j => tr lot (qt l j)) 0 l.length ≤ (l.length : Int) * 1099511627776 := S_le (fun j a b => by
      have h1 := hg.2.2.2 j a (by omega)
      have := tr_range hg.1 h1.1
      show tr lot (qt l j) ≤ _
      omega)
    have := hg.2.2.1
    have h2 : (l.length : Int) * 1099511627776 ≤ 64 * 1099511627776 := by omega
    omega
  have hg0 := hg.1
  by_cases c1 : qty < 1
  · refine ⟨tot, [], fun k hk => ⟨ht k (by omega), ?_⟩, tn, by omega, Or.inl ⟨rfl, Or.inr (Or.inl c1)⟩⟩
    unfold share_Share.f
    rw [ht k (by omega)]
    simp only [Option.bind_some]
    rw [if_neg c0, if_pos c1]
  by_cases c2 : qty > 4611686018427387904
  · refine ⟨tot, [], fun k hk => ⟨ht k (by omega), ?_⟩, tn, by omega, Or.inl ⟨rfl, Or.inr (Or.inr (Or.inl c2))⟩⟩
    unfold share_Share.f
    rw [ht k (by omega)]
    simp only [Option.bind_some]
    rw [if_neg c0, if_neg c1, if_pos c2]
  have hqt := tr_range hg0 (show 0 ≤ qty by omega)
  obtain ⟨Q, hQ⟩ : ∃ Q, mn (tr lot qty) tot = Q := ⟨_, rfl⟩
  have hQ1 : 0 ≤ Q ∧ Q ≤ tot ∧ Q % lot = 0 := by
    have htm : tot % lot = 0 := by
      rw [hsum]
      have : ∀ (n : Nat) (i : Int), 0 ≤ i → i + n = l.length → S (fun j => tr lot (qt l j)) i n % lot = 0 := by
        intro n
        induction n with
        | zero => intro i _ _; simp [S]
        | succ n ih =>
          intro i a b
          rw [S]
          exact mod_add (tr_range hg.1 (hg.2.2.2 i a (by omega)).1).2.2.2 (ih (i + 1) (by omega) (by omega))
      exact this _ _ (by omega) (by omega)
    unfold mn at hQ
    by_cases c : tot < tr lot qty
    · rw [if_pos c] at hQ; subst hQ; exact ⟨by omega, by omega, htm⟩
    · rw [if_neg c] at hQ; subst hQ; exact ⟨by omega, by omega, hqt.2.2.2⟩
  have hn := hg.2.2.1
  by_cases m1 : mode = 1
  · have hz : sm (List.replicate l.length (0 : Int)) = 0 := by
      have : ∀ n : Nat, sm (List.replicate n (0 : Int)) = 0 := by
        intro n
        induction n with
        | zero => rfl
        | succ n ih => rw [List.replicate_succ]; simp only [sm]; omega
      exact this _
    have hT : shTake Q (List.replicate l.length (0 : Int)) = Q := by
      rw [take_sm (fun x hx => by rw [List.eq_of_mem_replicate hx]; exact Int.le_refl _) (by omega) (by omega) (by omega), hz]; omega
    obtain ⟨r, hr, hrl, hr1, hr2, hr3, hr4, hr5⟩ := give hg l.length 0 Q (List.replicate l.length (0 : Int)) (by omega) (by omega) (by simp) (by omega) (by omega) hQ1.2.2 (fun j a b => by
      rw [rd_rep]
      have := tr_range hg.1 (hg.2.2.2 j a b).1
      exact ⟨by omega, by omega, by simp⟩)
    have hs0 : S (rd (List.replicate l.length (0 : Int))) 0 l.length = 0 := by
      have := S_sm (List.replicate l.length (0 : Int))
      rw [List.length_replicate] at this
      rw [this, hz]
    refine ⟨tot, r, fun k hk => ⟨ht k (by omega), ?_⟩, tn, by omega, Or.inr ⟨hg, by omega, tb, by omega, by omega, Or.inl m1, hrl, ?_, ?_, by omega, ?_⟩⟩
    · unfold share_Share.f
      rw [ht k (by omega)]
      simp only [Option.bind_some]
      rw [if_neg c0, if_neg c1, if_neg c2, trim hg.1 (by omega) (by omega)]
      simp only [Option.bind_some]
      rw [if_pos m1, if_pos (by omega), hQ, hT]
      exact hr
    · intro j a b
      have := hr2 j a b
      rw [rd_rep] at this
      exact this
    · rw [hQ]
      have := hr3 (by rw [hs0, ← hsum]; omega)
      omega
    · intro _ j j' a b c d
      rw [hr5 j j' a b c d, rd_rep]
  by_cases m2 : mode = 2
  · obtain ⟨xs, hp, hxl, _, hx⟩ := parts_loop hg (q := Q) (t := tot) hQ1.1 hQ1.2.1 (by omega) (by omega) l.length 0 (List.replicate l.length (0 : Int)) (by omega) (by omega) (by simp)
    have pb : ∀ j : Int, 0 ≤ j → j < l.length → 0 ≤ Q * tr lot (qt l j) / tot ∧ Q * tr lot (qt l j) / tot ≤ tr lot (qt l j) := by
      intro j a b
      have ht := tr_range hg.1 (hg.2.2.2 j a b).1
      refine ⟨Int.ediv_nonneg (Int.mul_nonneg hQ1.1 ht.1) (by omega), ?_⟩
      have h2 : Q * tr lot (qt l j) ≤ tr lot (qt l j) * tot := by rw [Int.mul_comm]; exact Int.mul_le_mul_of_nonneg_left hQ1.2.1 ht.1
      exact Int.ediv_le_of_le_mul (by omega) h2
    have xb : ∀ j : Int, 0 ≤ j → j < l.length → 0 ≤ rd xs j ∧ rd xs j ≤ tr lot (qt l j) ∧ rd xs j % lot = 0 ∧ rd xs j ≤ Q * tr lot (qt l j) / tot := by
      intro j a b
      rw [hx j a b]
      have h1 := pb j a b
      have h2 := tr_range hg.1 h1.1
      unfold pt
      exact ⟨h2.1, by omega, h2.2.2.2, h2.2.1⟩
    have hsx : S (rd xs) 0 l.length = sm xs := by rw [← hxl]; exact S_sm xs
    have sx1 : S (rd xs) 0 l.length ≤ Q := by
      have h1 : S (rd xs) 0 l.length ≤ S (fun j => Q * tr lot (qt l j) / tot) 0 l.length := S_mono (fun j a b => (xb j a (by omega)).2.2.2)
      have h2 := div_sum (t := tot) (q := Q) (by omega) (fun j => if 0 ≤ j ∧ j < l.length then tr lot (qt l j) else 0) (fun j a => by
        by_cases c : 0 ≤ j ∧ j < l.length
        · rw [if_pos c]; exact (tr_range hg.1 (hg.2.2.2 j c.1 c.2).1).1
        · rw [if_neg c]; exact Int.le_refl _) hQ1.1 l.length 0 (by omega)
      have e1 : S (fun j => Q * (if 0 ≤ j ∧ j < (l.length : Int) then tr lot (qt l j) else 0) / tot) 0 l.length = S (fun j => Q * tr lot (qt l j) / tot) 0 l.length := S_congr (fun j a b => by
        show Q * (if 0 ≤ j ∧ j < (l.length : Int) then tr lot (qt l j) else 0) / tot = _
        rw [if_pos ⟨a, by omega⟩])
      have e2 : S (fun j => if 0 ≤ j ∧ j < (l.length : Int) then tr lot (qt l j) else 0) 0 l.length = tot := by
        rw [hsum]
        exact S_congr (fun j a b => by
          show (if 0 ≤ j ∧ j < (l.length : Int) then tr lot (qt l j) else 0) = _
          rw [if_pos ⟨a, by omega⟩])
      rw [e1, e2] at h2
      have h3 : S (fun j => Q * tr lot (qt l j) / tot) 0 l.length ≤ Q := by
        rw [Int.mul_comm Q tot] at h2
        exact Int.le_of_mul_le_mul_left h2 (by omega)
      omega
    have sx0 : 0 ≤ S (rd xs) 0 l.length := S_nonneg (fun j a b => (xb j a (by omega)).1)
    have hT : shTake Q xs = Q - S (rd xs) 0 l.length := by
      rw [hsx]
      exact take_sm (mem_rd (fun j a b => (xb j a (by omega)).1)) (by omega) (by omega) (by omega)
    have hSm : S (rd xs) 0 l.length % lot = 0 := by
      have : ∀ (n : Nat) (i : Int), 0 ≤ i → i + n = l.length → S (rd xs) i n % lot = 0 := by
        intro n
        induction n with
        | zero => intro i _ _; simp [S]
        | succ n ih =>
          intro i a b
          rw [S]
          exact mod_add (xb i a (by omega)).2.2.1 (ih (i + 1) (by omega) (by omega))
      exact this _ _ (by omega) (by omega)
    obtain ⟨r, hr, hrl, hr1, hr2, hr3, hr4, hr5⟩ := give hg l.length 0 (Q - S (rd xs) 0 l.length) xs (by omega) (by omega) hxl (by omega) (by omega) (mod_sub hQ1.2.2 hSm) (fun j a b => ⟨(xb j a b).1, (xb j a b).2.1, (xb j a b).2.2.1⟩)
    refine ⟨tot, r, fun k hk => ⟨ht k (by omega), ?_⟩, tn, by omega, Or.inr ⟨hg, by omega, tb, by omega, by omega, Or.inr m2, hrl, ?_, ?_, ?_, by omega⟩⟩
    · unfold share_Share.f
      rw [ht k (by omega)]
      simp only [Option.bind_some]
      rw [if_neg c0, if_neg c1, if_neg c2, trim hg.1 (by omega) (by omega)]
      simp only [Option.bind_some]
      have e : share_parts.f k l Q lot tot = some xs := by
        unfold share_parts.f
        rw [if_pos (by omega), if_pos (by omega)]
        have := hp k (by omega)
        simpa using this
      rw [if_neg m1, if_pos m2, hQ, e]
      simp only [Option.bind_some]
      rw [if_pos hxl, hT]
      exact hr
    · intro j a b
      have h1 := hr2 j a b
      have h2 := xb j a b
      exact ⟨by omega, h1.2.1, h1.2.2⟩
    · rw [hQ]
      have := hr3 (by rw [← hsum]; omega)
      omega
    · intro _ j a b
      rw [hQ, ← hx j a b]
      exact (hr2 j a b).1
  · refine ⟨tot, [], fun k hk => ⟨ht k (by omega), ?_⟩, tn, by omega, Or.inl ⟨rfl, Or.inr (Or.inr (Or.inr ⟨m1, m2⟩))⟩⟩
    unfold share_Share.f
    rw [ht k (by omega)]
    simp only [Option.bind_some]
    rw [if_neg c0, if_neg c1, if_neg c2, trim hg.1 (by omega) (by omega)]
    simp only [Option.bind_some]
    rw [if_neg m1, if_neg m2]
end Go.Proofs.Ytjjnbcaemognhaa.Clr.M
