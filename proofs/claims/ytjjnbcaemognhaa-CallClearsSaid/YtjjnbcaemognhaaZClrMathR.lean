/- What Share of package share tells, on lists: the gifts in turn, the parts, and all together. -/
import Derived.Test.YtjjnbcaemognhaaZClrMathQ
namespace Go.Proofs.Ytjjnbcaemognhaa.Clr.M
open Go.RowKit Go.Proofs.Ytjjnbcaemognhaa.Clr Go.Proofs.YtjjnbcaemognhaaW.PrintWords Go.Proofs.YtjjnbcaemognhaaW.PrintLast
set_option linter.unusedVariables false
set_option linter.unusedSimpArgs false
theorem mod_sub {a b lot : Int} (ha : a % lot = 0) (hb : b % lot = 0) : (a - b) % lot = 0 := by
  rw [Int.sub_emod, ha, hb]; simp
theorem mod_add {a b lot : Int} (ha : a % lot = 0) (hb : b % lot = 0) : (a + b) % lot = 0 := by
  rw [Int.add_emod, ha, hb]; simp
theorem give {lot : Int} {l : List S42} (hg : Gd lot l) : ∀ (n : Nat) (i left : Int) (xs : List Int), 0 ≤ i → i + n = l.length → xs.length = l.length → 0 ≤ left → left ≤ 1099511627776 * 64 → left % lot = 0 →
    (∀ j, i ≤ j → j < l.length → 0 ≤ rd xs j ∧ rd xs j ≤ tr lot (qt l j) ∧ rd xs j % lot = 0) →
    ∃ r, shGive lot l n i xs left = some r ∧ r.length = l.length ∧ (∀ j, 0 ≤ j → j < i → rd r j = rd xs j) ∧
      (∀ j, i ≤ j → j < l.length → rd xs j ≤ rd r j ∧ rd r j ≤ tr lot (qt l j) ∧ rd r j % lot = 0) ∧
      (left ≤ S (fun j => tr lot (qt l j)) i n - S (rd xs) i n → S (rd r) i n = S (rd xs) i n + left) ∧
      (left = 0 → ∀ j, i ≤ j → j < l.length → rd r j = rd xs j) ∧
      (∀ j j', i ≤ j → j < j' → j' < l.length → rd r j < tr lot (qt l j) → rd r j' = rd xs j')
  | 0, i, left, xs, h0, h1, h2, h3, h4, h5, h6 => ⟨xs, by rw [shGive], h2, fun _ _ _ => rfl, fun j a b => by omega, fun h => by simp [S] at h ⊢; omega, fun _ _ _ _ => rfl, fun j j' a b c => by omega⟩
  | n + 1, i, left, xs, h0, h1, h2, h3, h4, h5, h6 => by
    have hq := hg.2.2.2 i h0 (by omega)
    have ht := tr_range hg.1 hq.1
    have hx := h6 i (by omega) (by omega)
    have hn := hg.2.2.1
    obtain ⟨t, het⟩ : ∃ t, tr lot (qt l i) = t := ⟨_, rfl⟩
    obtain ⟨x, hex⟩ : ∃ x, rd xs i = x := ⟨_, rfl⟩
    rw [het] at ht hx
    rw [hex] at hx
    obtain ⟨m, hm⟩ : ∃ m, mn left (t - x) = m := ⟨_, rfl⟩
    have hm1 : (left ≤ t - x ∧ m = left) ∨ (t - x < left ∧ m = t - x) := by
      unfold mn at hm
      by_cases c : t - x < left
      · rw [if_pos c] at hm; omega
      · rw [if_neg c] at hm; omega
    have hml : m % lot = 0 := by
      rcases hm1 with ⟨_, e⟩ | ⟨_, e⟩
      · rw [e]; exact h5
      · rw [e]; exact mod_sub ht.2.2.2 hx.2.2
    have ne : ∀ j, i + 1 ≤ j → rd (xs.set i.toNat (x + m)) j = rd xs j := fun j hj => rd_set_ne h0 (by omega) (by omega)
    have eq : rd (xs.set i.toNat (x + m)) i = x + m := rd_set_eq h0 (by omega)
    obtain ⟨r, hr, hrl, hr1, hr2, hr3, hr4, hr5⟩ := give hg n (i + 1) (left - m) (xs.set i.toNat (x + m)) (by omega) (by omega) (by rw [List.length_set]; exact h2) (by omega) (by omega) (mod_sub h5 hml)
      (fun j hj hj2 => by rw [ne j hj]; exact h6 j (by omega) hj2)
    have hri : rd r i = x + m := by rw [hr1 i h0 (by omega), eq]
    refine ⟨r, ?_, hrl, ?_, ?_, ?_, ?_, ?_⟩
    · rw [shGive]
      have e : limits_Trim.f lot (rd_T42 l i).f4 = some t := by
        have := trim hg.1 hq.1 (by omega)
        rw [het] at this
        exact this
      rw [e]
      simp only [Option.bind_some]
      rw [hex, wid (x := t - x) (by omega) (by omega), hm, wid (x := i + 1) (by omega) (by omega), wid (x := x + m) (by omega) (by omega), wid (x := left - m) (by omega) (by omega)]
      exact hr
    · intro j a b
      rw [hr1 j a (by omega)]
      exact rd_set_ne h0 a (by omega)
    · intro j a b
      by_cases c : j = i
      · subst c
        rw [hri, het, hex]
        exact ⟨by omega, by omega, mod_add hx.2.2 hml⟩
      · have := hr2 j (by omega) b
        rw [ne j (by omega)] at this
        exact this
    · intro h
      simp only [S] at h ⊢
      rw [het, hex] at h
      rw [hri, hex]
      have e : S (rd (xs.set i.toNat (x + m))) (i + 1) n = S (rd xs) (i + 1) n := S_congr (fun j a b => ne j a)
      rw [e] at hr3
      have nn : 0 ≤ S (fun j => tr lot (qt l j)) (i + 1) n - S (rd xs) (i + 1) n := by
        have := S_mono (f := rd xs) (g := fun j => tr lot (qt l j)) (n := n) (i := i + 1) (fun j a b => (h6 j (by omega) (by omega)).2.1)
        omega
      have := hr3 (by omega)
      omega
    · intro h j a b
      have hm0 : m = 0 := by omega
      by_cases c : j = i
      · subst c; rw [hri, hex]; omega
      · rw [hr4 (by omega) j (by omega) b, ne j (by omega)]
    · intro j j' a b c d
      by_cases e : j = i
      · subst e
        rw [hri, het] at d
        have hm0 : left - m = 0 := by omega
        rw [hr4 hm0 j' (by omega) c, ne j' (by omega)]
      · rw [hr5 j j' (by omega) b c d, ne j' (by omega)]
def pt (lot : Int) (l : List S42) (q t : Int) (i : Int) : Int := tr lot (q * tr lot (qt l i) / t)
theorem div1 {q a t : Int} (hq0 : 0 ≤ q) (hq1 : q ≤ 9223372036854775807) (ha0 : 0 ≤ a) (ha1 : a ≤ 9223372036854775807) (ht0 : 0 < t) (ht1 : t ≤ 9223372036854775807) (hle : q ≤ t) {k : Nat} (hk : 3 ≤ k) : coin_Div.f k q a t 1 = some (q * a / t, 0) := by
  have h1 : q * a / t ≤ a := by
    have h2 : q * a ≤ a * t := by rw [Int.mul_comm]; exact Int.mul_le_mul_of_nonneg_left hle ha0
    exact Int.ediv_le_of_le_mul ht0 h2
  rw [div ⟨by omega, by omega⟩ ⟨by omega, by omega⟩ ⟨by omega, by omega⟩ hk]
  have e1 : pr q a = q * a := by unfold pr ab; rw [if_neg (by omega), if_neg (by omega)]
  have e2 : ab t = t := by unfold ab; rw [if_neg (by omega)]
  have e3 : pneg q a = false := by unfold pneg; rw [decide_eq_false (show ¬ q < 0 by omega), decide_eq_false (show ¬ a < 0 by omega)]; rfl
  have e4 : decide (t < 0) = false := decide_eq_false (by omega)
  unfold divS
  rw [if_neg (by omega), if_neg (by omega), e1, e2, e3, e4]
  have e5 : awayS 1 (false != false) (q * a % t) t (q * a / t) = false := by unfold awayS; rw [if_pos rfl]; rfl
  rw [e5, if_neg (by decide)]
  unfold sgn
  rw [if_pos (by omega)]
  rfl
theorem parts_loop {lot : Int} {l : List S42} (hg : Gd lot l) {q t : Int} (hq0 : 0 ≤ q) (hle : q ≤ t) (ht0 : 0 < t) (ht1 : t ≤ 9223372036854775807) : ∀ (n : Nat) (i : Int) (xs : List Int), 0 ≤ i → i + n = l.length → xs.length = l.length →
    ∃ r, (∀ k, n + 5 < k → share_parts.l0 k q lot t xs l (l.length : Int) i = some r) ∧ r.length = l.length ∧ (∀ j, 0 ≤ j → j < i → rd r j = rd xs j) ∧ (∀ j, i ≤ j → j < l.length → rd r j = pt lot l q t j)
  | 0, i, xs, h0, h1, h2 => by
    refine ⟨xs, fun k hk => ?_, h2, fun _ _ _ => rfl, fun j a b => by omega⟩
    obtain ⟨k, rfl⟩ : ∃ m, k = m + 1 := ⟨k - 1, by omega⟩
    simp only [share_parts.l0]
    rw [if_neg (by omega)]
  | n + 1, i, xs, h0, h1, h2 => by
    have hq := hg.2.2.2 i h0 (by omega)
    have ht := tr_range hg.1 hq.1
    have hn := hg.2.2.1
    have e1 : limits_Trim.f lot (rd_T42 l i).f4 = some (tr lot (qt l i)) := trim (q := qt l i) hg.1 hq.1 (show qt l i ≤ 9223372036854775807 by omega)
    obtain ⟨r, hr, hrl, hr1, hr2⟩ := parts_loop hg hq0 hle ht0 ht1 n (i + 1) (xs.set i.toNat (pt lot l q t i)) (by omega) (by omega) (by rw [List.length_set]; exact h2)
    have hp0 : 0 ≤ q * tr lot (qt l i) / t := Int.ediv_nonneg (Int.mul_nonneg hq0 ht.1) (by omega)
    have hp1 : q * tr lot (qt l i) / t ≤ tr lot (qt l i) := by
      have h2 : q * tr lot (qt l i) ≤ tr lot (qt l i) * t := by rw [Int.mul_comm]; exact Int.mul_le_mul_of_nonneg_left hle ht.1
      exact Int.ediv_le_of_le_mul ht0 h2
    refine ⟨r, fun k hk => ?_, hrl, ?_, ?_⟩
    · obtain ⟨k, rfl⟩ : ∃ m, k = m + 1 := ⟨k - 1, by omega⟩
      simp only [share_parts.l0]
      rw [if_pos (by omega), if_pos (by omega), if_pos (by omega), e1]
      simp only [Option.bind_some]
      rw [div1 hq0 (by omega) ht.1 (by omega) ht0 ht1 hle (by omega)]
      simp only [Option.bind_some]
      rw [trim hg.1 hp0 (by omega)]
      simp only [Option.bind_some]
      rw [if_pos (by omega), wid (by omega) (by omega)]
      exact hr k (by omega)
    · intro j a b
      rw [hr1 j a (by omega)]
      exact rd_set_ne h0 a (by omega)
    · intro j a b
      by_cases c : j = i
      · subst c
        rw [hr1 j h0 (by omega)]
        exact rd_set_eq h0 (by omega)
      · exact hr2 j (by omega) b
def sm : List Int → Int
  | [] => 0
  | x :: l => x + sm l
theorem take_sm : ∀ {xs : List Int} {q : Int}, (∀ x ∈ xs, 0 ≤ x) → sm xs ≤ 1152921504606846976 → q ≤ 1152921504606846976 → -1152921504606846976 ≤ q - sm xs → shTake q xs = q - sm xs
  | [], q, _, _, _, _ => by simp [shTake, sm]
  | x :: xs, q, h, h1, h2, h3 => by
    have hp : 0 ≤ sm xs := by
      have hh : ∀ x ∈ xs, 0 ≤ x := fun y hy => h y (by simp [hy])
      clear h1 h3 h
      induction xs with
      | nil => simp [sm]
      | cons a xs ih =>
        have := ih (fun y hy => hh y (by simp [hy]))
        have := hh a (by simp)
        simp only [sm]; omega
    have hx := h x (by simp)
    simp only [sm] at h1 h3 ⊢
    have ih := take_sm (xs := xs) (q := q - x) (fun y hy => h y (by simp [hy])) (by omega) (by omega) (by omega)
    have e : shTake q (x :: xs) = shTake (wrap64 (q - x)) xs := rfl
    rw [e, wid (by omega) (by omega), ih]; omega
theorem S_shift {x : Int} {xs : List Int} : ∀ (n : Nat) (i : Int), 0 ≤ i → S (rd (x :: xs)) (i + 1) n = S (rd xs) i n
  | 0, i, _ => rfl
  | n + 1, i, h => by
    rw [S, S, S_shift n (i + 1) (by omega)]
    have e : rd (x :: xs) (i + 1) = rd xs i := by
      unfold rd
      rw [show (i + 1).toNat = i.toNat + 1 by omega]
      rfl
    rw [e]
theorem S_sm : ∀ (xs : List Int), S (rd xs) 0 xs.length = sm xs
  | [] => rfl
  | x :: xs => by
    have e : rd (x :: xs) 0 = x := rfl
    simp only [List.length_cons, S, sm]
    rw [e, S_shift xs.length 0 (by omega), S_sm xs]
theorem mem_rd {xs : List Int} (h : ∀ j : Int, 0 ≤ j → j < xs.length → 0 ≤ rd xs j) : ∀ x ∈ xs, 0 ≤ x := by
  intro x hx
  obtain ⟨n, hn, rfl⟩ := List.getElem_of_mem hx
  have := h n (by omega) (by omega)
  unfold rd at this
  simpa [hn] using this
end Go.Proofs.Ytjjnbcaemognhaa.Clr.M
