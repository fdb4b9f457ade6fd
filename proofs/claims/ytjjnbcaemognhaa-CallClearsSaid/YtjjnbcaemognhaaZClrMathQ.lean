/- What Share of package share tells, on lists: the parts, the gifts in turn, their sums. -/
import Derived.Test.YtjjnbcaemognhaaZClrMathP
namespace Go.Proofs.Ytjjnbcaemognhaa.Clr.M
open Go.RowKit Go.Proofs.Ytjjnbcaemognhaa.Clr Go.Proofs.YtjjnbcaemognhaaW.PrintWords Go.Proofs.YtjjnbcaemognhaaW.PrintLast
set_option linter.unusedVariables false
set_option linter.unusedSimpArgs false
theorem le_self {a b : Int} (hb : 0 ≤ b) (ha : 1 ≤ a) : b % a ≤ b := by
  have hd := Int.emod_add_mul_ediv b a
  have := Int.mul_nonneg (show 0 ≤ a by omega) (Int.ediv_nonneg hb (show 0 ≤ a by omega))
  omega
def tr (lot q : Int) : Int := q - q % lot
theorem tr_range {lot q : Int} (hl : 1 ≤ lot) (hq : 0 ≤ q) : 0 ≤ tr lot q ∧ tr lot q ≤ q ∧ q - tr lot q < lot ∧ tr lot q % lot = 0 := by
  have h0 := Int.emod_nonneg q (show lot ≠ 0 by omega)
  have h1 := Int.emod_lt_of_pos q (show 0 < lot by omega)
  have h2 := le_self hq hl
  have hd := Int.emod_add_mul_ediv q lot
  unfold tr
  refine ⟨by omega, by omega, by omega, ?_⟩
  rw [show q - q % lot = lot * (q / lot) by omega, Int.mul_emod_right]
theorem trim {lot q : Int} (hl : 1 ≤ lot) (hq : 0 ≤ q) (hi : q ≤ 9223372036854775807) : limits_Trim.f lot q = some (tr lot q) := by
  have h0 := Int.emod_nonneg q (show lot ≠ 0 by omega)
  have h2 := le_self hq hl
  unfold limits_Trim.f tr
  by_cases c : q < 1
  · rw [if_pos (by unfold mn; split <;> omega)]
    have : q = 0 := by omega
    subst this
    simp
  · rw [if_neg (by unfold mn; split <;> omega), if_neg (by omega), Int.tmod_eq_emod_of_nonneg (by omega), wid (by omega) (by omega)]
def S (f : Int → Int) : Int → Nat → Int
  | _, 0 => 0
  | i, n + 1 => f i + S f (i + 1) n
theorem S_congr {f g : Int → Int} : ∀ {n : Nat} {i : Int}, (∀ j, i ≤ j → j < i + n → f j = g j) → S f i n = S g i n
  | 0, i, _ => rfl
  | n + 1, i, h => by
    rw [S, S, h i (by omega) (by omega), S_congr (n := n) (i := i + 1) (fun j h1 h2 => h j (by omega) (by omega))]
theorem S_nonneg {f : Int → Int} : ∀ {n : Nat} {i : Int}, (∀ j, i ≤ j → j < i + n → 0 ≤ f j) → 0 ≤ S f i n
  | 0, i, _ => by simp [S]
  | n + 1, i, h => by
    have := S_nonneg (f := f) (n := n) (i := i + 1) (fun j h1 h2 => h j (by omega) (by omega))
    have := h i (by omega) (by omega)
    rw [S]; omega
theorem S_le {f : Int → Int} {B : Int} : ∀ {n : Nat} {i : Int}, (∀ j, i ≤ j → j < i + n → f j ≤ B) → S f i n ≤ n * B
  | 0, i, _ => by simp [S]
  | n + 1, i, h => by
    have h1 := S_le (f := f) (B := B) (n := n) (i := i + 1) (fun j h1 h2 => h j (by omega) (by omega))
    have h2 := h i (by omega) (by omega)
    have e : ((n + 1 : Nat) : Int) * B = n * B + B := by rw [Int.natCast_add, Int.add_mul]; simp
    rw [S, e]; omega
theorem S_mono {f g : Int → Int} : ∀ {n : Nat} {i : Int}, (∀ j, i ≤ j → j < i + n → f j ≤ g j) → S f i n ≤ S g i n
  | 0, i, _ => by simp [S]
  | n + 1, i, h => by
    have h1 := S_mono (f := f) (g := g) (n := n) (i := i + 1) (fun j h1 h2 => h j (by omega) (by omega))
    have h2 := h i (by omega) (by omega)
    rw [S, S]; omega
theorem rd_set_eq {xs : List Int} {i : Int} {x : Int} (h0 : 0 ≤ i) (h1 : i < (xs.length : Int)) : rd (xs.set i.toNat x) i = x := by
  have hl : i.toNat < xs.length := by omega
  unfold rd; simp [hl]
theorem rd_set_ne {xs : List Int} {i j : Int} {x : Int} (h0 : 0 ≤ i) (h1 : 0 ≤ j) (h : j ≠ i) : rd (xs.set i.toNat x) j = rd xs j := by
  unfold rd
  have : i.toNat ≠ j.toNat := by omega
  simp [this]
theorem rd_rep {n : Nat} {j : Int} : rd (List.replicate n 0) j = 0 := by
  unfold rd
  by_cases h : j.toNat < n <;> simp [h]
def qt (l : List S42) (i : Int) : Int := (rd_T42 l i).f4
def Gd (lot : Int) (l : List S42) : Prop := 1 ≤ lot ∧ lot ≤ 1099511627776 ∧ l.length ≤ 64 ∧ ∀ j : Int, 0 ≤ j → j < l.length → 0 ≤ qt l j ∧ qt l j ≤ 1099511627776
theorem total_loop {lot : Int} {l : List S42} (hl : 1 ≤ lot) (hl2 : lot ≤ 1099511627776) (hn : l.length ≤ 64) : ∀ (n : Nat) (i acc : Int), 0 ≤ i → i + n = l.length → 0 ≤ acc → acc ≤ 1099511627776 * i → ∃ v, (∀ k, n < k → share_Total.l0 k lot acc l (l.length : Int) i = some v) ∧ (v = 0 ∨ ((∀ j, i ≤ j → j < l.length → 0 ≤ qt l j ∧ qt l j ≤ 1099511627776) ∧ v = acc + S (fun j => tr lot (qt l j)) i n))
  | 0, i, acc, h0, h1, h2, h3 => by
    refine ⟨acc, fun k hk => ?_, Or.inr ⟨fun j _ _ => by omega, by simp [S]⟩⟩
    obtain ⟨k, rfl⟩ : ∃ m, k = m + 1 := ⟨k - 1, by omega⟩
    simp only [share_Total.l0]
    rw [if_neg (by omega)]
  | n + 1, i, acc, h0, h1, h2, h3 => by
    by_cases c1 : qt l i < 0
    · refine ⟨0, fun k hk => ?_, Or.inl rfl⟩
      obtain ⟨k, rfl⟩ : ∃ m, k = m + 1 := ⟨k - 1, by omega⟩
      simp only [share_Total.l0]
      unfold qt at c1
      rw [if_pos (by omega), if_pos (by omega), if_pos (by omega), if_pos c1]
    by_cases c2 : qt l i > 1099511627776
    · refine ⟨0, fun k hk => ?_, Or.inl rfl⟩
      obtain ⟨k, rfl⟩ : ∃ m, k = m + 1 := ⟨k - 1, by omega⟩
      simp only [share_Total.l0]
      unfold qt at c1 c2
      rw [if_pos (by omega), if_pos (by omega), if_pos (by omega), if_neg c1, if_pos c2]
    have ht := tr_range hl (show 0 ≤ qt l i by omega)
    have e := trim hl (show 0 ≤ qt l i by omega) (by omega)
    obtain ⟨v, hv, hs⟩ := total_loop hl hl2 hn n (i + 1) (acc + tr lot (qt l i)) (by omega) (by omega) (by omega) (by omega)
    refine ⟨v, fun k hk => ?_, ?_⟩
    · obtain ⟨k, rfl⟩ : ∃ m, k = m + 1 := ⟨k - 1, by omega⟩
      simp only [share_Total.l0]
      unfold qt at c1 c2 e ht hv
      rw [if_pos (by omega), if_pos (by omega), if_pos (by omega), if_neg c1, if_neg c2, e]
      simp only [Option.bind_some]
      rw [wid (by omega) (by omega), wid (by omega) (by omega)]
      exact hv k (by omega)
    · rcases hs with hs | ⟨hg, hs⟩
      · exact Or.inl hs
      · refine Or.inr ⟨fun j h4 h5 => ?_, by rw [S]; omega⟩
        by_cases c : j = i
        · subst c; omega
        · exact hg j (by omega) h5
theorem total (lot : Int) (l : List S42) : ∃ v, (∀ k, 80 ≤ k → share_Total.f k l lot = some v) ∧ (v = 0 ∨ (Gd lot l ∧ v = S (fun j => tr lot (qt l j)) 0 l.length)) := by
  by_cases c1 : lot < 1
  · refine ⟨0, fun k hk => ?_, Or.inl rfl⟩
    obtain ⟨k, rfl⟩ : ∃ m, k = m + 1 := ⟨k - 1, by omega⟩
    unfold share_Total.f
    rw [if_pos c1, share_Total.j0, if_pos rfl]
  by_cases c2 : lot > 1099511627776
  · refine ⟨0, fun k hk => ?_, Or.inl rfl⟩
    obtain ⟨k, rfl⟩ : ∃ m, k = m + 1 := ⟨k - 1, by omega⟩
    unfold share_Total.f
    rw [if_neg c1, if_pos c2, share_Total.j0, if_pos rfl]
  by_cases c3 : (l.length : Int) > 64
  · refine ⟨0, fun k hk => ?_, Or.inl rfl⟩
    obtain ⟨k, rfl⟩ : ∃ m, k = m + 1 := ⟨k - 1, by omega⟩
    unfold share_Total.f
    rw [if_neg c1, if_neg c2, share_Total.j0, if_pos (by simpa using c3)]
  obtain ⟨v, hv, hs⟩ := total_loop (lot := lot) (l := l) (by omega) (by omega) (by omega) l.length 0 0 (by omega) (by omega) (by omega) (by omega)
  refine ⟨v, fun k hk => ?_, ?_⟩
  · obtain ⟨k, rfl⟩ : ∃ m, k = m + 1 := ⟨k - 1, by omega⟩
    unfold share_Total.f
    rw [if_neg c1, if_neg c2, share_Total.j0, if_neg (by simpa using c3)]
    exact hv k (by omega)
  · rcases hs with hs | ⟨hg, hs⟩
    · exact Or.inl hs
    · exact Or.inr ⟨⟨by omega, by omega, by omega, fun j h0 h1 => hg j h0 h1⟩, by omega⟩
end Go.Proofs.Ytjjnbcaemognhaa.Clr.M
