/- What the functions of package grid and of its reference tell, on lists and numbers. -/
import Derived.Test.YtdfkbdcdgbjgcaaGridx
namespace Go.Proofs.Ytdfkbdcdgbjgcaa.Grid.M
open Go.RowKit Go.Proofs.Ytdfkbdcdgbjgcaa.Grid Go.Proofs.YtdfkbdcdgbjgcaaW.PrintWords Go.Proofs.YtdfkbdcdgbjgcaaW.PrintLast
set_option linter.unusedVariables false

theorem wid {x : Int} (h0 : -9223372036854775808 ≤ x) (h1 : x ≤ 9223372036854775807) : wrap64 x = x := by unfold wrap64; omega
def mk3 (x : S94) : S93 := ⟨x.f0, x.f1⟩
theorem rd_map (l : List S94) (j : Int) : rd_T93 (l.map mk3) j = mk3 (rd_T94 l j) := by
  unfold rd_T93 rd_T94
  rw [List.getD_eq_getElem?_getD, List.getD_eq_getElem?_getD, List.getElem?_map]
  cases l[j.toNat]? <;> rfl
theorem rd_f0 (l : List S94) (j : Int) : (rd_T93 (l.map mk3) j).f0 = (rd_T94 l j).f0 := by rw [rd_map]; rfl
theorem rd_f1 (l : List S94) (j : Int) : (rd_T93 (l.map mk3) j).f1 = (rd_T94 l j).f1 := by rw [rd_map]; rfl
theorem ret_take {l : List S94} {j : Nat} {i : Int} (hi : i = (j : Int)) (hj : j < l.length) : l.take (j + 1) = l.take j ++ [rd_T94 l i] := by
  subst hi
  rw [List.take_succ_eq_append_getElem hj]
  unfold rd_T94
  rw [List.getD_eq_getElem?_getD, Int.toNat_natCast, List.getElem?_eq_getElem hj]
  rfl

/-- Plain: the first nine rows. -/
theorem plain_loop (l : List S94) : ∀ (d k : Nat) (j : Nat), j ≤ 9 → j ≤ l.length → 9 - j = d → d < k → jobberlaw06_Plain.l0 k l ((l.take j).map mk3) (j : Int) = some ((l.take 9).map mk3) := by
  intro d
  induction d with
  | zero =>
    intro k j h9 hl hd hk
    obtain ⟨k, rfl⟩ : ∃ m, k = m + 1 := ⟨k - 1, by omega⟩
    obtain rfl : j = 9 := by omega
    rw [jobberlaw06_Plain.l0]
    split
    · rw [if_neg (by omega)]
    · rfl
  | succ d ih =>
    intro k j h9 hl hd hk
    obtain ⟨k, rfl⟩ : ∃ m, k = m + 1 := ⟨k - 1, by omega⟩
    rw [jobberlaw06_Plain.l0]
    by_cases h : j < l.length
    · rw [if_pos (by omega), if_pos (by omega), if_pos (by omega), if_pos (by rw [List.length_map, List.length_take]; omega), wid (by omega) (by omega)]
      have := ih k (j + 1) (by omega) (by omega) (by omega) (by omega)
      rw [ret_take rfl h, List.map_append] at this
      exact this
    · rw [if_neg (by omega)]
      rw [List.take_of_length_le (by omega), List.take_of_length_le (by omega)]
theorem plain (l : List S94) {k : Nat} (hk : 9 < k) : jobberlaw06_Plain.f k l = some ((l.take 9).map mk3) := by
  have := plain_loop l 9 k 0 (by omega) (by omega) rfl hk
  exact this

def RowOK (l : List S94) (j : Int) : Prop := 1 ≤ (rd_T94 l j).f1 ∧ (rd_T94 l j).f1 ≤ 1099511627776 ∧ (rd_T94 l j).f0 ≤ 1099511627776 ∧ (0 < j → (rd_T94 l (j - 1)).f0 < (rd_T94 l j).f0)
structure Good (l : List S94) : Prop where
  lo : 1 ≤ (l.length : Int)
  hi : (l.length : Int) ≤ 8
  zero : (rd_T94 l 0).f0 = 0
  row : ∀ j : Int, 0 ≤ j → j < l.length → RowOK l j
theorem good_loop (l : List S94) (hn : (l.length : Int) ≤ 8) : ∀ (d k : Nat) (i : Int), 0 ≤ i → i ≤ l.length → l.length - i = d → d < k → ∃ b, grid_good.l0 k l l (l.length : Int) i = some b ∧ (b = true ↔ ∀ j, i ≤ j → j < l.length → RowOK l j) := by
  intro d
  induction d with
  | zero =>
    intro k i h0 h1 hd hk
    obtain ⟨k, rfl⟩ : ∃ m, k = m + 1 := ⟨k - 1, by omega⟩
    refine ⟨true, ?_, ?_⟩
    · rw [grid_good.l0, if_neg (by omega)]
    · simp only [true_iff]; intro j hj hl; omega
  | succ d ih =>
    intro k i h0 h1 hd hk
    obtain ⟨k, rfl⟩ : ∃ m, k = m + 1 := ⟨k - 1, by omega⟩
    have hs : (∀ j, i ≤ j → j < l.length → RowOK l j) ↔ RowOK l i ∧ ∀ j, i + 1 ≤ j → j < l.length → RowOK l j :=
      ⟨fun h => ⟨h i (by omega) (by omega), fun j hj => h j (by omega)⟩, fun h j hj hl => by
        by_cases e : j = i
        · subst e; exact h.1
        · exact h.2 j (by omega) hl⟩
    obtain ⟨b, hb, hbi⟩ := ih k (i + 1) (by omega) (by omega) (by omega) (by omega)
    rw [grid_good.l0, if_pos (by omega), if_pos h0, if_pos (by omega), hs, wid (x := i + 1) (by omega) (by omega)]
    unfold RowOK
    split
    · exact ⟨false, rfl, by simp; omega⟩
    split
    · rename_i h2; refine ⟨false, rfl, ?_⟩; simp; intro a1 a2 a3; exfalso; unfold mx at h2; omega
    · rename_i h1' h2
      have h2' : (rd_T94 l i).f1 ≤ 1099511627776 ∧ (rd_T94 l i).f0 ≤ 1099511627776 := by unfold mx at h2; omega
      split
      · rw [wid (x := i - 1) (by omega) (by omega), if_pos (by omega), if_pos (by omega)]
        split
        · refine ⟨false, rfl, ?_⟩; simp; intro a1 a2 a3 a4; exfalso; have := a4 (by omega); omega
        · exact ⟨b, hb, by rw [hbi]; exact ⟨fun h => ⟨⟨by omega, h2'.1, h2'.2, fun _ => by omega⟩, h⟩, fun h => h.2⟩⟩
      · exact ⟨b, hb, by rw [hbi]; exact ⟨fun h => ⟨⟨by omega, h2'.1, h2'.2, fun _ => by omega⟩, h⟩, fun h => h.2⟩⟩
theorem good (l : List S94) {k : Nat} (hk : 10 < k) : ∃ b, grid_good.f k l = some b ∧ (b = true ↔ Good l) := by
  obtain ⟨k, rfl⟩ : ∃ m, k = m + 1 := ⟨k - 1, by omega⟩
  unfold grid_good.f
  split
  · exact ⟨false, by rw [grid_good.j0, if_pos rfl], by simp; intro h; have := h.lo; omega⟩
  split
  · exact ⟨false, by rw [grid_good.j0, if_pos rfl], by simp; intro h; have := h.hi; omega⟩
  rw [if_pos (by omega), grid_good.j0]
  by_cases hz : (rd_T94 l 0).f0 = 0
  · obtain ⟨b, hb, hbi⟩ := good_loop l (by omega) l.length k 0 (by omega) (by omega) (by omega) (by omega)
    refine ⟨b, ?_, ?_⟩
    · rw [if_neg (by simp [hz])]; exact hb
    · rw [hbi]; exact ⟨fun h => ⟨by omega, by omega, hz, h⟩, fun h => h.row⟩
  · exact ⟨false, by rw [if_pos (by simp [hz])], by simp; intro h; exact hz h.zero⟩
theorem rgood_loop (l : List S94) (hn : (l.length : Int) ≤ 8) : ∀ (d k : Nat) (i : Int), 0 ≤ i → i ≤ l.length → l.length - i = d → d < k → ∃ b, jobberref06_Good.l0 k (l.map mk3) i = some b ∧ (b = true ↔ ∀ j, i ≤ j → j < l.length → RowOK l j) := by
  intro d
  induction d with
  | zero =>
    intro k i h0 h1 hd hk
    obtain ⟨k, rfl⟩ : ∃ m, k = m + 1 := ⟨k - 1, by omega⟩
    refine ⟨true, ?_, ?_⟩
    · rw [jobberref06_Good.l0, if_neg (by rw [List.length_map]; omega)]
    · simp only [true_iff]; intro j hj hl; omega
  | succ d ih =>
    intro k i h0 h1 hd hk
    obtain ⟨k, rfl⟩ : ∃ m, k = m + 1 := ⟨k - 1, by omega⟩
    have hs : (∀ j, i ≤ j → j < l.length → RowOK l j) ↔ RowOK l i ∧ ∀ j, i + 1 ≤ j → j < l.length → RowOK l j :=
      ⟨fun h => ⟨h i (by omega) (by omega), fun j hj => h j (by omega)⟩, fun h j hj hl => by
        by_cases e : j = i
        · subst e; exact h.1
        · exact h.2 j (by omega) hl⟩
    obtain ⟨b, hb, hbi⟩ := ih k (i + 1) (by omega) (by omega) (by omega) (by omega)
    rw [jobberref06_Good.l0, List.length_map, if_pos (by omega), if_pos h0, hs, wid (x := i + 1) (by omega) (by omega)]
    simp only [rd_map, mk3]
    unfold RowOK
    split
    · exact ⟨false, rfl, by simp; omega⟩
    split
    · exact ⟨false, rfl, by simp; omega⟩
    split
    · exact ⟨false, rfl, by simp; omega⟩
    split
    · rw [wid (x := i - 1) (by omega) (by omega), if_pos (by omega), if_pos (by omega)]
      split
      · refine ⟨false, rfl, ?_⟩; simp; intro a1 a2 a3 a4; exfalso; have := a4 (by omega); omega
      · exact ⟨b, hb, by rw [hbi]; exact ⟨fun h => ⟨⟨by omega, by omega, by omega, fun _ => by omega⟩, h⟩, fun h => h.2⟩⟩
    · exact ⟨b, hb, by rw [hbi]; exact ⟨fun h => ⟨⟨by omega, by omega, by omega, fun _ => by omega⟩, h⟩, fun h => h.2⟩⟩
theorem rgood (l : List S94) {k : Nat} (hk : 10 < k) : ∃ b, jobberref06_Good.f k ((l.take 9).map mk3) = some b ∧ (b = true ↔ Good l) := by
  obtain ⟨k, rfl⟩ : ∃ m, k = m + 1 := ⟨k - 1, by omega⟩
  unfold jobberref06_Good.f
  rw [List.length_map, List.length_take]
  split
  · exact ⟨false, by rw [jobberref06_Good.j0, if_pos rfl], by simp; intro h; have := h.lo; omega⟩
  split
  · exact ⟨false, by rw [jobberref06_Good.j0, if_pos rfl], by simp; intro h; have := h.hi; omega⟩
  rw [List.take_of_length_le (by omega)]
  rw [if_pos (by omega), jobberref06_Good.j0]
  simp only [rd_map, mk3]
  by_cases hz : (rd_T94 l 0).f0 = 0
  · obtain ⟨b, hb, hbi⟩ := rgood_loop l (by omega) l.length k 0 (by omega) (by omega) (by omega) (by omega)
    refine ⟨b, ?_, ?_⟩
    · rw [if_neg (by simp [hz])]; exact hb
    · rw [hbi]; exact ⟨fun h => ⟨by omega, by omega, hz, h⟩, fun h => h.row⟩
  · exact ⟨false, by rw [if_pos (by simp [hz])], by simp; intro h; exact hz h.zero⟩
/-- May the price be asked for? -/
def May (l : List S94) (p : Int) : Prop := Good l ∧ 1 ≤ p ∧ p ≤ 1099511627776
theorem may (l : List S94) (p : Int) {k : Nat} (hk : 10 < k) : ∃ b, grid_may.f k l p = some b ∧ (b = true ↔ May l p) := by
  obtain ⟨b, hb, hbi⟩ := good l hk
  unfold grid_may.f May
  rw [hb]; simp only [Option.bind_some]
  cases b with
  | false => exact ⟨false, rfl, by simp; intro h; simp [h] at hbi⟩
  | true =>
    have hg := hbi.1 rfl
    rw [if_pos rfl]
    split
    · exact ⟨_, rfl, by simp; exact ⟨fun h => ⟨hg, by omega, h⟩, fun h => h.2.2⟩⟩
    · exact ⟨_, rfl, by simp; intro _ h; omega⟩
theorem rmay (l : List S94) (p : Int) {k : Nat} (hk : 10 < k) : ∃ b, jobberref06_may.f k ((l.take 9).map mk3) p = some b ∧ (b = true ↔ May l p) := by
  obtain ⟨b, hb, hbi⟩ := rgood l hk
  unfold jobberref06_may.f May
  rw [hb]; simp only [Option.bind_some]
  cases b with
  | false => exact ⟨false, rfl, by simp; intro h; simp [h] at hbi⟩
  | true =>
    have hg := hbi.1 rfl
    rw [if_pos rfl]
    split
    · exact ⟨_, rfl, by simp; exact ⟨fun h => ⟨hg, by omega, h⟩, fun h => h.2.2⟩⟩
    · exact ⟨_, rfl, by simp; intro _ h; omega⟩
end Go.Proofs.Ytdfkbdcdgbjgcaa.Grid.M
