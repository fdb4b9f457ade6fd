/- Who gets how much: the document's answer is the program's, on lists and numbers. -/
import Derived.Test.YthaaghkplbbgdaaShbMathD
import Derived.Test.YthaaghkplbbgdaaShbMathR
namespace Go.Proofs.Ythaaghkplbbgdaa.Shb.M
open Go.RowKit Go.Proofs.Ythaaghkplbbgdaa.Shb Go.Proofs.YthaaghkplbbgdaaW.PrintWords Go.Proofs.YthaaghkplbbgdaaW.PrintLast
set_option linter.unusedVariables false
set_option linter.unusedSimpArgs false
def mk6 (x : S46) : S73 := ⟨x.f0, x.f1, x.f2, x.f3, x.f4, x.f5⟩
theorem rd_map (l : List S46) (j : Int) : rd_T73 (l.map mk6) j = mk6 (rd_T46 l j) := by
  unfold rd_T73 rd_T46
  rw [List.getD_eq_getElem?_getD, List.getD_eq_getElem?_getD, List.getElem?_map]
  cases l[j.toNat]? <;> rfl
theorem rd_f4 (l : List S46) (j : Int) : (rd_T73 (l.map mk6) j).f4 = (rd_T46 l j).f4 := by rw [rd_map]; rfl
theorem ret_take {l : List S46} {j : Nat} {i : Int} (hi : i = (j : Int)) (hj : j < l.length) : l.take (j + 1) = l.take j ++ [rd_T46 l i] := by
  subst hi
  rw [List.take_succ_eq_append_getElem hj]
  unfold rd_T46
  rw [List.getD_eq_getElem?_getD, Int.toNat_natCast, List.getElem?_eq_getElem hj]
  rfl
theorem plain_loop (l : List S46) (hl : l.length ≤ 100) : ∀ (d k : Nat) (j : Nat), j ≤ l.length → l.length - j = d → d < k → jobberlaw12_Plain.l0 k ((l.take j).map mk6) l (l.length : Int) (j : Int) = some (l.map mk6) := by
  intro d
  induction d with
  | zero =>
    intro k j hj hd hk
    obtain ⟨k, rfl⟩ : ∃ m, k = m + 1 := ⟨k - 1, by omega⟩
    rw [jobberlaw12_Plain.l0, if_neg (by omega), List.take_of_length_le (by omega)]
  | succ d ih =>
    intro k j hj hd hk
    obtain ⟨k, rfl⟩ : ∃ m, k = m + 1 := ⟨k - 1, by omega⟩
    rw [jobberlaw12_Plain.l0, if_pos (by omega), if_pos (by omega), if_pos (by omega), if_pos (by rw [List.length_map, List.length_take]; omega), wid (by omega) (by omega)]
    have := ih k (j + 1) (by omega) (by omega) (by omega)
    rw [ret_take rfl (by omega), List.map_append] at this
    exact this
theorem plain (l : List S46) (hl : l.length ≤ 100) {k : Nat} (hk : 100 < k) : jobberlaw12_Plain.f k l = some (l.map mk6) := by
  have := plain_loop l hl l.length k 0 (by omega) (by omega) (by omega)
  exact this
theorem trims {a b : Int} (hb : I64 b) : ∃ r, limits_Trim.f a b = some r ∧ jobberref07_Trim.f a b = some r ∧ I64 r := by
  unfold limits_Trim.f jobberref07_Trim.f
  by_cases c : a < 1
  · exact ⟨0, by rw [if_pos (by unfold mn; split <;> omega)], by rw [if_pos c], by unfold I64; omega⟩
  by_cases d : b < 1
  · exact ⟨0, by rw [if_pos (by unfold mn; split <;> omega)], by rw [if_neg c, if_pos d], by unfold I64; omega⟩
  have h0 := Int.emod_nonneg b (show a ≠ 0 by omega)
  have hd := Int.emod_add_mul_ediv b a
  have hq := Int.ediv_nonneg (show 0 ≤ b by omega) (show 0 ≤ a by omega)
  have hm := Int.mul_nonneg (show 0 ≤ a by omega) hq
  have hle : b / a ≤ b := Int.ediv_le_self _ (by omega)
  unfold I64 at hb
  refine ⟨b - b % a, ?_, ?_, by unfold I64; omega⟩
  · rw [if_neg (by unfold mn; split <;> omega), if_neg (by omega), Int.tmod_eq_emod_of_nonneg (by omega), wid (by omega) (by omega)]
  · rw [if_neg c, if_neg d, if_neg (by omega), Int.tdiv_eq_ediv_of_nonneg (by omega), wid (x := b / a) (by omega) (by omega), Int.mul_comm, wid (by omega) (by omega)]
    congr 1
    omega
theorem total_sim (lot : Int) (l : List S46) : ∀ (k : Nat) (acc i : Int), share_Total.l0 k lot acc l (l.length : Int) i = jobberref16_Total.l0 k (l.map mk6) lot acc i
  | 0, acc, i => by rw [share_Total.l0, jobberref16_Total.l0]
  | k + 1, acc, i => by
    rw [share_Total.l0, jobberref16_Total.l0, List.length_map]
    by_cases h : i < (l.length : Int)
    · rw [if_pos h, if_pos h]
      by_cases h0 : 0 ≤ i
      · rw [if_pos h0, if_pos h0, if_pos h, rd_f4]
        by_cases c1 : (rd_T46 l i).f4 < 0
        · rw [if_pos c1, if_pos c1]
        by_cases c2 : (rd_T46 l i).f4 > 1099511627776
        · rw [if_neg c1, if_neg c1, if_pos c2, if_pos c2]
        rw [if_neg c1, if_neg c1, if_neg c2, if_neg c2]
        obtain ⟨r, hr, hr2, _⟩ := trims (a := lot) (b := (rd_T46 l i).f4) (by unfold I64; omega)
        rw [hr, hr2]
        simp only [Option.bind_some]
        exact total_sim lot l k _ _
      · rw [if_neg h0, if_neg h0, if_pos h]
    · rw [if_neg h, if_neg h]
theorem reftotal (lot : Int) (l : List S46) (k : Nat) : jobberref16_Total.f k (l.map mk6) lot = share_Total.f k l lot := by
  have e : ∀ x, jobberref16_Total.j0 k (l.map mk6) lot x = share_Total.j0 k l lot 0 x := fun x => by
    cases k with
    | zero => rw [share_Total.j0, jobberref16_Total.j0]
    | succ k => rw [share_Total.j0, jobberref16_Total.j0, total_sim]
  unfold share_Total.f jobberref16_Total.f
  rw [e, e, List.length_map]
theorem sgn_i64 {n : Bool} {q : Int} (h : 0 ≤ q) : I64 (sgn n q).1 := by
  unfold sgn I64
  repeat' split
  all_goals (dsimp only; omega)
theorem divS_i64 {a b c r : Int} (ha : I64 a) (hb : I64 b) : I64 (divS a b c r).1 := by
  have z := pr_range ha hb
  unfold divS
  by_cases c1 : r < 1 ∨ r > 3
  · rw [if_pos c1]; unfold I64; dsimp only; omega
  by_cases c2 : c = 0
  · rw [if_neg c1, if_pos c2]; unfold I64; dsimp only; omega
  rw [if_neg c1, if_neg c2]
  have h0 : 0 ≤ pr a b / ab c := Int.ediv_nonneg z.1 (by unfold ab; split <;> omega)
  refine sgn_i64 ?_
  split <;> omega
/-- The parts, the two ways. -/
theorem parts_sim {lot q tot : Int} {l : List S46} (hq : I64 q) (ht : I64 tot) (hl : l.length ≤ 64) (hg : ∀ j : Int, 0 ≤ j → j < l.length → 0 ≤ (rd_T46 l j).f4 ∧ (rd_T46 l j).f4 ≤ 1099511627776) :
    ∀ (n k m : Nat) (i : Int) (xs : List Int), 0 ≤ i → i + n = l.length → xs.length = l.length → n + 3 < k → ∃ ys, share_parts.l0 k q lot tot xs l (l.length : Int) i = some ys ∧ ys.length = l.length ∧ jobberref16_Share.l0 (2 * n + 2 + m) 2 (l.map mk6) lot tot q q xs i = jobberref16_Share.l1 m (l.map mk6) lot q ys 0 := by
  intro n
  induction n with
  | zero =>
    intro k m i xs h0 hi hx hk
    obtain ⟨k, rfl⟩ : ∃ m, k = m + 1 := ⟨k - 1, by omega⟩
    refine ⟨xs, by rw [share_parts.l0, if_neg (by omega)], hx, ?_⟩
    rw [show 2 * 0 + 2 + m = m + 1 + 1 by omega, jobberref16_Share.l0, if_pos rfl, List.length_map, decide_eq_false (by omega), jobberref16_Share.j3, if_neg (by decide)]
  | succ n ih =>
    intro k m i xs h0 hi hx hk
    obtain ⟨k, rfl⟩ : ∃ m, k = m + 1 := ⟨k - 1, by omega⟩
    obtain ⟨g0, g1⟩ := hg i h0 (by omega)
    obtain ⟨t, ht1, ht2, ht3⟩ := trims (a := lot) (b := (rd_T46 l i).f4) (by unfold I64; omega)
    have hd := divS_i64 (c := tot) (r := 1) hq ht3
    obtain ⟨u, hu1, hu2, hu3⟩ := trims (a := lot) hd
    obtain ⟨ys, h1, h2, h3⟩ := ih k m (i + 1) (xs.set i.toNat u) (by omega) (by omega) (by rw [List.length_set]; exact hx) (by omega)
    refine ⟨ys, ?_, h2, ?_⟩
    · rw [share_parts.l0, if_pos (by omega), if_pos h0, if_pos (by omega), ht1]; simp only [Option.bind_some]
      rw [div hq ht3 ht (by omega)]; simp only [Option.bind_some]
      rw [hu1]; simp only [Option.bind_some]
      rw [if_pos (by omega), wid (by omega) (by omega)]
      exact h1
    · rw [show 2 * (n + 1) + 2 + m = (2 * n + 2 + m) + 1 + 1 by omega, jobberref16_Share.l0, if_pos rfl, List.length_map, decide_eq_true (by omega), jobberref16_Share.j3, if_pos rfl, if_pos h0, List.length_map, if_pos (by omega), rd_f4, ht2]; simp only [Option.bind_some]
      rw [ref_div hq ht3 ht]; simp only [Option.bind_some]
      rw [hu2]; simp only [Option.bind_some]
      rw [if_pos (by omega), wid (by omega) (by omega)]
      exact h3
theorem take_sim {lot : Int} {l : List S46} (hl : l.length ≤ 64) : ∀ (n m : Nat) (i left : Int) (ys : List Int), 0 ≤ i → i + n = l.length → ys.length = l.length → jobberref16_Share.l1 (n + 1 + m) (l.map mk6) lot left ys i = jobberref16_Share.l2 (n + m - n) (l.map mk6) lot (shTake left (ys.drop i.toNat)) ys 0 := by
  intro n
  induction n with
  | zero =>
    intro m i left ys h0 hi hy
    rw [show 0 + 1 + m = m + 1 by omega, jobberref16_Share.l1, List.length_map, if_neg (by omega), show 0 + m - 0 = m by omega, List.drop_of_length_le (by omega)]
    rfl
  | succ n ih =>
    intro m i left ys h0 hi hy
    rw [show n + 1 + 1 + m = (n + 1 + m) + 1 by omega, jobberref16_Share.l1, List.length_map, if_pos (by omega), if_pos h0, if_pos (by omega), wid (x := i + 1) (by omega) (by omega), ih m (i + 1) _ ys (by omega) (by omega) hy, show n + 1 + m - (n + 1) = m by omega, show n + m - n = m by omega]
    have e : ys.drop i.toNat = rd ys i :: ys.drop (i + 1).toNat := by
      rw [show (i + 1).toNat = i.toNat + 1 by omega, List.drop_eq_getElem_cons (by omega)]
      congr 1
      unfold rd
      rw [List.getD_eq_getElem?_getD, List.getElem?_eq_getElem (by omega)]; rfl
    rw [e]
    rfl
theorem give_sim {lot : Int} {l : List S46} (hl : l.length ≤ 64) (hg : ∀ j : Int, 0 ≤ j → j < l.length → 0 ≤ (rd_T46 l j).f4 ∧ (rd_T46 l j).f4 ≤ 1099511627776) : ∀ (n k : Nat) (i left : Int) (xs : List Int), 0 ≤ i → i + n = l.length → xs.length = l.length → n < k → jobberref16_Share.l2 k (l.map mk6) lot left xs i = shGive lot l n i xs left := by
  intro n
  induction n with
  | zero =>
    intro k i left xs h0 hi hx hk
    obtain ⟨k, rfl⟩ : ∃ m, k = m + 1 := ⟨k - 1, by omega⟩
    rw [jobberref16_Share.l2, List.length_map, if_neg (by omega), shGive]
  | succ n ih =>
    intro k i left xs h0 hi hx hk
    obtain ⟨k, rfl⟩ : ∃ m, k = m + 1 := ⟨k - 1, by omega⟩
    obtain ⟨g0, g1⟩ := hg i h0 (by omega)
    obtain ⟨t, ht1, ht2, ht3⟩ := trims (a := lot) (b := (rd_T46 l i).f4) (by unfold I64; omega)
    rw [jobberref16_Share.l2, List.length_map, if_pos (by omega), if_pos h0, rd_f4, ht2, shGive, ht1]; simp only [Option.bind_some]
    rw [if_pos (by omega), wid (x := i + 1) (by omega) (by omega)]
    exact ih k (i + 1) _ _ (by omega) (by omega) (by rw [List.length_set]; exact hx) (by omega)
theorem same_loop (r : List Int) (hr : r.length ≤ 9223372036854775806) : ∀ (n k : Nat) (i : Int), 0 ≤ i → i + n = r.length → n < k → jobberlaw16_Same.l0 k r r (r.length : Int) i = some true := by
  intro n
  induction n with
  | zero =>
    intro k i h0 hi hk
    obtain ⟨k, rfl⟩ : ∃ m, k = m + 1 := ⟨k - 1, by omega⟩
    rw [jobberlaw16_Same.l0, if_neg (by omega)]
  | succ n ih =>
    intro k i h0 hi hk
    obtain ⟨k, rfl⟩ : ∃ m, k = m + 1 := ⟨k - 1, by omega⟩
    rw [jobberlaw16_Same.l0, if_pos (by omega), if_pos h0, if_pos (by omega), if_pos (by omega), if_pos rfl, wid (by omega) (by omega)]
    exact ih k (i + 1) (by omega) (by omega) (by omega)
theorem same (r : List Int) (hr : r.length ≤ 100) {k : Nat} (hk : 100 < k) : jobberlaw16_Same.f k r r = some true := by
  unfold jobberlaw16_Same.f
  rw [if_pos rfl]
  exact same_loop r (by omega) r.length k 0 (by omega) (by omega) (by omega)
theorem refshare {mode qty lot tot : Int} {l : List S46} {r : List Int} (hq : I64 qty) (hl : l.length ≤ 100) (ht : ∀ k, 100 ≤ k → share_Total.f k l lot = some tot ∧ share_Share.f k mode l qty lot = some r) (ho : r = [] ∧ (tot = 0 ∨ qty < 1 ∨ qty > 4611686018427387904 ∨ (mode ≠ 1 ∧ mode ≠ 2)) ∨ Ok mode l qty lot tot r) :
    jobberref16_Share.f 400 mode (l.map mk6) qty lot = some r := by
  obtain ⟨q0, hq1, hq2, hq3⟩ := trims (a := lot) hq
  have hT : ∀ m, jobberref16_Share.j0 400 mode (l.map mk6) qty lot m true = some [] := fun m => by rw [jobberref16_Share.j0, if_pos rfl]
  unfold jobberref16_Share.f
  rw [reftotal, (ht 400 (by omega)).1]; simp only [Option.bind_some]
  rcases ho with ⟨rfl, h⟩ | h
  · by_cases c1 : mode < 1
    · rw [if_pos c1, hT]
    by_cases c2 : mode > 2
    · rw [if_neg c1, if_pos c2, hT]
    by_cases c3 : tot = 0
    · rw [if_neg c1, if_neg c2, if_pos c3, hT]
    by_cases c4 : qty < 1
    · rw [if_neg c1, if_neg c2, if_neg c3, if_pos c4, hT]
    rw [if_neg c1, if_neg c2, if_neg c3, if_neg c4, decide_eq_true (by omega), hT]
  · have hm := h.md
    have h0 := h.t0
    have h1 := h.t1
    have h2 := h.q0
    have h3 := h.q1
    have hg := h.gd
    have hln : l.length ≤ 64 := hg.2.2.1
    have hgg : ∀ j : Int, 0 ≤ j → j < l.length → 0 ≤ (rd_T46 l j).f4 ∧ (rd_T46 l j).f4 ≤ 1099511627776 := hg.2.2.2
    have hp := (ht 399 (by omega)).2
    unfold share_Share.f at hp
    rw [(ht 399 (by omega)).1] at hp; simp only [Option.bind_some] at hp
    rw [if_neg (by omega), if_neg (by omega), if_neg (by omega), hq1] at hp; simp only [Option.bind_some] at hp
    rw [if_neg (by omega), if_neg (by omega), if_neg (by omega), if_neg (by omega), decide_eq_false (by omega), jobberref16_Share.j0, if_neg (by decide), hq2]; simp only [Option.bind_some]
    have hmn : (if q0 > tot then jobberref16_Share.j1 399 mode (l.map mk6) lot tot tot else jobberref16_Share.j1 399 mode (l.map mk6) lot tot q0) = jobberref16_Share.j1 399 mode (l.map mk6) lot tot (mn q0 tot) := by
      unfold mn
      split <;> first | rfl | (split <;> first | rfl | omega | (congr 1; omega))
    rw [hmn]
    obtain ⟨G, hG⟩ : ∃ G, mn q0 tot = G := ⟨_, rfl⟩
    have hGi : I64 G := by
      rw [← hG]
      unfold I64 at hq3 ⊢
      unfold mn
      split <;> omega
    rw [hG] at hp ⊢
    rw [jobberref16_Share.j1, List.length_map, if_pos (by omega), if_pos (by omega)]
    have hrep : (List.replicate ((l.length : Int)).toNat (0 : Int)).length = l.length := by simp
    have hlt : ((l.length : Int)).toNat = l.length := by omega
    rcases hm with rfl | rfl
    · rw [if_pos rfl, if_pos (by omega)] at hp
      rw [jobberref16_Share.l0, if_neg (by decide), jobberref16_Share.j3, if_neg (by decide)]
      have e := take_sim (lot := lot) hln l.length (395 - l.length) 0 G (List.replicate ((l.length : Int)).toNat 0) (by omega) (by omega) hrep
      rw [show l.length + 1 + (395 - l.length) = 396 by omega] at e
      rw [e, give_sim hln hgg l.length _ 0 _ _ (by omega) (by omega) hrep (by omega), hlt]
      exact hp
    · rw [if_neg (by decide), if_pos rfl] at hp
      obtain ⟨ys, y1, y2, y3⟩ := parts_sim (lot := lot) (q := G) (tot := tot) hGi (by unfold I64; omega) hln hgg l.length 399 (396 - 2 * l.length) 0 (List.replicate ((l.length : Int)).toNat 0) (by omega) (by omega) hrep (by omega)
      have hpar : share_parts.f 399 l G lot tot = some ys := by
        unfold share_parts.f
        rw [if_pos (by omega), if_pos (by omega)]
        exact y1
      rw [hpar] at hp; simp only [Option.bind_some] at hp
      rw [if_pos y2] at hp
      rw [show 2 * l.length + 2 + (396 - 2 * l.length) = 398 by omega] at y3
      rw [y3]
      have e := take_sim (lot := lot) hln l.length (395 - 3 * l.length) 0 G ys (by omega) (by omega) y2
      rw [show l.length + 1 + (395 - 3 * l.length) = 396 - 2 * l.length by omega] at e
      rw [e, give_sim hln hgg l.length _ 0 _ _ (by omega) (by omega) y2 (by omega)]
      exact hp
theorem tells {mode qty lot : Int} {l : List S46} (hq : I64 qty) : ∃ k, jobberlaw16_ShareTells.f k mode l qty lot = some true := by
  refine ⟨400, ?_⟩
  unfold jobberlaw16_ShareTells.f
  by_cases c : (l.length : Int) > 100
  · rw [if_pos c, lives (by omega)]; rfl
  rw [if_neg c]
  obtain ⟨tot, r, ht, _, _, ho⟩ := share mode l qty lot hq.2
  have hr : r.length ≤ 100 := by
    rcases ho with ⟨rfl, _⟩ | h
    · simp
    · rw [h.len]; omega
  rw [plain l (by omega) (by omega)]; simp only [Option.bind_some]
  rw [(ht 400 (by omega)).2]; simp only [Option.bind_some]
  rw [refshare hq (by omega) ht ho]; simp only [Option.bind_some]
  rw [same r hr (by omega)]; simp only [Option.bind_some, if_true]
  rw [reftotal, (ht 400 (by omega)).1]
  simp only [Option.bind_some, if_true]
  rw [lives (by omega)]; rfl
end Go.Proofs.Ythaaghkplbbgdaa.Shb.M
