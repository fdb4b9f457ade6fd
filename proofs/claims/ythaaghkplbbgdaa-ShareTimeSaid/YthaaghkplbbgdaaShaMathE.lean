/- Shares are fair, and by time in turn: the two laws on lists. -/
import Derived.Test.YthaaghkplbbgdaaShaMathD
namespace Go.Proofs.Ythaaghkplbbgdaa.Sha.M
open Go.RowKit Go.Proofs.Ythaaghkplbbgdaa.Sha Go.Proofs.YthaaghkplbbgdaaW.PrintWords Go.Proofs.YthaaghkplbbgdaaW.PrintLast
set_option linter.unusedVariables false
set_option linter.unusedSimpArgs false
theorem fair_loop {mode qty lot tot : Int} {l : List S46} {r : List Int} (h : Ok mode l qty lot tot r) {G : Int} (hG : mn (tr lot qty) tot = G) : ∀ (n : Nat) (i all : Int), 0 ≤ i → i + n = l.length → 0 ≤ all → all + S (rd r) i n = G → ∀ k, 2 * n + 40 < k → jobberlaw16_ShareFair.l0 k mode l lot tot all G r (l.length : Int) i = some true
  | 0, i, all, h0, h1, h2, h3, k, hk => by
    obtain ⟨k, rfl⟩ : ∃ m, k = m + 1 := ⟨k - 1, by omega⟩
    simp only [S] at h3
    simp only [jobberlaw16_ShareFair.l0]
    rw [if_neg (by omega), if_pos (by omega), lv (by omega)]
  | n + 1, i, all, h0, h1, h2, h3, k, hk => by
    obtain ⟨k, rfl⟩ : ∃ m, k = m + 2 := ⟨k - 2, by omega⟩
    have hb := h.bd i h0 (by omega)
    have hq := h.gd.2.2.2 i h0 (by omega)
    have hl0 := h.gd.1
    have hl1 := h.gd.2.1
    have hn := h.gd.2.2.1
    have ht := tr_range hl0 hq.1
    have hlen := h.len
    have t0 := h.t0
    have t1 := h.t1
    have hq0 := h.q0
    have hqt := tr_range hl0 (show 0 ≤ qty by omega)
    have hGr : 0 ≤ G ∧ G ≤ tot := by
      unfold mn at hG
      by_cases c : tot < tr lot qty
      · rw [if_pos c] at hG; omega
      · rw [if_neg c] at hG; omega
    have hS : 0 ≤ S (rd r) (i + 1) n := S_nonneg (fun j a b => (h.bd j (by omega) (by omega)).1)
    simp only [S] at h3
    have ih := fair_loop h hG n (i + 1) (all + rd r i) (by omega) (by omega) (by omega) (by omega) k (by omega)
    have hm : (Int.tmod (rd r i) lot != 0) = false := by
      rw [Int.tmod_eq_emod_of_nonneg hb.1, hb.2.2]; rfl
    have hf : (rd_T46 l i).f4 = qt l i := rfl
    have e1 : wrap64 (qt l i - Int.tmod (qt l i) lot) = tr lot (qt l i) := by
      have hd : qt l i - qt l i % lot = tr lot (qt l i) := rfl
      rw [Int.tmod_eq_emod_of_nonneg hq.1, hd]
      exact wid (by omega) (by omega)
    rw [jobberlaw16_ShareFair.l0, if_pos (by omega), if_pos (by omega), if_pos (by omega), if_neg (by omega), if_pos (by omega), hf, if_neg (by omega), if_neg (by omega), hm, jobberlaw16_ShareFair.j2, if_neg (by decide), if_pos (by omega), if_pos (by omega), if_neg (by omega), hf, e1, wid (x := all + rd r i) (by omega) (by omega), wid (x := i + 1) (by omega) (by omega), ih]
    by_cases m2 : mode = 2
    · rw [if_pos m2, if_pos (by omega)]
      by_cases c : tot < 1048576
      · rw [if_pos c, if_neg (by omega)]
        have hp0 : 0 ≤ G * tr lot (qt l i) := Int.mul_nonneg hGr.1 ht.1
        have hp1 : G * tr lot (qt l i) ≤ 1048576 * 1099511627776 := Int.le_trans (Int.mul_le_mul_of_nonneg_left (show tr lot (qt l i) ≤ 1099511627776 by omega) hGr.1) (Int.mul_le_mul_of_nonneg_right (by omega) (by omega))
        rw [wid (x := G * tr lot (qt l i)) (by omega) (by omega), Int.tdiv_eq_ediv_of_nonneg hp0]
        have d0 : 0 ≤ G * tr lot (qt l i) / tot := Int.ediv_nonneg hp0 (by omega)
        have d1 : G * tr lot (qt l i) / tot ≤ G * tr lot (qt l i) := Int.ediv_le_self _ hp0
        have hfair := h.fair m2 i h0 (by omega)
        rw [hG] at hfair
        unfold pt at hfair
        have htr := tr_range hl0 d0
        rw [wid (x := G * tr lot (qt l i) / tot) (by omega) (by omega), wid (by omega) (by omega), if_neg (by omega)]
      · rw [if_neg c]
    · rw [if_neg m2]
theorem fair {mode qty lot : Int} {l : List S46} (hq : I64 qty) : ∃ k, jobberlaw16_ShareFair.f k mode l qty lot = some true := by
  refine ⟨400, ?_⟩
  unfold jobberlaw16_ShareFair.f
  by_cases c : (l.length : Int) > 64
  · rw [if_pos c, lv (by omega)]
  rw [if_neg c]
  unfold I64 at hq
  obtain ⟨tot, r, hk, htn, hl, hs⟩ := share mode l qty lot hq.2
  rw [(hk 400 (by omega)).2]
  simp only [Option.bind_some]
  rw [(hk 400 (by omega)).1]
  simp only [Option.bind_some]
  by_cases c1 : lot < 1
  · rw [if_pos c1, jobberlaw16_ShareFair.j0, if_pos rfl]
    have h0 := hl c1
    rcases hs with ⟨hr, _⟩ | hs
    · rw [hr, if_pos (by simp), if_pos h0, lv (by omega)]
    · have := hs.gd.1; omega
  rw [if_neg c1, decide_eq_false (by omega), jobberlaw16_ShareFair.j0, if_neg (by decide)]
  rcases hs with ⟨hr, hc⟩ | hs
  · rw [hr, if_pos (by simp)]
    by_cases z : tot = 0
    · rw [if_pos z, lv (by omega)]
    rw [if_neg z]
    by_cases z1 : qty < 1
    · rw [if_pos z1, lv (by omega)]
    rw [if_neg z1]
    by_cases z2 : qty > 4611686018427387904
    · rw [if_pos z2, lv (by omega)]
    rw [if_neg z2, if_neg (by omega), if_neg (by omega), lv (by omega)]
  · have t0 := hs.t0
    have hlen := hs.len
    have hne : l.length ≠ 0 := by
      intro e
      have := hs.sum
      rw [e] at this
      simp only [S] at this
      -- nothing waits: nothing is told
      have hq0 := hs.q0
      have hsum : tot = 0 := by
        obtain ⟨v, hv, hvs⟩ := total lot l
        have := hv 400 (by omega)
        rw [(hk 400 (by omega)).1] at this
        obtain rfl := Option.some.inj this
        rcases hvs with h | ⟨_, h⟩
        · exact h
        · rw [e] at h; exact h
      omega
    rw [if_neg (by omega), if_pos (by omega), if_neg (by omega)]
    have hq0 := hs.q0
    have e1 : wrap64 (qty - Int.tmod qty lot) = tr lot qty := by
      have hqt := tr_range hs.gd.1 (show 0 ≤ qty by omega)
      have hd : qty - qty % lot = tr lot qty := rfl
      rw [Int.tmod_eq_emod_of_nonneg (by omega), hd]
      exact wid (by omega) (by omega)
    rw [e1, hlen]
    have hn := hs.gd.2.2.1
    exact fair_loop hs rfl l.length 0 0 (by omega) (by omega) (by omega) (by rw [hs.sum]; omega) 399 (by omega)
theorem time_loop {qty lot tot : Int} {l : List S46} {r : List Int} (h : Ok 1 l qty lot tot r) : ∀ (n : Nat) (i : Int) (o : Bool), 0 ≤ i → i + n = l.length → (o = true → ∃ j, 0 ≤ j ∧ j < i ∧ rd r j < tr lot (qt l j)) → ∀ k, n + 40 < k → jobberlaw16_ShareTime.l0 k l lot o r (l.length : Int) i = some true
  | 0, i, o, h0, h1, h2, k, hk => by
    obtain ⟨k, rfl⟩ : ∃ m, k = m + 1 := ⟨k - 1, by omega⟩
    simp only [jobberlaw16_ShareTime.l0]
    rw [if_neg (by omega), lv (by omega)]
  | n + 1, i, o, h0, h1, h2, k, hk => by
    obtain ⟨k, rfl⟩ : ∃ m, k = m + 1 := ⟨k - 1, by omega⟩
    have hlen := h.len
    have hn := h.gd.2.2.1
    have hl0 := h.gd.1
    have hq := h.gd.2.2.2 i h0 (by omega)
    have ht := tr_range hl0 hq.1
    rw [jobberlaw16_ShareTime.l0, if_pos (by omega), if_pos (by omega), if_pos (by omega), if_neg (by omega), wid (x := i + 1) (by omega) (by omega)]
    cases o with
    | true =>
      obtain ⟨j, a, b, c⟩ := h2 rfl
      have hz := h.time rfl j i a b (by omega) c
      rw [if_pos rfl, if_neg (by omega)]
      exact time_loop h n (i + 1) true (by omega) (by omega) (fun _ => ⟨j, a, by omega, c⟩) k (by omega)
    | false =>
      have hf : (rd_T46 l i).f4 = qt l i := rfl
      have e1 : wrap64 (qt l i - Int.tmod (qt l i) lot) = tr lot (qt l i) := by
        have hd : qt l i - qt l i % lot = tr lot (qt l i) := rfl
        rw [Int.tmod_eq_emod_of_nonneg hq.1, hd]
        exact wid (by omega) (by omega)
      rw [if_neg (by decide), if_pos (by omega), if_neg (by omega), hf, e1]
      exact time_loop h n (i + 1) _ (by omega) (by omega) (fun e => ⟨i, h0, by omega, of_decide_eq_true e⟩) k (by omega)
theorem time {qty lot : Int} {l : List S46} (hq : I64 qty) : ∃ k, jobberlaw16_ShareTime.f k l qty lot = some true := by
  refine ⟨400, ?_⟩
  unfold jobberlaw16_ShareTime.f
  have hlv : jobberlaw16_ShareTime.j0 400 l qty lot true = some true := by rw [jobberlaw16_ShareTime.j0, if_pos rfl, lv (by omega)]
  by_cases c : (l.length : Int) > 64
  · rw [if_pos c, hlv]
  rw [if_neg c]
  by_cases c1 : lot < 1
  · rw [decide_eq_true c1, hlv]
  rw [decide_eq_false c1, jobberlaw16_ShareTime.j0, if_neg (by decide)]
  unfold I64 at hq
  obtain ⟨tot, r, hk, htn, hl, hs⟩ := share 1 l qty lot hq.2
  rw [(hk 399 (by omega)).2]
  simp only [Option.bind_some]
  rcases hs with ⟨hr, hc⟩ | hs
  · rw [hr, jobberlaw16_ShareTime.l0, if_neg (by simp), lv (by omega)]
  · rw [hs.len]
    have hn := hs.gd.2.2.1
    exact time_loop hs l.length 0 false (by omega) (by omega) (by simp) 399 (by omega)
end Go.Proofs.Ythaaghkplbbgdaa.Sha.M
