/- The price at which most is traded; no condition. -/
import Derived.Test.YtjjnbcaemognhaaZClrMathT
namespace Go.Proofs.Ytjjnbcaemognhaa.Clr.M
open Go.RowKit Go.Proofs.Ytjjnbcaemognhaa.Clr Go.Proofs.YtjjnbcaemognhaaW.PrintWords Go.Proofs.YtjjnbcaemognhaaW.PrintLast Go.Proofs.YtjjnbcaemognhaaW.PrintMore
set_option linter.unusedVariables false
set_option linter.unusedSimpArgs false
def betP (c d : Cand) : Prop := d.2.1 < c.2.1 ∨ (c.2.1 = d.2.1 ∧ (c.2.2.1 < d.2.2.1 ∨ (c.2.2.1 = d.2.2.1 ∧ (c.2.2.2 < d.2.2.2 ∨ (c.2.2.2 = d.2.2.2 ∧ c.1 < d.1)))))
instance (c d : Cand) : Decidable (betP c d) := by unfold betP; infer_instance
theorem cmp64 (a b : Int) : cmp_Compare_int64.f a b = some (if a < b then -1 else if a > b then 1 else 0) := by
  simp only [cmp_Compare_int64.f, cmp_isNaN_int64.f, Option.bind_some, bne_self_eq_false]
  simp only [Bool.false_eq_true, if_false]
  repeat' split
  all_goals rfl
theorem or4 (a b c d : Int) : cmp_Or_int.f 5 [a, b, c, d] = some (if a = 0 then (if b = 0 then (if c = 0 then d else c) else b) else a) := by
  have e : rd [a, b, c, d] 0 = a := rfl
  have e1 : rd [a, b, c, d] 1 = b := rfl
  have e2 : rd [a, b, c, d] 2 = c := rfl
  have e3 : rd [a, b, c, d] 3 = d := rfl
  have w1 : wrap64 (0 + 1) = 1 := by decide +kernel
  have w2 : wrap64 (1 + 1) = 2 := by decide +kernel
  have w3 : wrap64 (2 + 1) = 3 := by decide +kernel
  have w4 : wrap64 (3 + 1) = 4 := by decide +kernel
  simp only [cmp_Or_int.f, cmp_Or_int.l0, List.length_cons, List.length_nil, e, e1, e2, e3, w1, w2, w3, w4]
  by_cases ha : a = 0 <;> by_cases hb : b = 0 <;> by_cases hc : c = 0 <;> by_cases hd : d = 0 <;> simp [ha, hb, hc, hd, e1, e2, e3, w1, w2, w3, w4]
theorem betM_eq (c d : Cand) : betM c d = decide (betP c d) := by
  rw [betM]
  simp only [call_candidate_better.f, cmp64, or4, Option.bind_some, Option.getD_some]
  refine decide_eq_decide.2 ?_
  unfold betP
  repeat' split
  all_goals omega
def vl (l : List SO) (p : Int) : Int := mn (sumP 1 p l) (sumP 2 p l)
theorem vl_look (l : List SO) (p last : Int) : (lookM l p last).2.1 = vl l p ∧ (lookM l p last).1 = p := ⟨rfl, rfl⟩
theorem best_max (l : List SO) (last : Int) (h0 : ∀ p, 0 ≤ vl l p) : ∀ (R : List SO) (S : List Int) (b : Cand), (b.2.1 = vl l b.1 ∨ b = (0, 0, 0, 0)) → (∀ s ∈ S, vl l s ≤ b.2.1) →
    ((bestM l last R S b).2.1 = vl l (bestM l last R S b).1 ∨ bestM l last R S b = (0, 0, 0, 0)) ∧ b.2.1 ≤ (bestM l last R S b).2.1 ∧ ∀ x ∈ R, vl l x.f3 ≤ (bestM l last R S b).2.1
  | [], S, b, h, hS => ⟨h, Int.le_refl _, fun x hx => nomatch hx⟩
  | x :: R, S, b, h, hS => by
    rw [bestM]
    by_cases c : S.contains x.f3 = true
    · rw [if_pos c]
      have hx := hS x.f3 (by simpa using c)
      obtain ⟨i1, i2, i3⟩ := best_max l last h0 R S b h hS
      refine ⟨i1, i2, fun y hy => ?_⟩
      rcases List.mem_cons.1 hy with rfl | hy
      · omega
      · exact i3 y hy
    · rw [if_neg c]
      have hl := vl_look l x.f3 last
      obtain ⟨d, hd⟩ : ∃ d, lookM l x.f3 last = d := ⟨_, rfl⟩
      rw [hd] at hl ⊢
      have ht : (takeC d b).2.1 = vl l (takeC d b).1 ∧ b.2.1 ≤ (takeC d b).2.1 ∧ vl l x.f3 ≤ (takeC d b).2.1 ∨ takeC d b = b ∧ vl l x.f3 ≤ b.2.1 := by
        rw [takeC, betM_eq]
        by_cases z : b = (0, 0, 0, 0)
        · rw [if_pos (.inl z), hl.2]
          have : b.2.1 = 0 := by rw [z]
          have := h0 x.f3
          exact .inl ⟨hl.1, by omega, by omega⟩
        · by_cases q : betP d b
          · rw [if_pos (.inr (decide_eq_true q)), hl.2]
            unfold betP at q
            exact .inl ⟨hl.1, by omega, by omega⟩
          · rw [if_neg (fun u => u.elim z fun u => q (of_decide_eq_true u))]
            unfold betP at q
            exact .inr ⟨rfl, by omega⟩
      have hc : ((takeC d b).2.1 = vl l (takeC d b).1 ∨ takeC d b = (0, 0, 0, 0)) ∧ b.2.1 ≤ (takeC d b).2.1 ∧ vl l x.f3 ≤ (takeC d b).2.1 := by
        rcases ht with ⟨a, a2, a3⟩ | ⟨a, a2⟩
        · exact ⟨.inl a, a2, a3⟩
        · rw [a]; exact ⟨h, Int.le_refl _, a2⟩
      obtain ⟨i1, i2, i3⟩ := best_max l last h0 R (x.f3 :: S) (takeC d b) hc.1 (fun s hs => by
        rcases List.mem_cons.1 hs with rfl | hs
        · exact hc.2.2
        · have := hS s hs; omega)
      refine ⟨i1, by omega, fun y hy => ?_⟩
      rcases List.mem_cons.1 hy with rfl | hy
      · omega
      · exact i3 y hy
theorem mn_le (a b : Int) : mn a b ≤ a ∧ mn a b ≤ b ∧ (mn a b = a ∨ mn a b = b) := by unfold mn; split <;> omega
theorem vl_nn {l : List SO} (hg : ∀ x ∈ l, gdO x) (p : Int) : 0 ≤ vl l p := by
  have a := sumP_range 1 p l hg
  have b := sumP_range 2 p l hg
  have := mn_le (sumP 1 p l) (sumP 2 p l)
  unfold vl; omega
theorem price_max {l : List SO} (hg : ∀ x ∈ l, gdO x) (last : Int) : ∃ p n, priceM l last = (p, n) ∧ ((n = 0 ∧ p = 0) ∨ (1 ≤ n ∧ n = vl l p ∧ ∀ x ∈ l, vl l x.f3 ≤ n)) := by
  obtain ⟨i1, i2, i3⟩ := best_max l last (vl_nn hg) l [] (0, 0, 0, 0) (.inr rfl) (fun s hs => nomatch hs)
  rw [priceM]
  obtain ⟨b, hb⟩ : ∃ b, bestM l last l [] (0, 0, 0, 0) = b := ⟨_, rfl⟩
  rw [hb] at i1 i2 i3 ⊢
  by_cases c : b.2.1 = 0
  · rw [if_pos c]; exact ⟨0, 0, rfl, .inl ⟨rfl, rfl⟩⟩
  · rw [if_neg c]
    refine ⟨b.1, b.2.1, rfl, .inr ⟨?_, ?_, i3⟩⟩
    · have : (0 : Int) ≤ b.2.1 := i2
      omega
    · rcases i1 with i1 | i1
      · exact i1
      · rw [i1] at c; exact absurd rfl c
theorem sumP_mod (s p lot : Int) : ∀ l : List SO, (∀ x ∈ l, x.f4 % lot = 0) → sumP s p l % lot = 0
  | [], _ => by simp [sumP]
  | x :: l, h => by
    rw [sumP]
    refine mod_add ?_ (sumP_mod s p lot l fun y hy => h y (List.mem_cons_of_mem _ hy))
    split
    · exact h x (List.mem_cons_self ..)
    · simp
theorem sumP_gt {l : List SO} {side p V x : Int} {r : List Int} {i : Int} (R : SideOk l side p V r) (hq : ∀ j : Int, 0 ≤ j → j < l.length → 1 ≤ qt l j) (h0 : 0 ≤ i) (h1 : i < l.length) (hs : (rd_T42 l i).f2 = side) (hlt : rd r i < qt l i)
    (hx : ∀ j : Int, 0 ≤ j → j < l.length → (rd_T42 l j).f2 = side → ahd side (rd_T42 l j).f3 (rd_T42 l i).f3 → cr (rd_T42 l j) x = true) : V < sumP side x l := by
  have e := sumP_S side x l []
  rw [e, ← R.sum]
  refine S_lt l.length 0 i (fun j a b => ?_) h0 (by omega) ?_
  · have hb := R.bd j a (by omega)
    have := hq j a (by omega)
    show rd r j ≤ if _ then _ else _
    by_cases c : 0 < rd r j
    · have w := R.cs j a (by omega) c
      rw [if_pos ⟨w.1, hx j a (by omega) w.1 (R.pri i j h0 h1 a (by omega) hs hlt c)⟩]
      exact hb.2
    · split
      · have : qt ([] ++ l) j = qt l j := rfl
        omega
      · omega
  · show rd r i < if _ then _ else _
    rw [if_pos ⟨hs, hx i h0 h1 hs ⟨fun _ => Int.le_refl _, fun _ => Int.le_refl _⟩⟩]
    exact hlt
theorem clears {l : List SO} {lot p V : Int} {b c : List Int} (N : Nrm l lot) (hmax : ∀ x ∈ l, vl l x.f3 ≤ V) (B : SideOk l 1 p V b) (C : SideOk l 2 p V c) {i j : Int} (i0 : 0 ≤ i) (i1 : i < l.length) (j0 : 0 ≤ j) (j1 : j < l.length)
    (hi : (rd_T42 l i).f2 = 1) (hj : (rd_T42 l j).f2 = 2) (bi : rd b i < qt l i) (cj : rd c j < qt l j) : (rd_T42 l i).f3 < (rd_T42 l j).f3 := by
  refine Classical.byContradiction fun hne => ?_
  have hq : ∀ j : Int, 0 ≤ j → j < l.length → 1 ≤ qt l j := by
    intro j a b
    have := (N.at a b).1
    unfold gdO at this
    exact this.2.2.2.1
  have a1 := sumP_gt (x := (rd_T42 l i).f3) B hq i0 i1 hi bi (fun t a b s h => by
    unfold cr
    have := h.1 rfl
    exact decide_eq_true (.inl ⟨s, this⟩))
  have a2 := sumP_gt (x := (rd_T42 l i).f3) C hq j0 j1 hj cj (fun t a b s h => by
    unfold cr
    have := h.2 rfl
    exact decide_eq_true (.inr ⟨s, by omega⟩))
  have := hmax _ (N.at i0 i1).2.2
  have := mn_le (sumP 1 (rd_T42 l i).f3 l) (sumP 2 (rd_T42 l i).f3 l)
  unfold vl at *
  omega
theorem so_srtd {l : List SO} (h : So ltO l) : Srtd l := by
  intro i j a b c s hs1 hs2
  by_cases e : i = j
  · subst e; exact ⟨fun _ => Int.le_refl _, fun _ => Int.le_refl _⟩
  · obtain ⟨i, rfl⟩ := Int.eq_ofNat_of_zero_le a
    obtain ⟨j, rfl⟩ := Int.eq_ofNat_of_zero_le (show 0 ≤ j by omega)
    have e1 : rd_T42 l (i : Int) = l[i] := rdO (by omega)
    have e2 : rd_T42 l (j : Int) = l[j] := rdO (by omega)
    have := List.pairwise_iff_getElem.1 h i j (by omega) (by omega) (by omega)
    rw [← e1, ← e2] at this
    simp only [ltO, decide_eq_false_iff_not] at this
    unfold lexP rk kp at this
    refine ⟨fun q => ?_, fun q => ?_⟩
    · have x1 : (rd_T42 l (i : Int)).f2 = 1 := by rw [hs1, q]
      have x2 : (rd_T42 l (j : Int)).f2 = 1 := by rw [hs2, q]
      rw [if_pos x1, if_pos x2, if_pos x1, if_pos x2] at this
      omega
    · have x1 : (rd_T42 l (i : Int)).f2 = 2 := by rw [hs1, q]
      have x2 : (rd_T42 l (j : Int)).f2 = 2 := by rw [hs2, q]
      have y1 : ¬ (rd_T42 l (i : Int)).f2 = 1 := by omega
      have y2 : ¬ (rd_T42 l (j : Int)).f2 = 1 := by omega
      rw [if_neg y1, if_neg y2, if_pos x1, if_pos x2, if_neg y1, if_neg y2, if_pos x1, if_pos x2] at this
      omega
end Go.Proofs.Ytjjnbcaemognhaa.Clr.M
