/- The price at which most is traded: the program's is the document's. -/
import Derived.Test.YtjjnbcaemognhaaZCapx18
namespace Go.Proofs.Ytjjnbcaemognhaa.Cap.M
open Go.RowKit Go.Proofs.Ytjjnbcaemognhaa.Cap Go.Proofs.YtjjnbcaemognhaaW.PrintWords Go.Proofs.YtjjnbcaemognhaaW.PrintLast Go.Proofs.YtjjnbcaemognhaaW.PrintMore
set_option linter.unusedVariables false
set_option linter.unusedSimpArgs false
def torP (x : SO) : S41 := ⟨x.f0, x.f1, x.f2, x.f3, x.f4, x.f5⟩
theorem rdP (l A R : List SO) (x : SO) (i : Nat) (h : l = A ++ x :: R) (hi : i = A.length) : rd_T41 (l.map torP) (i : Int) = torP x := by
  subst h hi
  simp [rd_T41]
theorem wnP {i : Nat} (h : i < 1000000000) : wrap64 ((i : Int) + 1) = ((i + 1 : Nat) : Int) := by unfold wrap64; omega
def betP (c d : Cand) : Prop := d.2.1 < c.2.1 ∨ (c.2.1 = d.2.1 ∧ (c.2.2.1 < d.2.2.1 ∨ (c.2.2.1 = d.2.2.1 ∧ (c.2.2.2 < d.2.2.2 ∨ (c.2.2.2 = d.2.2.2 ∧ c.1 < d.1)))))
instance (c d : Cand) : Decidable (betP c d) := by unfold betP; infer_instance
theorem cmp64 (a b : Int) : cmp_Compare_int64.f a b = some (if a < b then -1 else if a > b then 1 else 0) := by
  simp only [cmp_Compare_int64.f, cmp_isNaN_int64.f, Option.bind_some, bne_self_eq_false]
  simp only [Bool.false_eq_true, if_false]
  repeat' split
  all_goals rfl
theorem or4 (a b c d : Int) : cmp_Or_int.f 5 [a, b, c, d] = some (if a = 0 then (if b = 0 then (if c = 0 then d else c) else b) else a) := by
  have e : rd [a, b, c, d] 0 = a := rfl
  have e1 : rd [a, b, c, d] 1 = b := rfl
  have e2 : rd [a, b, c, d] 2 = c := rfl
  have e3 : rd [a, b, c, d] 3 = d := rfl
  have w1 : wrap64 (0 + 1) = 1 := by decide +kernel
  have w2 : wrap64 (1 + 1) = 2 := by decide +kernel
  have w3 : wrap64 (2 + 1) = 3 := by decide +kernel
  have w4 : wrap64 (3 + 1) = 4 := by decide +kernel
  simp only [cmp_Or_int.f, cmp_Or_int.l0, List.length_cons, List.length_nil, e, e1, e2, e3, w1, w2, w3, w4]
  by_cases ha : a = 0 <;> by_cases hb : b = 0 <;> by_cases hc : c = 0 <;> by_cases hd : d = 0 <;> simp [ha, hb, hc, hd, e1, e2, e3, w1, w2, w3, w4]
theorem betM_eq (c d : Cand) : betM c d = decide (betP c d) := by
  rw [betM]
  simp only [call_candidate_better.f, cmp64, or4, Option.bind_some, Option.getD_some]
  refine decide_eq_decide.2 ?_
  unfold betP
  repeat' split
  all_goals omega
theorem bet_irr (a : Cand) : ¬ betP a a := by unfold betP; omega
theorem wants_eq (x : SO) (p : Int) : jobberref19_wants.f x.f0 x.f1 x.f2 x.f3 x.f4 x.f5 p = some (cr x p) := by
  unfold jobberref19_wants.f cr
  by_cases h1 : x.f2 = 1
  · by_cases h : x.f3 ≥ p
    · rw [if_pos h1, if_pos h]; refine congrArg some ?_; rw [decide_eq_true]; exact .inl ⟨h1, h⟩
    · rw [if_pos h1, if_neg h, if_neg (by omega)]; refine congrArg some ?_; rw [decide_eq_false]; omega
  · rw [if_neg h1]
    by_cases h2 : x.f2 = 2
    · rw [if_pos h2]; refine congrArg some (decide_eq_decide.2 ?_); omega
    · rw [if_neg h2]; refine congrArg some ?_; rw [decide_eq_false]; omega
theorem all_l0 (l : List SO) (s p : Int) (hn : l.length ≤ 64) (hg : ∀ x ∈ l, gdO x) : ∀ (R A : List SO) (acc : Int) (k : Nat), l = A ++ R → R.length < k → 0 ≤ acc → acc ≤ 1099511627776 * A.length → jobberref19_all.l0 k (l.map torP) s p acc (A.length : Int) = some (acc + sumP s p R)
  | [], A, acc, k, h, hk, h0, h1 => by
    obtain ⟨k, rfl⟩ : ∃ k', k = k' + 1 := ⟨k - 1, by simp at hk; omega⟩
    rw [jobberref19_all.l0, if_neg (by rw [h]; simp), sumP, Int.add_zero]
  | x :: R, A, acc, k, h, hk, h0, h1 => by
    obtain ⟨k, rfl⟩ : ∃ k', k = k' + 1 := ⟨k - 1, by simp at hk; omega⟩
    have hr := rdP l A R x A.length h rfl
    have hlen : l.length = A.length + R.length + 1 := by rw [h]; simp; omega
    have hgx := hg x (by rw [h]; simp)
    unfold gdO at hgx
    have hw : jobberref19_wants.f (torP x).f0 (torP x).f1 (torP x).f2 (torP x).f3 (torP x).f4 (torP x).f5 p = some (cr x p) := wants_eq x p
    have ih := fun acc' (a0 : 0 ≤ acc') (a1 : acc' ≤ 1099511627776 * ((A ++ [x]).length : Int)) => all_l0 l s p hn hg R (A ++ [x]) acc' k (by rw [h]; simp) (by simp at hk; omega) a0 a1
    simp only [List.length_append, List.length_singleton] at ih
    rw [jobberref19_all.l0, if_pos (by simp; omega), if_pos (by omega), hr, hw, wnP (by omega), sumP]
    show (if x.f2 = s then _ else _) = _
    by_cases c : x.f2 = s
    · rw [if_pos c, Option.bind_some]
      by_cases c2 : cr x p = true
      · rw [if_pos c2, if_pos ⟨c, c2⟩, show wrap64 (acc + (torP x).f4) = acc + x.f4 by show wrap64 (acc + x.f4) = _; unfold wrap64; omega, ih _ (by omega) (by omega), Int.add_assoc]
      · rw [if_neg c2, if_neg (fun q => c2 q.2), ih _ h0 (by omega), Int.zero_add]
    · rw [if_neg c, if_neg (fun q => c q.1), ih _ h0 (by omega), Int.zero_add]
theorem all_eq (l : List SO) (s p : Int) (k : Nat) (hn : l.length ≤ 64) (hg : ∀ x ∈ l, gdO x) (hk : l.length < k) : jobberref19_all.f k (l.map torP) s p = some (sumP s p l) := by
  have := all_l0 l s p hn hg l [] 0 k rfl hk (Int.le_refl _) (by simp)
  rw [Int.zero_add] at this
  exact this
theorem rfar_eq (a b : Int) (h : -9223372036854775808 ≤ a - b ∧ a - b ≤ 9223372036854775807) (h2 : -9223372036854775808 ≤ b - a ∧ b - a ≤ 9223372036854775807) : jobberref19_far.f a b = some (farM a b) := by
  unfold jobberref19_far.f farM wrap64
  split
  · refine congrArg some ?_; omega
  · refine congrArg some ?_; omega
theorem rbetter_eq (l : List SO) (last p q : Int) (k : Nat) (hn : l.length ≤ 64) (hg : ∀ x ∈ l, gdO x) (hk : l.length < k) (hla : -9223372036854775808 ≤ last ∧ last ≤ 9223372036854775807) (hp : 1 ≤ p ∧ p ≤ 1099511627776) (hq : 1 ≤ q ∧ q ≤ 1099511627776) :
    jobberref19_better.f k (l.map torP) last p q = some (decide (betP (lookM l p last) (lookM l q last))) := by
  obtain ⟨k, rfl⟩ : ∃ k', k = k' + 1 := ⟨k - 1, by omega⟩
  have a1 := sumP_range 1 p l hg
  have a2 := sumP_range 2 p l hg
  have a3 := sumP_range 1 q l hg
  have a4 := sumP_range 2 q l hg
  rw [jobberref19_better.f]
  simp only [all_eq l _ _ (k + 1) hn hg hk, Option.bind_some]
  rw [rfar_eq _ _ (by omega) (by omega), rfar_eq _ _ (by omega) (by omega)]
  simp only [Option.bind_some]
  unfold betP lookM
  dsimp only
  generalize mn (sumP 1 p l) (sumP 2 p l) = vp
  generalize mn (sumP 1 q l) (sumP 2 q l) = vq
  generalize farM (sumP 1 p l) (sumP 2 p l) = op
  generalize farM (sumP 1 q l) (sumP 2 q l) = oq
  by_cases c1 : vp = vq
  · rw [if_pos c1]
    by_cases c2 : op = oq
    · rw [if_pos c2]
      by_cases c3 : last > 0
      · rw [if_pos c3, rfar_eq _ _ (by omega) (by omega), rfar_eq _ _ (by omega) (by omega)]
        simp only [Option.bind_some, jobberref19_better.j0]
        have c3' : 0 < last := c3
        rw [rfar_eq _ _ (by omega) (by omega), rfar_eq _ _ (by omega) (by omega)]
        simp only [if_pos c3', Option.bind_some]
        generalize farM p last = fp
        generalize farM q last = fq
        by_cases c4 : fp = fq
        · rw [if_neg (by simp [c4])]
          refine congrArg some (decide_eq_decide.2 ?_); omega
        · rw [if_pos (by simp [c4])]
          refine congrArg some (decide_eq_decide.2 ?_); omega
      · have c3' : ¬ 0 < last := c3
        rw [if_neg c3]
        simp only [jobberref19_better.j0, if_neg c3', Bool.false_eq_true, if_false]
        refine congrArg some (decide_eq_decide.2 ?_)
        simp only [true_and]
        omega
    · rw [if_neg c2]
      refine congrArg some (decide_eq_decide.2 ?_); omega
  · rw [if_neg c1]
    refine congrArg some (decide_eq_decide.2 ?_); omega
theorem bet_tr {a b c : Cand} (h1 : betP a b) (h2 : betP b c) : betP a c := by unfold betP at *; omega
def refP (l : List SO) (last : Int) : List SO → Int → Int
  | [], p => p
  | x :: R, p => refP l last R (if betP (lookM l x.f3 last) (lookM l p last) then x.f3 else p)
def finP (l : List SO) (p : Int) : Int × Int := if mn (sumP 1 p l) (sumP 2 p l) = 0 then (0, 0) else (p, mn (sumP 1 p l) (sumP 2 p l))
theorem price_l0 (l : List SO) (last : Int) (hn : l.length ≤ 64) (hg : ∀ x ∈ l, gdO x) (hla : -9223372036854775808 ≤ last ∧ last ≤ 9223372036854775807) : ∀ (R A : List SO) (p : Int) (k : Nat), l = A ++ R → R.length + l.length + 1 < k → 1 ≤ p ∧ p ≤ 1099511627776 → jobberref19_Price.l0 k (l.map torP) last p (A.length : Int) = some (finP l (refP l last R p))
  | [], A, p, k, h, hk, hp => by
    obtain ⟨k, rfl⟩ : ∃ k', k = k' + 1 := ⟨k - 1, by simp at hk; omega⟩
    rw [jobberref19_Price.l0, if_neg (by rw [h]; simp), all_eq l 1 p k hn hg (by simp at hk; omega), Option.bind_some, all_eq l 2 p k hn hg (by simp at hk; omega), Option.bind_some, refP, finP]
    split <;> rfl
  | x :: R, A, p, k, h, hk, hp => by
    obtain ⟨k, rfl⟩ : ∃ k', k = k' + 1 := ⟨k - 1, by simp at hk; omega⟩
    have hr := rdP l A R x A.length h rfl
    have hlen : l.length = A.length + R.length + 1 := by rw [h]; simp; omega
    have hgx := hg x (by rw [h]; simp)
    unfold gdO at hgx
    have hx : 1 ≤ x.f3 ∧ x.f3 ≤ 1099511627776 := ⟨hgx.2.1, hgx.2.2.1⟩
    simp only [List.length_cons] at hk
    have ih := fun p' (hp' : 1 ≤ p' ∧ p' ≤ 1099511627776) => price_l0 l last hn hg hla R (A ++ [x]) p' k (by rw [h]; simp) (by omega) hp'
    simp only [List.length_append, List.length_singleton] at ih
    rw [jobberref19_Price.l0, if_pos (by simp; omega), if_pos (by omega), hr]
    show ((jobberref19_better.f k (l.map torP) last x.f3 p).bind _) = _
    rw [rbetter_eq l last x.f3 p k hn hg (by omega) hla hx hp, Option.bind_some, wnP (by omega), refP]
    by_cases c : betP (lookM l x.f3 last) (lookM l p last)
    · rw [if_pos (decide_eq_true c), if_pos c]; exact ih _ hx
    · rw [if_neg (by simp [c]), if_neg c]; exact ih _ hp
theorem best_ref (l : List SO) (last : Int) : ∀ (R : List SO) (S : List Int) (p : Int), 1 ≤ p → (∀ x ∈ R, 1 ≤ x.f3) → (∀ s ∈ S, ¬ betP (lookM l s last) (lookM l p last)) → bestM l last R S (lookM l p last) = lookM l (refP l last R p) last
  | [], S, p, _, _, _ => rfl
  | x :: R, S, p, hp, hR, hS => by
    have hx := hR x (List.mem_cons_self ..)
    have hR' := fun y hy => hR y (List.mem_cons_of_mem _ hy)
    rw [bestM, refP]
    by_cases c : S.contains x.f3 = true
    · have hc := hS x.f3 (by simpa using c)
      rw [if_pos c, if_neg hc]
      exact best_ref l last R S p hp hR' hS
    · rw [if_neg c]
      have hz : ¬ lookM l p last = (0, 0, 0, 0) := fun e => by
        have : (lookM l p last).1 = 0 := by rw [e]
        have h2 : (lookM l p last).1 = p := rfl
        omega
      have ht : takeC (lookM l x.f3 last) (lookM l p last) = if betP (lookM l x.f3 last) (lookM l p last) then lookM l x.f3 last else lookM l p last := by
        rw [takeC, betM_eq]
        by_cases b : betP (lookM l x.f3 last) (lookM l p last)
        · rw [if_pos (.inr (decide_eq_true b)), if_pos b]
        · rw [if_neg (fun q => q.elim hz (fun q => b (of_decide_eq_true q))), if_neg b]
      rw [ht]
      by_cases b : betP (lookM l x.f3 last) (lookM l p last)
      · rw [if_pos b, if_pos b]
        refine best_ref l last R (x.f3 :: S) x.f3 hx hR' fun s hs => ?_
        rcases List.mem_cons.1 hs with q | q
        · rw [q]; exact bet_irr _
        · exact fun h => hS s q (bet_tr h b)
      · rw [if_neg b, if_neg b]
        refine best_ref l last R (x.f3 :: S) p hp hR' fun s hs => ?_
        rcases List.mem_cons.1 hs with q | q
        · rw [q]; exact b
        · exact hS s q
theorem price_eq (l : List SO) (last : Int) (k : Nat) (hn : l.length ≤ 64) (hg : ∀ x ∈ l, gdO x) (hla : -9223372036854775808 ≤ last ∧ last ≤ 9223372036854775807) (hk : 2 * l.length + 3 < k) (hb : jobberref12_Book.f k (l.map torP) = some true) :
    jobberref19_Price.f k (l.map torP) last = some (priceM l last) := by
  obtain ⟨k, rfl⟩ : ∃ k', k = k' + 1 := ⟨k - 1, by omega⟩
  rw [jobberref19_Price.f, hb, Option.bind_some, if_pos rfl, jobberref19_Price.j0]
  cases l with
  | nil =>
    rw [if_pos (by simp)]
    rfl
  | cons x R =>
    have hgx := hg x (List.mem_cons_self ..)
    unfold gdO at hgx
    have hr := rdP (x :: R) [] R x 0 rfl rfl
    rw [if_neg (by simp; omega), if_pos (by simp)]
    have := price_l0 (x :: R) last hn hg hla R [x] x.f3 k rfl (by simp only [List.length_cons] at *; omega) ⟨hgx.2.1, hgx.2.2.1⟩
    have h0 : rd_T41 ((x :: R).map torP) 0 = torP x := hr
    rw [h0]
    refine this.trans ?_
    have hb1 : bestM (x :: R) last (x :: R) [] (0, 0, 0, 0) = lookM (x :: R) (refP (x :: R) last R x.f3) last := by
      have e : bestM (x :: R) last (x :: R) [] (0, 0, 0, 0) = bestM (x :: R) last R [x.f3] (lookM (x :: R) x.f3 last) := by
        show (if ([] : List Int).contains x.f3 = true then _ else bestM (x :: R) last R (x.f3 :: []) (takeC _ (0, 0, 0, 0))) = _
        rw [if_neg (by simp), takeC, if_pos (.inl rfl)]
      rw [e]
      refine best_ref (x :: R) last R [x.f3] x.f3 hgx.2.1 (fun y hy => (hg y (List.mem_cons_of_mem _ hy)).2.1) fun s hs => ?_
      rw [List.mem_singleton.1 hs]; exact bet_irr _
    rw [priceM, hb1, finP]
    rfl
end Go.Proofs.Ytjjnbcaemognhaa.Cap.M
