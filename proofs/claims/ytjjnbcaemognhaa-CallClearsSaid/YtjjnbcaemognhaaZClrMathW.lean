/- The law's own rounds; no condition. -/
import Derived.Test.YtjjnbcaemognhaaZClrMathV
import Derived.Test.YtjjnbcaemognhaaZClrx13
namespace Go.Proofs.Ytjjnbcaemognhaa.Clr.M
open Go.RowKit Go.Proofs.Ytjjnbcaemognhaa.Clr Go.Proofs.YtjjnbcaemognhaaW.PrintWords Go.Proofs.YtjjnbcaemognhaaW.PrintLast Go.Proofs.YtjjnbcaemognhaaW.PrintMore
set_option linter.unusedVariables false
set_option linter.unusedSimpArgs false
def L4 : List S42 := [⟨1, 0, 1, 12, 5, 1⟩, ⟨2, 0, 1, 10, 5, 2⟩, ⟨3, 0, 2, 9, 4, 3⟩, ⟨4, 0, 2, 11, 4, 4⟩]
theorem bk_L4 : order_Book.f L4 = some true := by
  have hs : sortL L4 = L4 := sortL_eq (l := L4) (s := L4) (by unfold So; decide +kernel) (SF.refl _)
  rw [order_book L4 (by decide +kernel), bk, if_neg (by decide), hs]
  decide +kernel
theorem price_L4 : call_Price.f L4 0 = some (11, 5) := by
  rw [call_Price.f, if_pos (by decide), bk_L4]
  show some (priceM L4 0) = _
  kernel_rfl
theorem side_L4 (s : Int) (r : List Int) (h : sideGo 60 L4 s 11 1 1 5 0 5 [0, 0, 0, 0] = some r) : call_Side.f 60 L4 s 11 5 1 1 = some r := by
  rw [call_Side.f, bk_L4, Option.bind_some, if_pos (by decide)]
  exact h
theorem deals_L4 : call_Deals.f 60 L4 11 5 1 1 = some [⟨⟨1, 0, 1, 12, 5, 1⟩, ⟨3, 0, 2, 9, 4, 3⟩, 4⟩, ⟨⟨1, 0, 1, 12, 5, 1⟩, ⟨4, 0, 2, 11, 4, 4⟩, 1⟩] := by
  rw [call_Deals.f, side_L4 1 [5, 0, 0, 0] (by kernel_rfl), Option.bind_some, side_L4 2 [0, 0, 4, 1] (by kernel_rfl), Option.bind_some]
  kernel_rfl
theorem lives_60 : jobberlaw19_lives.f 60 = some true := by
  rw [jobberlaw19_lives.f, Option.bind_some]
  show (call_Price.f L4 0).bind _ = _
  rw [price_L4, Option.bind_some]
  show (call_Deals.f 60 L4 11 5 1 1).bind _ = _
  rw [deals_L4, Option.bind_some]
  kernel_rfl
theorem lives_eq {k : Nat} (h : 60 ≤ k) : jobberlaw19_lives.f k = some true := by
  induction h with
  | refl => exact lives_60
  | step h ih => exact jobberlaw19_lives.mono _ _ ih
theorem lv19 {k : Nat} (h : 60 ≤ k) : ((jobberlaw19_lives.f k).bind fun t => (some t)) = some true := by rw [lives_eq h]; rfl
def tko (o : SO) : List S44 → Int
  | [] => 0
  | x :: D => (if x.f0 = o ∨ x.f1 = o then x.f2 else 0) + tko o D
theorem tko_eq (o : SO) : ∀ D : List S44, (∀ x ∈ D, x.f0.f2 = 1 ∧ x.f1.f2 = 2) → tko o D = tk0 o D + tk1 o D
  | [], _ => rfl
  | x :: D, h => by
    have ih := tko_eq o D fun y hy => h y (List.mem_cons_of_mem _ hy)
    have hx := h x (List.mem_cons_self ..)
    rw [tko, tk0, tk1, ih]
    by_cases a : x.f0 = o
    · have b : ¬ x.f1 = o := fun b => by have : x.f0.f2 = x.f1.f2 := by rw [a, b]
                                         omega
      rw [if_pos (.inl a), if_pos a, if_neg b]; omega
    · by_cases b : x.f1 = o
      · rw [if_pos (.inr b), if_neg a, if_pos b]; omega
      · rw [if_neg (fun q => q.elim a b), if_neg a, if_neg b]; omega
theorem rdD (A R : List S44) (x : S44) : rd_T44 (A ++ x :: R) (A.length : Int) = x := by simp [rd_T44]
theorem l1_go (l : List SO) (p n : Int) (D : List S44) (hd : D.length ≤ 1000) (h : ∀ x ∈ D, (1 ≤ x.f2) ∧ p ≤ x.f0.f3 ∧ x.f1.f3 ≤ p ∧ x.f0.f2 = 1 ∧ x.f1.f2 = 2) (k : Nat) : ∀ (R A : List S44) (acc : Int), D = A ++ R → 0 ≤ acc → acc + sq R ≤ 4611686018427387904 →
    jobberlaw19_CallClears.l1 (k + R.length + 1) l p n D acc D (D.length : Int) (A.length : Int) = jobberlaw19_CallClears.l2 k n D (acc + sq R) 0 1099511627777 l (l.length : Int) 0
  | [], A, acc, e, a0, a1 => by
    rw [List.append_nil] at e
    rw [jobberlaw19_CallClears.l1, if_neg (by rw [e]; omega), sq, Int.add_zero]
    rfl
  | x :: R, A, acc, e, a0, a1 => by
    have hx := h x (by rw [e]; simp)
    have er : rd_T44 D (A.length : Int) = x := by rw [e]; exact rdD A R x
    have hl : D.length = A.length + R.length + 1 := by rw [e]; simp; omega
    have hs : 0 ≤ sq R := by
      have : ∀ R : List S44, (∀ y ∈ R, 1 ≤ y.f2) → 0 ≤ sq R := by
        intro R
        induction R with
        | nil => intro _; exact Int.le_refl _
        | cons y R ih => intro q; rw [sq]; have := q y (List.mem_cons_self ..); have := ih fun z hz => q z (List.mem_cons_of_mem _ hz); omega
      exact this R fun y hy => (h y (by rw [e]; simp [hy])).1
    rw [sq] at a1 ⊢
    have ih := l1_go l p n D hd h k R (A ++ [x]) (acc + x.f2) (by rw [e]; simp) (by omega) (by omega)
    rw [List.length_append, List.length_singleton] at ih
    rw [List.length_cons, show k + (R.length + 1) + 1 = (k + R.length + 1) + 1 by omega, jobberlaw19_CallClears.l1, if_pos (by omega), if_pos (by omega), if_pos (by omega), er, if_neg (by omega), if_neg (by omega), if_neg (by omega), if_pos hx.2.2.2.1, if_pos hx.2.2.2.2, wid (x := acc + x.f2) (by omega) (by omega), wid (x := (A.length : Int) + 1) (by omega) (by omega),
      show ((A.length : Int) + 1) = ((A.length + 1 : Nat) : Int) by omega, ih, Int.add_assoc]
theorem eqO (x o : SO) : ((x.f0 == o.f0) && ((x.f1 == o.f1) && ((x.f2 == o.f2) && ((x.f3 == o.f3) && ((x.f4 == o.f4) && (x.f5 == o.f5)))))) = decide (x = o) := by
  rw [Bool.eq_iff_iff]
  simp only [Bool.and_eq_true, beq_iff_eq, decide_eq_true_eq]
  constructor
  · rintro ⟨a, b, c, d, e, f⟩; cases x; cases o; simp_all
  · rintro rfl; exact ⟨rfl, rfl, rfl, rfl, rfl, rfl⟩
theorem l3_go (n : Int) (D : List S44) (al bid ask : Int) (l : List SO) (m i : Int) (o : SO) (hd : D.length ≤ 1000) (h : ∀ x ∈ D, 1 ≤ x.f2) (k : Nat) : ∀ (R A : List S44) (left : Int), D = A ++ R → left ≤ 1099511627776 → 0 ≤ left - tko o R →
    jobberlaw19_CallClears.l3 (k + R.length + 2) n D al bid ask left l m i D (D.length : Int) (A.length : Int) o.f0 o.f1 o.f2 o.f3 o.f4 o.f5 =
      jobberlaw19_CallClears.l2 k n D al (if 0 < left - tko o R ∧ o.f2 = 1 then mx bid o.f3 else bid) (if 0 < left - tko o R ∧ o.f2 = 2 then mn ask o.f3 else ask) l m (wrap64 (i + 1))
  | [], A, left, e, a0, a1 => by
    rw [List.append_nil] at e
    rw [tko, Int.sub_zero] at a1 ⊢
    rw [List.length_nil, jobberlaw19_CallClears.l3, if_neg (by rw [e]; omega), if_neg (by omega)]
    by_cases c : left > 0
    · rw [if_pos c, jobberlaw19_CallClears.j5]
      by_cases c1 : o.f2 = 1
      · have c2 : ¬ o.f2 = 2 := by omega
        have e1 : (if 0 < left ∧ o.f2 = 1 then mx bid o.f3 else bid) = mx bid o.f3 := if_pos ⟨c, c1⟩
        have e2 : (if 0 < left ∧ o.f2 = 2 then mn ask o.f3 else ask) = ask := if_neg fun q => c2 q.2
        rw [e1, e2, if_pos (show (o.f2 == 1) = true by rw [c1]; rfl), if_pos c, if_neg c2]
        try rfl
      · have e1 : (if 0 < left ∧ o.f2 = 1 then mx bid o.f3 else bid) = bid := if_neg fun q => c1 q.2
        rw [e1, if_neg (show ¬ (o.f2 == 1) = true by simp [c1]), if_pos c]
        by_cases c2 : o.f2 = 2
        · have e2 : (if 0 < left ∧ o.f2 = 2 then mn ask o.f3 else ask) = mn ask o.f3 := if_pos ⟨c, c2⟩
          rw [e2, if_pos c2]
          try rfl
        · have e2 : (if 0 < left ∧ o.f2 = 2 then mn ask o.f3 else ask) = ask := if_neg fun q => c2 q.2
          rw [e2, if_neg c2]
          try rfl
    · have e1 : (if 0 < left ∧ o.f2 = 1 then mx bid o.f3 else bid) = bid := if_neg fun q => c q.1
      have e2 : (if 0 < left ∧ o.f2 = 2 then mn ask o.f3 else ask) = ask := if_neg fun q => c q.1
      rw [e1, e2, if_neg c, jobberlaw19_CallClears.j5, if_neg (by decide), if_neg c]
      try rfl
  | x :: R, A, left, e, a0, a1 => by
    have hx := h x (by rw [e]; simp)
    have er : rd_T44 D (A.length : Int) = x := by rw [e]; exact rdD A R x
    have hl : D.length = A.length + R.length + 1 := by rw [e]; simp; omega
    have hs : 0 ≤ tko o R := by
      have : ∀ R : List S44, (∀ y ∈ R, 1 ≤ y.f2) → 0 ≤ tko o R := by
        intro R
        induction R with
        | nil => intro _; exact Int.le_refl _
        | cons y R ih => intro q; rw [tko]; have := q y (List.mem_cons_self ..); have := ih fun z hz => q z (List.mem_cons_of_mem _ hz); split <;> omega
      exact this R fun y hy => h y (by rw [e]; simp [hy])
    rw [tko] at a1 ⊢
    have ih := fun left' => l3_go n D al bid ask l m i o hd h k R (A ++ [x]) left' (by rw [e]; simp)
    rw [List.length_append, List.length_singleton] at ih
    rw [List.length_cons, show k + (R.length + 1) + 2 = (k + R.length + 2) + 1 by omega, jobberlaw19_CallClears.l3, if_pos (by omega), if_pos (by omega), if_pos (by omega), er, eqO x.f0 o, eqO x.f1 o, wid (x := (A.length : Int) + 1) (by omega) (by omega), show ((A.length : Int) + 1) = ((A.length + 1 : Nat) : Int) by omega]
    by_cases c : x.f0 = o
    · have e3 : (if x.f0 = o ∨ x.f1 = o then x.f2 else 0) = x.f2 := if_pos (.inl c)
      rw [e3] at a1 ⊢
      rw [if_pos (decide_eq_true c), wid (x := left - x.f2) (by omega) (by omega), ih _ (by omega) (by omega), Int.sub_sub]
    · rw [if_neg (by simp [c])]
      by_cases c2 : x.f1 = o
      · have e3 : (if x.f0 = o ∨ x.f1 = o then x.f2 else 0) = x.f2 := if_pos (.inr c2)
        rw [e3] at a1 ⊢
        rw [if_pos (decide_eq_true c2), wid (x := left - x.f2) (by omega) (by omega), ih _ (by omega) (by omega), Int.sub_sub]
      · have e3 : (if x.f0 = o ∨ x.f1 = o then x.f2 else 0) = 0 := if_neg fun q => q.elim c c2
        rw [e3, Int.zero_add] at a1 ⊢
        rw [if_neg (by simp [c2]), ih _ a0 a1]
def Bid (l : List SO) (b : List Int) (v : Int) : Prop := v = 0 ∨ ∃ i : Int, 0 ≤ i ∧ i < l.length ∧ (rd_T42 l i).f2 = 1 ∧ rd b i < qt l i ∧ v = (rd_T42 l i).f3
def Ask (l : List SO) (c : List Int) (v : Int) : Prop := v = 1099511627777 ∨ ∃ i : Int, 0 ≤ i ∧ i < l.length ∧ (rd_T42 l i).f2 = 2 ∧ rd c i < qt l i ∧ v = (rd_T42 l i).f3
theorem l2_go {l : List SO} {lot p n : Int} {b c : List Int} {D : List S44} (N : Nrm l lot) (hmax : ∀ x ∈ l, vl l x.f3 ≤ n) (B : SideOk l 1 p n b) (C : SideOk l 2 p n c) (hD : DealOk l b c D) (hd : D.length ≤ 1000) :
    ∀ (R A : List SO) (bid ask : Int) (k : Nat), l = A ++ R → R.length * (D.length + 3) + 62 ≤ k → Bid l b bid → Ask l c ask → jobberlaw19_CallClears.l2 k n D n bid ask l (l.length : Int) (A.length : Int) = some true
  | [], A, bid, ask, k, e, hk, hb, ha => by
    obtain ⟨k, rfl⟩ : ∃ k', k = k' + 1 := ⟨k - 1, by omega⟩
    rw [List.append_nil] at e
    have hlt : bid < ask := by
      have hq : ∀ i : Int, 0 ≤ i → i < l.length → 1 ≤ (rd_T42 l i).f3 ∧ (rd_T42 l i).f3 ≤ 1099511627776 := by
        intro j a b
        have := (N.at a b).1
        unfold gdO at this
        exact ⟨this.2.1, this.2.2.1⟩
      rcases hb with hb | ⟨i, i0, i1, i2, i3, i4⟩
      · rcases ha with ha | ⟨j, j0, j1, j2, j3, j4⟩
        · omega
        · have := hq j j0 j1; omega
      · rcases ha with ha | ⟨j, j0, j1, j2, j3, j4⟩
        · have := hq i i0 i1; omega
        · rw [i4, j4]; exact clears N hmax B C i0 i1 j0 j1 i2 j2 i3 j3
    rw [jobberlaw19_CallClears.l2, if_neg (by rw [e]; omega), if_pos rfl, if_pos hlt, lv19 (by omega)]
  | x :: R, A, bid, ask, k, e, hk, hb, ha => by
    rw [List.length_cons, Nat.add_mul] at hk
    obtain ⟨k, rfl⟩ : ∃ k', k = (k' + D.length + 2) + 1 := ⟨k - (D.length + 3), by omega⟩
    have hl : l.length = A.length + R.length + 1 := by rw [e]; simp; omega
    have hn := N.n
    have er : rd_T42 l (A.length : Int) = x := by rw [e]; simp [rd_T42]
    have hg := (N.at (j := (A.length : Int)) (by omega) (by omega)).1
    have hgq : qt l (A.length : Int) = x.f4 := by unfold qt; rw [er]
    rw [er] at hg
    unfold gdO at hg
    have hsd : ∀ y ∈ D, y.f0.f2 = 1 ∧ y.f1.f2 = 2 := by
      intro y hy
      obtain ⟨i, j, hi, hj, e1, e2, e3, e4, e5⟩ := hD.mem y hy
      rw [e1, e2]
      exact ⟨(B.cs i hi.1 hi.2 e4).1, (C.cs j hj.1 hj.2 e5).1⟩
    have ht : tko x D = rd b A.length + rd c A.length := by
      have h1 := hD.buy A.length (by omega) (by omega)
      have h2 := hD.sell A.length (by omega) (by omega)
      rw [er] at h1 h2
      rw [tko_eq x D hsd, h1, h2]
    have bb := B.bd A.length (by omega) (by omega)
    have cc := C.bd A.length (by omega) (by omega)
    rw [hgq] at bb cc
    have bz : x.f2 = 2 → rd b A.length = 0 := fun q => by
      refine Classical.byContradiction fun z => ?_
      have := (B.cs A.length (by omega) (by omega) (by omega)).1
      rw [er] at this; omega
    have cz : x.f2 = 1 → rd c A.length = 0 := fun q => by
      refine Classical.byContradiction fun z => ?_
      have := (C.cs A.length (by omega) (by omega) (by omega)).1
      rw [er] at this; omega
    have hleft : 0 ≤ x.f4 - tko x D := by
      rw [ht]
      rcases hg.1 with q | q
      · have := cz q; omega
      · have := bz q; omega
    rw [jobberlaw19_CallClears.l2, if_pos (by omega), if_pos (by omega), if_pos (by omega), er]
    have h3 := l3_go n D n bid ask l (l.length : Int) (A.length : Int) x hd (fun y hy => by obtain ⟨_, _, _, _, _, _, e3, _⟩ := hD.mem y hy; exact e3) k D [] x.f4 rfl (by omega) hleft
    rw [show (([] : List S44).length : Int) = 0 from rfl] at h3
    rw [h3, wid (x := (A.length : Int) + 1) (by omega) (by omega), show ((A.length : Int) + 1) = ((A ++ [x]).length : Int) by simp]
    refine l2_go N hmax B C hD hd R (A ++ [x]) _ _ k (by rw [e]; simp) (by omega) ?_ ?_
    · split
      · rename_i q
        unfold mx
        split
        · first
          | exact hb
          | exact .inr ⟨A.length, by omega, by omega, by rw [er]; exact q.2, by rw [hgq]; have := cz q.2; omega, by rw [er]⟩
        · first
          | exact hb
          | exact .inr ⟨A.length, by omega, by omega, by rw [er]; exact q.2, by rw [hgq]; have := cz q.2; omega, by rw [er]⟩
      · exact hb
    · split
      · rename_i q
        unfold mn
        split
        · first
          | exact ha
          | exact .inr ⟨A.length, by omega, by omega, by rw [er]; exact q.2, by rw [hgq]; have := bz q.2; omega, by rw [er]⟩
        · first
          | exact ha
          | exact .inr ⟨A.length, by omega, by omega, by rw [er]; exact q.2, by rw [hgq]; have := bz q.2; omega, by rw [er]⟩
      · exact ha
theorem bookL_uniq : ∀ (l : List SO) (S : List Int), bookL l S = true → (∀ x ∈ l, ¬ x.f0 ∈ S) ∧ l.Pairwise fun x y => x.f0 ≠ y.f0
  | [], S, _ => ⟨fun x hx => (nomatch hx), .nil⟩
  | x :: l, S, h => by
    rw [bookL, Bool.and_eq_true, Bool.and_eq_true] at h
    obtain ⟨h1, h2⟩ := bookL_uniq l _ h.2
    have hx : ¬ x.f0 ∈ S := by have := h.1.2; simpa using this
    refine ⟨fun y hy => ?_, .cons (fun y hy e => ?_) h2⟩
    · rcases List.mem_cons.1 hy with rfl | hy
      · exact hx
      · exact fun q => h1 y hy (List.mem_cons_of_mem _ q)
    · exact h1 y hy (by rw [← e]; exact List.mem_cons_self ..)
theorem bk_uniq {l : List SO} (h : bookL l [] = true) : Uniq l := by
  have hp := (bookL_uniq l [] h).2
  have key : ∀ i j : Nat, i < j → j < l.length → rd_T42 l (i : Int) = rd_T42 l (j : Int) → False := by
    intro i j a b e
    have := List.pairwise_iff_getElem.1 hp i j (by omega) b a
    rw [rdO (show i < l.length by omega), rdO b] at e
    exact this (by rw [e])
  intro i j a b a' b' e
  obtain ⟨i, rfl⟩ := Int.eq_ofNat_of_zero_le a
  obtain ⟨j, rfl⟩ := Int.eq_ofNat_of_zero_le a'
  refine Classical.byContradiction fun hne => ?_
  have : i < j ∨ j < i := by
    have : i ≠ j := fun q => hne (by rw [q])
    omega
  rcases this with q | q
  · exact key i j q (by have := b'; simp at this; omega) e
  · exact key j i q (by have := b; simp at this; omega) e.symm
theorem l0_go (l : List SO) (last mode lot : Int) (hn : l.length ≤ 64) (hl : 1 ≤ lot) (k : Nat) (hk : 60 ≤ k) : ∀ (R A : List SO), l = A ++ R →
    (jobberlaw19_CallClears.l0 (k + R.length + 1) l last mode lot l (l.length : Int) (A.length : Int) = some true) ∨ ((∀ x ∈ R, x.f4 % lot = 0) ∧
    jobberlaw19_CallClears.l0 (k + R.length + 1) l last mode lot l (l.length : Int) (A.length : Int) = jobberlaw19_CallClears.l0 (k + 1) l last mode lot l (l.length : Int) (l.length : Int))
  | [], A, e => by
    rw [List.append_nil] at e
    exact .inr ⟨fun x hx => (nomatch hx), by rw [e]; rfl⟩
  | x :: R, A, e => by
    have er : rd_T42 l (A.length : Int) = x := by rw [e]; simp [rd_T42]
    have hll : l.length = A.length + R.length + 1 := by rw [e]; simp; omega
    have ih := l0_go l last mode lot hn hl k hk R (A ++ [x]) (by rw [e]; simp)
    rw [List.length_append, List.length_singleton] at ih
    rw [List.length_cons, show k + (R.length + 1) + 1 = (k + R.length + 1) + 1 by omega, jobberlaw19_CallClears.l0, if_pos (by omega), if_pos (by omega), if_pos (by omega), if_neg (by omega), er, wid (x := (A.length : Int) + 1) (by omega) (by omega), show ((A.length : Int) + 1) = ((A.length + 1 : Nat) : Int) by omega]
    by_cases c : Int.tmod x.f4 lot = 0
    · rw [if_pos c]
      rcases ih with ih | ⟨ih, ih'⟩
      · exact .inl ih
      · refine .inr ⟨fun y hy => ?_, ih'⟩
        rcases List.mem_cons.1 hy with rfl | hy
        · exact Int.emod_eq_zero_of_dvd (Int.dvd_of_tmod_eq_zero c)
        · exact ih y hy
    · rw [if_neg c]
      exact .inl (lv19 (by omega))
theorem deals_nil (l : List SO) (k : Nat) (hk : 2 ≤ k) (p v mode lot : Int) (b : Bool) (hb : order_Book.f l = some b) (hv : b = false ∨ v < 1) : call_Deals.f k l p v mode lot = some [] := by
  obtain ⟨k, rfl⟩ : ∃ k', k = k' + 2 := ⟨k - 2, by omega⟩
  have hs : ∀ s, call_Side.f (k + 2) l s p v mode lot = some [] := by
    intro s
    rw [call_Side.f, hb, Option.bind_some, if_neg]
    rintro ⟨h1, h2, _⟩
    rcases hv with q | q
    · rw [q] at h1; exact absurd h1 (by decide)
    · omega
  rw [call_Deals.f, hs, Option.bind_some, hs, Option.bind_some, call_Deals.l0, if_neg (by simp), call_Deals.j1, if_neg (by decide)]
theorem clears_f (l : List SO) (last mode lot : Int) (hid : idsIn l = true) (hla : -9223372036854775808 ≤ last ∧ last ≤ 9223372036854775807) : jobberlaw19_CallClears.f 100000 l last mode lot = some true := by
  have hlv : jobberlaw19_CallClears.j0 100000 l last mode lot true = some true := by rw [jobberlaw19_CallClears.j0, if_pos rfl, lv19 (by omega)]
  rw [jobberlaw19_CallClears.f]
  by_cases c1 : (l.length : Int) > 64
  · rw [if_pos c1, hlv]
  rw [if_neg c1]
  by_cases c2 : lot < 1
  · rw [if_pos c2, hlv]
  rw [if_neg c2]
  by_cases c3 : lot > 1099511627776
  · rw [if_pos c3, hlv]
  rw [if_neg c3]
  have main : mode = 1 ∨ mode = 2 → jobberlaw19_CallClears.j0 100000 l last mode lot false = some true := by
    intro hmo
    rw [jobberlaw19_CallClears.j0, if_neg (by decide)]
    have hn : l.length ≤ 64 := by omega
    have hl0 := l0_go l last mode lot hn (by omega) (99998 - l.length) (by omega) l [] rfl
    rw [show 99998 - l.length + l.length + 1 = 99999 by omega] at hl0
    rcases hl0 with h | ⟨hlt, h⟩
    · exact h
    · refine h.trans ?_
      obtain ⟨k, hk⟩ : ∃ k, 99998 - l.length = k := ⟨_, rfl⟩
      have hk2 : 99900 ≤ k := by omega
      rw [hk, jobberlaw19_CallClears.l0, if_neg (by omega), call_Price.f, if_pos hla, order_book l hid]
      simp only [Option.map_some, Option.bind_some]
      cases hbk : bk l with
      | false =>
        rw [deals_nil l k (by omega) _ _ mode lot false (by rw [order_book l hid, hbk]) (.inl rfl)]
        simp only [Option.bind_some]
        rw [if_pos (by rfl), if_pos (by rfl), if_pos (by rfl), lv19 (by omega)]
      | true =>
        have hob := order_book l hid
        rw [hbk] at hob
        have hg := (book_good hob).2
        have hbl : l = sortL l ∧ bookL l [] = true := by
          rw [bk, if_neg (by omega), Bool.and_eq_true] at hbk
          exact ⟨of_decide_eq_true hbk.1, hbk.2⟩
        have hso : Srtd l := so_srtd (by rw [hbl.1]; exact (sortL_spec l).1)
        have U := bk_uniq hbl.2
        have N : Nrm l lot := ⟨hn, hg, hso, by omega, by omega, hlt⟩
        obtain ⟨p, n, hp, hpn⟩ := price_max hg last
        simp only [if_true, hp]
        rcases hpn with ⟨hn0, hp0⟩ | ⟨hn1, hnv, hmax⟩
        · rw [deals_nil l k (by omega) p n mode lot true hob (.inr (by omega)), Option.bind_some, if_pos hn0, if_pos hp0, if_pos (by rfl), lv19 (by omega)]
        · have hm := mn_le (sumP 1 p l) (sumP 2 p l)
          have r1 := sumP_range 1 p l hg
          have m1 := sumP_mod 1 p lot l hlt
          have m2 := sumP_mod 2 p lot l hlt
          have hnv' : n = mn (sumP 1 p l) (sumP 2 p l) := hnv
          have hnm : n % lot = 0 := by
            rcases hm.2.2 with q | q
            · rw [hnv', q]; exact m1
            · rw [hnv', q]; exact m2
          obtain ⟨b, hb, B⟩ := side_ok N (side := 1) (price := p) (.inl rfl) hn1 (by omega) hmo hnm (by omega) hob
          obtain ⟨c, hc, C⟩ := side_ok N (side := 2) (price := p) (.inr rfl) hn1 (by omega) hmo hnm (by omega) hob
          have hq : ∀ j : Int, 0 ≤ j → j < l.length → qt l j ≤ 1099511627776 := by
            intro j a b
            have := (N.at a b).1
            unfold gdO at this
            exact this.2.2.2.2
          have Lb : Lo l 0 b := ⟨B.len, fun x a a' => ⟨(B.bd x a a').1, Int.le_trans (B.bd x a a').2 (hq x a a')⟩, fun x a a' => by omega⟩
          have Lc : Lo l 0 c := ⟨C.len, fun x a a' => ⟨(C.bd x a a').1, Int.le_trans (C.bd x a a').2 (hq x a a')⟩, fun x a a' => by omega⟩
          obtain ⟨D, hD, ok, hdl⟩ := deals_go U hn (2 * l.length) 0 0 b c [] (by omega) (by omega) (by omega) (by omega) (by omega) (by simp; omega) Lb Lc (by rw [B.sum, C.sum])
          have hde : call_Deals.f k l p n mode lot = some D := by
            rw [call_Deals.f, hb k (by omega), Option.bind_some, hc k (by omega), Option.bind_some, hD k (by omega)]
            rfl
          have hsd : ∀ y ∈ D, 1 ≤ y.f2 ∧ p ≤ y.f0.f3 ∧ y.f1.f3 ≤ p ∧ y.f0.f2 = 1 ∧ y.f1.f2 = 2 := by
            intro y hy
            obtain ⟨i, j, hi, hj, e1, e2, e3, e4, e5⟩ := ok.mem y hy
            rw [e1, e2]
            have w1 := B.cs i hi.1 hi.2 e4
            have w2 := C.cs j hj.1 hj.2 e5
            have c1 := w1.2
            have c2 := w2.2
            have d1 := w1.1
            have d2 := w2.1
            unfold cr at c1 c2
            rw [decide_eq_true_eq] at c1 c2
            exact ⟨e3, by omega, by omega, d1, d2⟩
          have hsq : sq D = n := by rw [ok.all, B.sum]
          rw [hde, Option.bind_some, if_neg (by omega)]
          have h1 := l1_go l p n D (by omega) hsd (k - D.length - 1) D [] 0 rfl (by omega) (by omega)
          rw [show k - D.length - 1 + D.length + 1 = k by omega] at h1
          refine h1.trans ?_
          rw [Int.zero_add, hsq]
          have hmul : l.length * (D.length + 3) ≤ 64 * 131 := Nat.mul_le_mul hn (by omega)
          exact l2_go N hmax B C ok (by omega) l [] 0 1099511627777 _ rfl (by omega) (.inl rfl) (.inl rfl)
  by_cases c4 : mode = 1
  · rw [if_pos c4, main (.inl c4)]
  · rw [if_neg c4]
    by_cases c5 : mode = 2
    · rw [show (mode != 2) = false by simp [c5], main (.inr c5)]
    · rw [show (mode != 2) = true by simp [c5], hlv]
end Go.Proofs.Ytjjnbcaemognhaa.Clr.M
