/- The document's Sorted and Book, told in the program's words. -/
import Derived.Test.YtjjnbcaemognhaaZCapMathD
import Derived.Test.YtjjnbcaemognhaaZCapOpens
namespace Go.Proofs.Ytjjnbcaemognhaa.Cap.M
open Go.RowKit Go.Proofs.Ytjjnbcaemognhaa.Cap Go.Proofs.YtjjnbcaemognhaaW.PrintWords Go.Proofs.YtjjnbcaemognhaaW.PrintLast
open Go.Sort
set_option linter.unusedVariables false
set_option linter.unusedSimpArgs false
theorem nd_mono {a b : Nat} (h : a ≤ b) : nd a ≤ nd b := by
  induction h with
  | refl => exact Nat.le_refl _
  | step _ ih => exact Nat.le_trans ih (by simp only [nd]; omega)
theorem cls_rk (x : SO) : (cls x = 1 ∧ rk x = 1 ∧ x.f2 = 1) ∨ (cls x = 2 ∧ rk x = 2 ∧ x.f2 = 2) ∨ (cls x = 0 ∧ rk x = 3) := by
  unfold cls rk
  by_cases h1 : x.f2 = 1
  · exact .inl ⟨by rw [if_neg (by omega)]; exact h1, if_pos h1, h1⟩
  · by_cases h2 : x.f2 = 2
    · exact .inr (.inl ⟨by rw [if_neg (by omega)]; exact h2, by rw [if_neg h1, if_pos h2], h2⟩)
    · exact .inr (.inr ⟨if_pos (by omega), by rw [if_neg h1, if_neg h2]⟩)
theorem ltO_rk {x y : SO} (h : rk x < rk y) : ltO y x = false := by
  refine decide_eq_false ?_
  unfold lexP; omega
theorem ev_rk {z x : SO} (h : ev ltO z x = true) : rk x = rk z := by
  have := ev_iff.1 h
  simp only [ltO, decide_eq_false_iff_not] at this
  unfold lexP at this; omega
theorem ltO_none {x y : SO} (hx : rk x = 3) (hy : rk y = 3) : ltO x y = false := by
  refine decide_eq_false ?_
  have : ∀ z : SO, rk z = 3 → kp z = 0 ∧ kq z = 0 ∧ ki z = 0 := by
    intro z hz
    unfold rk at hz
    have h1 : ¬ z.f2 = 1 := fun q => by rw [if_pos q] at hz; omega
    have h2 : ¬ z.f2 = 2 := fun q => by rw [if_neg h1, if_pos q] at hz; omega
    unfold kp kq ki
    simp only [if_neg h1, if_neg h2]
    exact ⟨trivial, trivial, trivial⟩
  have a := this x hx
  have b := this y hy
  unfold lexP; omega
theorem mem_cp {c : Int} {l : List SO} {x : SO} (h : x ∈ l.filter (cp c)) : cls x = c := by
  have := (List.mem_filter.1 h).2
  simpa [cp] using this
theorem sf_parts (l : List SO) : SF ltO (l.filter (cp 1) ++ (l.filter (cp 2) ++ l.filter (cp 0))) l := by
  intro z
  rw [List.filter_append, List.filter_append, List.filter_filter, List.filter_filter, List.filter_filter]
  have none_ : ∀ c : Int, cls z ≠ c → l.filter (fun a => ev ltO z a && cp c a) = [] := by
    intro c hc
    refine List.filter_eq_nil_iff.2 fun x hx => ?_
    intro q
    simp only [Bool.and_eq_true, cp, decide_eq_true_eq] at q
    have e := ev_rk q.1
    rcases cls_rk x with h | h | h <;> rcases cls_rk z with g | g | g <;> omega
  have all_ : ∀ c : Int, cls z = c → l.filter (fun a => ev ltO z a && cp c a) = l.filter (ev ltO z) := by
    intro c hc
    refine List.filter_congr fun x hx => ?_
    cases q : ev ltO z x with
    | false => rfl
    | true =>
      have e := ev_rk q
      have : cls x = c := by rcases cls_rk x with h | h | h <;> rcases cls_rk z with g | g | g <;> omega
      simp [cp, this]
  rcases cls_rk z with g | g | g
  · rw [all_ 1 g.1, none_ 2 (by omega), none_ 0 (by omega)]; simp
  · rw [none_ 1 (by omega), all_ 2 g.1, none_ 0 (by omega)]; simp
  · rw [none_ 1 (by omega), none_ 2 (by omega), all_ 0 g.1]; simp
theorem ref_sorted (l : List SO) (k : Nat) (hn : l.length < 1000) (hk : nd l.length + 2 * l.length < k) : jobberref12_Sorted.f k (l.map tor) = some ((sortL l).map tor) := by
  have h1 : (l.filter (cp 1)).length ≤ l.length := List.length_filter_le _ _
  have h2 : (l.filter (cp 2)).length ≤ l.length := List.length_filter_le _ _
  have h0 : (l.filter (cp 0)).length ≤ l.length := List.length_filter_le _ _
  have n1 := nd_mono h1
  have n2 := nd_mono h2
  obtain ⟨s1, a1, a2, a3, a4⟩ := sel_l0 1 (.inl rfl) _ (l.filter (cp 1)) rfl (fun x hx => by have := mem_cp hx; rcases cls_rk x with h | h | h <;> omega) (by omega)
  obtain ⟨s2, b1, b2, b3, b4⟩ := sel_l0 2 (.inr rfl) _ (l.filter (cp 2)) rfl (fun x hx => by have := mem_cp hx; rcases cls_rk x with h | h | h <;> omega) (by omega)
  have e : sortL l = s1 ++ (s2 ++ l.filter (cp 0)) := by
    refine sortL_eq (So.app a1 (So.app b1 ?_ ?_) ?_) ((a2.app (b2.app (SF.refl _))).trans (sf_parts l))
    · refine List.pairwise_iff_getElem.2 fun i j hi hj hij => ?_
      have p := mem_cp (List.getElem_mem hi)
      have q := mem_cp (List.getElem_mem hj)
      exact ltO_none (by rcases cls_rk (l.filter (cp 0))[j] with h | h | h <;> omega) (by rcases cls_rk (l.filter (cp 0))[i] with h | h | h <;> omega)
    · intro x hx y hy
      have p := mem_cp ((b2.mem ltO_sw x).1 hx)
      have q := mem_cp hy
      exact ltO_rk (by rcases cls_rk x with h | h | h <;> rcases cls_rk y with g | g | g <;> omega)
    · intro x hx y hy
      have p := mem_cp ((a2.mem ltO_sw x).1 hx)
      have q : cls y = 2 ∨ cls y = 0 := by
        rcases List.mem_append.1 hy with q | q
        · exact .inl (mem_cp ((b2.mem ltO_sw y).1 q))
        · exact .inr (mem_cp q)
      exact ltO_rk (by rcases cls_rk x with h | h | h <;> rcases cls_rk y with g | g | g <;> omega)
  have f1 : jobberref12_sorted.f k ((l.filter (cp 1)).map tor) = some (s1.map tor) := a4 k [] (by omega) (by simp; omega)
  have f2 : jobberref12_sorted.f k ((l.filter (cp 2)).map tor) = some (s2.map tor) := b4 k [] (by omega) (by simp; omega)
  rw [jobberref12_Sorted.f, side_eq l 1 k (by omega) (by omega), side_eq l 2 k (by omega) (by omega), side_eq l 0 k (by omega) (by omega)]
  simp only [Option.bind_some, f1, f2, List.nil_append, List.length_nil, List.length_map, Nat.zero_add, List.length_append]
  rw [if_pos (by omega), if_pos (by omega), if_pos (by omega), e]
  simp
def bk (l : List SO) : Bool := if l.length > 64 then false else decide (l = sortL l) && bookL l []
def idIn (A : List SO) (x : SO) : Bool := A.any fun y => y.f0 == x.f0
theorem book_l1 (l : List SO) (x3 : List S41) (hn : l.length < 1000) (x : SO) (P Q : List SO) : ∀ (A2 A1 : List SO) (j : Nat), P = A1 ++ A2 → l = P ++ x :: Q → jobberref12_Book.l1 (j + A2.length + 1) (l.map tor) x3 (P.length : Int) (A1.length : Int) = if idIn A2 x = true then some false else jobberref12_Book.l0 j (l.map tor) x3 ((P.length + 1 : Nat) : Int)
  | [], A1, j, hP, hl => by
    have hlen : l.length = P.length + Q.length + 1 := by rw [hl]; simp; omega
    rw [jobberref12_Book.l1, if_neg (by rw [hP]; simp), wn (by omega)]
    rfl
  | y :: A2, A1, j, hP, hl => by
    have hlen : l.length = P.length + Q.length + 1 := by rw [hl]; simp; omega
    have hpl : P.length = A1.length + A2.length + 1 := by rw [hP]; simp; omega
    have hry := rd41 l A1 (A2 ++ x :: Q) y A1.length (by rw [hl, hP]; simp) rfl
    have hrx := rd41 l P Q x P.length hl rfl
    have ih := book_l1 l x3 hn x P Q A2 (A1 ++ [y]) j (by rw [hP]; simp) hl
    rw [List.length_append, List.length_singleton] at ih
    rw [List.length_cons, show j + (A2.length + 1) + 1 = j + A2.length + 1 + 1 by omega, jobberref12_Book.l1, if_pos (by omega), if_pos (by omega), if_pos (by simp; omega), if_pos (by omega), if_pos (by simp; omega), hry, hrx, wn (by omega), ih]
    show (if y.f0 = x.f0 then some false else _) = if ((y.f0 == x.f0) || idIn A2 x) = true then some false else _
    by_cases c : y.f0 = x.f0
    · rw [if_pos c, if_pos (by simp [c])]
    · rw [if_neg c, show (y.f0 == x.f0) = false by simpa using c, Bool.false_or]
theorem bookL_cons (x : SO) (R : List SO) (S : List Int) : bookL (x :: R) S = (goodO x && !S.contains x.f0 && bookL R (x.f0 :: S)) := rfl
theorem idIn_eq (A : List SO) (x : SO) : idIn A x = (A.map (fun y => y.f0)).reverse.contains x.f0 := by
  rw [Bool.eq_iff_iff]
  simp [idIn, List.any_eq_true, List.contains_iff_mem]
theorem tor_ne (y x : SO) : (!((tor y).f0 == (tor x).f0) || (!((tor y).f1 == (tor x).f1) || (!((tor y).f2 == (tor x).f2) || (!((tor y).f3 == (tor x).f3) || (!((tor y).f4 == (tor x).f4) || !((tor y).f5 == (tor x).f5)))))) = !decide (x = y) := by
  rw [Bool.eq_iff_iff]
  obtain ⟨x0, x1, x2, x3, x4, x5⟩ := x
  obtain ⟨y0, y1, y2, y3, y4, y5⟩ := y
  simp [tor]
  omega
def nb (n : Nat) : Nat → Nat
  | 0 => 1
  | m + 1 => nb n m + n + 3
theorem book_l0 (l s : List SO) (hn : l.length < 1000) (hs : s.length = l.length) : ∀ (R A S1 S2 : List SO) (k : Nat), l = A ++ R → s = S1 ++ S2 → S1.length = A.length → nb l.length R.length ≤ k → jobberref12_Book.l0 k (l.map tor) (s.map tor) (A.length : Int) = some (decide (R = S2) && bookL R (A.map fun y => y.f0).reverse)
  | [], A, S1, S2, k, hl, hS, hSA, hk => by
    obtain ⟨k, rfl⟩ : ∃ k', k = k' + 1 := ⟨k - 1, by simp only [List.length_nil, nb] at hk; omega⟩
    rw [jobberref12_Book.l0, if_neg (by rw [hl]; simp)]
    have : S2 = [] := List.eq_nil_of_length_eq_zero (by rw [hl, hS] at hs; simp at hs; omega)
    rw [this]; rfl
  | x :: R, A, S1, S2, k, hl, hS, hSA, hk => by
    have hlen : l.length = A.length + R.length + 1 := by rw [hl]; simp; omega
    obtain ⟨y, S2, rfl⟩ := cons_of (l := S2) (by rw [hS] at hs; simp at hs; omega)
    have hrx := rd41 l A R x A.length hl rfl
    have hry := rd41 s S1 S2 y A.length hS hSA.symm
    simp only [List.length_cons, nb] at hk
    obtain ⟨j, rfl⟩ : ∃ j, k = j + A.length + 1 + 1 + 1 := ⟨k - A.length - 3, by omega⟩
    have ih := book_l0 l s hn hs R (A ++ [x]) (S1 ++ [y]) S2 j (by rw [hl]; simp) (by rw [hS]; simp) (by simp; omega) (by omega)
    rw [List.length_append, List.length_singleton, List.map_append, List.map_singleton, List.reverse_append, List.reverse_singleton, List.singleton_append] at ih
    have l1 := book_l1 l (s.map tor) hn x A R A [] j (by simp) hl
    rw [ih] at l1
    rw [jobberref12_Book.l0, if_pos (by simp; omega), if_pos (by omega), hrx]
    have hg : jobberref12_Good.f (tor x).f0 (tor x).f1 (tor x).f2 (tor x).f3 (tor x).f4 (tor x).f5 = some (goodO x) := goodO_some x
    rw [hg, Option.bind_some, bookL_cons]
    cases g : goodO x with
    | false =>
      rw [if_neg (by decide), jobberref12_Book.j1, if_pos rfl]; simp
    | true =>
      rw [if_pos rfl, if_pos (by simp; omega), hry, tor_ne, jobberref12_Book.j1]
      by_cases e : x = y
      · subst e
        rw [if_neg (by simp)]
        refine l1.trans ?_
        rw [idIn_eq]
        by_cases c : (A.map fun y => y.f0).reverse.contains x.f0 = true
        · rw [if_pos c, c]; simp
        · rw [if_neg c, show (A.map fun y => y.f0).reverse.contains x.f0 = false by simpa using c]; simp
      · rw [if_pos (by simp [e])]
        simp [e]
theorem sortL_len (l : List SO) : (sortL l).length = l.length := sortL_length l
theorem ref_book (l : List SO) (k : Nat) (hn : l.length < 1000) (hk : nd l.length + 2 * l.length + nb l.length l.length < k) : jobberref12_Book.f k (l.map tor) = some (bk l) := by
  rw [jobberref12_Book.f, bk]
  by_cases c : l.length > 64
  · rw [if_pos (by simp; omega), if_pos c]
  · rw [if_neg (by simp; omega), if_neg c, ref_sorted l k hn (by omega)]
    exact book_l0 l (sortL l) hn (sortL_len l) l [] [] (sortL l) k rfl rfl rfl (by omega)
theorem order_book (l : List SO) (hid : idsIn l = true) : order_Book.f l = some (bk l) := by
  rw [order_Book.f, if_pos hid, bk]
  by_cases c : l.length > 64
  · rw [if_pos c, if_pos c]
  · rw [if_neg c, if_neg c, order_Sorted.f, if_pos (by omega)]; rfl
theorem ids_of {l : List SO} (h : ∀ y ∈ l, WF42 y) : idsIn l = true := by
  refine List.all_eq_true.2 fun x hx => ?_
  have := h x hx
  simp only [WF42] at this
  exact this.1
end Go.Proofs.Ytjjnbcaemognhaa.Cap.M
