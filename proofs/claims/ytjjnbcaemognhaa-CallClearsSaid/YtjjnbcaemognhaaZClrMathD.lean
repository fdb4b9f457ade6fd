/- The document's sorting and its test of a book are the program's. -/
import Derived.Test.YtjjnbcaemognhaaZClrMathC
import Derived.Test.YtjjnbcaemognhaaZClrx12
import Derived.Test.YtjjnbcaemognhaaZClrOpens
namespace Go.Proofs.Ytjjnbcaemognhaa.Clr.M
open Go.RowKit Go.Proofs.Ytjjnbcaemognhaa.Clr Go.Proofs.YtjjnbcaemognhaaW.PrintWords Go.Proofs.YtjjnbcaemognhaaW.PrintLast
open Go.Sort
set_option linter.unusedVariables false
set_option linter.unusedSimpArgs false
theorem ltOf_eq : Go.Proofs.ltOf cmpO = ltO := by
  funext x y
  show decide (cmpO x y < 0) = decide (lexP x y)
  unfold cmpO
  simp only [order_Sorted_1.f, rank_eq, Option.bind_some]
  by_cases h : rk x = rk y
  · rw [if_pos h]
    by_cases hs : x.f2 = y.f2 ∧ (x.f2 = 1 ∨ x.f2 = 2)
    · obtain ⟨e, hs⟩ := hs
      rw [← e, ahead_ok _ _ _ _ _ _ _ _ _ _ _ hs, ahead_ok _ _ _ _ _ _ _ _ _ _ _ hs]
      simp only [Option.bind_some, decide_eq_true_eq]
      refine decide_eq_decide.2 ?_
      by_cases p : ahP x.f2 x.f3 x.f5 x.f0 y.f3 y.f5 y.f0
      · rw [if_pos p]
        simp only [Option.getD_some]
        unfold ahP at p; unfold lexP rk kp kq ki
        rcases hs with hs | hs <;> simp only [← e, hs, if_true] <;> (simp only [hs] at p; simp at p ⊢; omega)
      · rw [if_neg p]
        have hge : ¬ (((if ahP x.f2 y.f3 y.f5 y.f0 x.f3 x.f5 x.f0 then some 1 else some 0 : Option Int).getD 0) < 0) := by split <;> simp
        refine iff_of_false hge ?_
        unfold ahP at p; unfold lexP rk kp kq ki
        rcases hs with hs | hs <;> simp only [← e, hs, if_true] <;> (simp only [hs] at p; simp at p ⊢; omega)
    · have h3 : ¬ (x.f2 = 1 ∨ x.f2 = 2) := by
        intro q; refine hs ⟨?_, q⟩
        unfold rk at h
        rcases q with q | q
        · rw [if_pos q] at h; split at h
          · omega
          · split at h <;> omega
        · rw [if_neg (by omega), if_pos q] at h; split at h
          · omega
          · split at h <;> omega
      have h4 : ¬ (y.f2 = 1 ∨ y.f2 = 2) := by
        intro q
        unfold rk at h
        rw [if_neg (by omega), if_neg (by omega)] at h
        rcases q with q | q
        · rw [if_pos q] at h; omega
        · rw [if_neg (by omega), if_pos q] at h; omega
      rw [ahead_no 3 _ _ _ _ _ _ _ _ _ _ _ _ (.inr h3), ahead_no 3 _ _ _ _ _ _ _ _ _ _ _ _ (.inr h4)]
      refine decide_eq_decide.2 (iff_of_false (by decide) ?_)
      unfold lexP rk kp kq ki
      have a1 : ¬ x.f2 = 1 := fun q => h3 (.inl q)
      have a2 : ¬ x.f2 = 2 := fun q => h3 (.inr q)
      have a3 : ¬ y.f2 = 1 := fun q => h4 (.inl q)
      have a4 : ¬ y.f2 = 2 := fun q => h4 (.inr q)
      simp only [if_neg a1, if_neg a2, if_neg a3, if_neg a4]
      omega
  · rw [if_neg h, cmpi]
    simp only [Option.bind_some, Option.getD_some]
    refine decide_eq_decide.2 ?_
    unfold lexP
    by_cases c : rk x < rk y
    · rw [if_pos c]; exact iff_of_true (by decide) (.inl c)
    · rw [if_neg c, if_pos (by omega)]
      exact iff_of_false (by decide) (by omega)
theorem sortL_spec (l : List SO) : So ltO (sortL l) ∧ SF ltO (sortL l) l := by
  have := stable_sorts ltO_sw l.toArray
  rw [List.size_toArray] at this
  rw [sortL, ltOf_eq]
  exact this
theorem sortL_eq {l s : List SO} (h1 : So ltO s) (h2 : SF ltO s l) : sortL l = s :=
  uniq ltO_sw _ _ (sortL_spec l).1 h1 ((sortL_spec l).2.trans h2.symm)
def bk (l : List SO) : Bool := if l.length > 64 then false else decide (l = sortL l) && bookL l []
theorem order_book (l : List SO) (hid : idsIn l = true) : order_Book.f l = some (bk l) := by
  rw [order_Book.f, if_pos hid, bk]
  by_cases c : l.length > 64
  · rw [if_pos c, if_pos c]
  · rw [if_neg c, if_neg c, order_Sorted.f, if_pos (by omega)]; rfl
theorem ids_of {l : List SO} (h : ∀ y ∈ l, WF42 y) : idsIn l = true := by
  refine List.all_eq_true.2 fun x hx => ?_
  have := h x hx
  simp only [WF42] at this
  exact this.1
end Go.Proofs.Ytjjnbcaemognhaa.Clr.M
