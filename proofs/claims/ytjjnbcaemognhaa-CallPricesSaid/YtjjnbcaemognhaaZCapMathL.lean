/- The chapter's example; what a book of unlike numbers is to both. -/
import Derived.Test.YtjjnbcaemognhaaZCapMathE
import Derived.Test.YtjjnbcaemognhaaZCapMathP
namespace Go.Proofs.Ytjjnbcaemognhaa.Cap.M
open Go.RowKit Go.Proofs.Ytjjnbcaemognhaa.Cap Go.Proofs.YtjjnbcaemognhaaW.PrintWords Go.Proofs.YtjjnbcaemognhaaW.PrintLast Go.Proofs.YtjjnbcaemognhaaW.PrintMore
def L4 : List S42 := [⟨1, 0, 1, 12, 5, 1⟩, ⟨2, 0, 1, 10, 5, 2⟩, ⟨3, 0, 2, 9, 4, 3⟩, ⟨4, 0, 2, 11, 4, 4⟩]
theorem bk_L4 : order_Book.f L4 = some true := by
  have hs : sortL L4 = L4 := sortL_eq (l := L4) (s := L4) (by unfold So; decide +kernel) (SF.refl _)
  rw [order_book L4 (by decide +kernel), bk, if_neg (by decide), hs]
  decide +kernel
theorem price_L4 : call_Price.f L4 0 = some (11, 5) := by
  rw [call_Price.f, if_pos (by decide), bk_L4]
  show some (priceM L4 0) = _
  kernel_rfl
theorem side_L4 (s : Int) (r : List Int) (h : sideGo 60 L4 s 11 1 1 5 0 5 [0, 0, 0, 0] = some r) : call_Side.f 60 L4 s 11 5 1 1 = some r := by
  rw [call_Side.f, bk_L4, Option.bind_some, if_pos (by decide)]
  exact h
theorem deals_L4 : call_Deals.f 60 L4 11 5 1 1 = some [⟨⟨1, 0, 1, 12, 5, 1⟩, ⟨3, 0, 2, 9, 4, 3⟩, 4⟩, ⟨⟨1, 0, 1, 12, 5, 1⟩, ⟨4, 0, 2, 11, 4, 4⟩, 1⟩] := by
  rw [call_Deals.f, side_L4 1 [5, 0, 0, 0] (by kernel_rfl), Option.bind_some, side_L4 2 [0, 0, 4, 1] (by kernel_rfl), Option.bind_some]
  kernel_rfl
theorem lives_60 : jobberlaw19_lives.f 60 = some true := by
  rw [jobberlaw19_lives.f, Option.bind_some]
  show (call_Price.f L4 0).bind _ = _
  rw [price_L4, Option.bind_some]
  show (call_Deals.f 60 L4 11 5 1 1).bind _ = _
  rw [deals_L4, Option.bind_some]
  kernel_rfl
theorem lives_eq {k : Nat} (h : 60 ≤ k) : jobberlaw19_lives.f k = some true := by
  induction h with
  | refl => exact lives_60
  | step h ih => exact jobberlaw19_lives.mono _ _ ih
end Go.Proofs.Ytjjnbcaemognhaa.Cap.M
