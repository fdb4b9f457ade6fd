/- A part of the proof; no condition. -/
import Derived.Test.YtjjnbcaemognhaaZCapSaidCallPrices
import Derived.Test.YtjjnbcaemognhaaZCapMathL
namespace Go.Proofs.Ytjjnbcaemognhaa.Cap.Pure
open Go.RowKit Go.Proofs.Ytjjnbcaemognhaa.Cap Go.Proofs.Ytjjnbcaemognhaa.Cap.M Go.Proofs.YtjjnbcaemognhaaW.PrintWords Go.Proofs.YtjjnbcaemognhaaW.PrintLast
theorem CallPrices : jobberlaw19_CallPrices.Pure := by
  intro l last hl hla
  have hid := ids_of hl.2
  have hla' : -9223372036854775808 ≤ last ∧ last ≤ 9223372036854775807 := by
    simp [Lit.wf, IntKind.min, IntKind.max, IntKind.signed, IntKind.bits] at hla
    omega
  by_cases c : (l.length : Int) > 100
  · exact ⟨60, by rw [jobberlaw19_CallPrices.f, if_pos c, lives_eq (Nat.le_refl _)]; rfl⟩
  · obtain ⟨k, hk⟩ : ∃ k, nd l.length + 2 * l.length + nb l.length l.length + 200 = k := ⟨_, rfl⟩
    refine ⟨k, ?_⟩
    have hb := ref_book l k (by omega) (by omega)
    rw [jobberlaw19_CallPrices.f, if_neg c, call_Price.f, if_pos hla', order_book l hid, plain_eq l k (by omega) (by omega), lives_eq (by omega)]
    simp only [Option.map_some, Option.bind_some]
    cases hbk : bk l with
    | false =>
      rw [hbk] at hb
      obtain ⟨k', rfl⟩ : ∃ k', k = k' + 1 := ⟨k - 1, by omega⟩
      rw [jobberref19_Price.f, hb, Option.bind_some, if_neg (by decide), jobberref19_Price.j0, if_pos rfl]
      simp
    | true =>
      rw [hbk] at hb
      have hob := order_book l hid
      rw [hbk] at hob
      have hg := book_good hob
      have hp : jobberref19_Price.f k (l.map tor) last = some (priceM l last) := price_eq l last k hg.1 hg.2 hla' (by omega) hb
      rw [hp]
      simp
end Go.Proofs.Ytjjnbcaemognhaa.Cap.Pure
