import Derived.Test.YtlihfiajbhpokaaOrsSaidOrderSorts
import Derived.Test.YtlihfiajbhpokaaOrsMathE
namespace Go.Proofs.Ytlihfiajbhpokaa.Ors.Pure
open Go.RowKit Go.Proofs.Ytlihfiajbhpokaa.Ors Go.Proofs.Ytlihfiajbhpokaa.Ors.M Go.Proofs.YtlihfiajbhpokaaW.PrintWords Go.Proofs.YtlihfiajbhpokaaW.PrintLast

theorem OrderSorts : jobberlaw12_OrderSorts.Pure := by
  intro l hl
  have hid := ids_of hl.2
  by_cases c : (l.length : Int) > 100
  · exact ⟨0, by rw [jobberlaw12_OrderSorts.f, if_pos c]; rfl⟩
  · obtain ⟨k, hk⟩ : ∃ k, nd l.length + 2 * l.length + nb l.length l.length + 1 = k := ⟨_, rfl⟩
    refine ⟨k, ?_⟩
    have hs := sortL_len l
    rw [jobberlaw12_OrderSorts.f, if_neg c, plain_eq l k (by omega) (by omega)]
    simp only [Option.bind_some]
    rw [ref_sorted l k (by omega) (by omega)]
    simp only [Option.bind_some]
    rw [order_Sorted.f, if_pos (by omega)]
    simp only [Option.bind_some]
    rw [same_eq (sortL l) k (by omega) (by omega)]
    simp only [Option.bind_some, if_true]
    rw [order_Sorted.f, if_pos (by omega), sortL_sortL]
    simp only [Option.bind_some]
    rw [same_eq (sortL l) k (by omega) (by omega)]
    simp only [Option.bind_some, if_true]
    rw [order_book l hid, ref_book l k (by omega) (by omega)]
    simp [jobberlaw12_lives.f]

end Go.Proofs.Ytlihfiajbhpokaa.Ors.Pure
