import Derived.Test.YtlihfiajbhpokaaOrcSaidOrderBytes
import Derived.Test.YtlihfiajbhpokaaOrcMathF
namespace Go.Proofs.Ytlihfiajbhpokaa.Orc.Pure
open Go.RowKit Go.Proofs.Ytlihfiajbhpokaa.Orc Go.Proofs.Ytlihfiajbhpokaa.Orc.M Go.Proofs.YtlihfiajbhpokaaW.PrintWords Go.Proofs.YtlihfiajbhpokaaW.PrintLast

theorem i64r {x : Int} (h : (Lit.int .i64 x).wf = true) : -9223372036854775808 ≤ x ∧ x ≤ 9223372036854775807 := by
  simp [Lit.wf, IntKind.min, IntKind.max, IntKind.signed, IntKind.bits] at h
  omega
theorem u64r {x : Int} (h : (Lit.int .u64 x).wf = true) : 0 ≤ x ∧ x < 18446744073709551616 := by
  simp [Lit.wf, IntKind.min, IntKind.max, IntKind.signed, IntKind.bits] at h
  omega
theorem ok_of {l : List S33} (h : ∀ y ∈ l, WF33 y) : l.all okO = true := by
  refine List.all_eq_true.2 fun x hx => decide_eq_true ?_
  have := h x hx
  simp only [WF33] at this
  exact ⟨(u64r this.1).1, (u64r this.1).2, i64r this.2.1, i64r this.2.2.1, i64r this.2.2.2.1, i64r this.2.2.2.2.1, (u64r this.2.2.2.2.2).1, (u64r this.2.2.2.2.2).2⟩
theorem OrderBytes : jobberlaw12_OrderBytes.Pure := by
  intro l m hl hm
  by_cases c : (l.length : Int) > 100
  · exact ⟨0, by rw [jobberlaw12_OrderBytes.f, if_pos c]⟩
  by_cases c2 : (m.length : Int) > 100
  · exact ⟨0, by rw [jobberlaw12_OrderBytes.f, if_neg c, if_pos c2]⟩
  have hok := ok_of hl.2
  have hid := ids_of hl.2
  have hb : (l.all okO && m.all fun b => decide (0 ≤ b) && decide (b < 256)) = true := by
    rw [hok, Bool.true_and]
    refine List.all_eq_true.2 fun b hb => ?_
    have := hm.2 b hb
    simp [Lit.wf, IntKind.min, IntKind.max, IntKind.signed, IntKind.bits] at this
    simp; omega
  obtain ⟨k, hk⟩ : ∃ k, nd l.length + 2 * l.length + nb l.length l.length + 200 = k := ⟨_, rfl⟩
  refine ⟨k, ?_⟩
  have hall := all_round l m hok (by omega)
  rw [jobberlaw12_OrderBytes.f, if_neg c, if_neg c2, if_pos hb, plain_eq l k (by omega) (by omega), Option.bind_some, ref_bytes l k (by omega) hok (by omega), Option.bind_some, if_pos rfl, ref_book l k (by omega) (by omega), Option.bind_some]
  by_cases d : l.length ≤ 64
  · rw [if_pos d] at hall
    have ho : ∀ p, readOk (bytesO l ++ m, false) p = p := fun p => by rw [readOk, hall]; rfl
    rw [hall, order_book l hid, Option.bind_some]
    cases e : bk l with
    | false => rw [if_pos rfl, if_pos (ho false)]
    | true =>
      have hs : readS (bytesO l ++ m, false) true = (m, false) := by rw [readS, if_pos (ho true), hall]
      have hl2 : readL (bytesO l ++ m, false) true = l := by rw [readL, if_pos (ho true), hall]
      rw [if_neg (by decide), if_pos (ho true), hs, if_pos rfl, hl2, same_eq l k (by omega) (by omega), Option.bind_some, if_pos rfl]
  · rw [if_neg d] at hall
    have hbk : bk l = false := by rw [bk, if_pos (by omega)]
    obtain ⟨p, hp⟩ : ∃ p, order_Book.f ([] : List SO) = some p := ⟨_, order_book [] rfl⟩
    have ho : readOk (bytesO l ++ m, false) p = false := by rw [readOk, hall]; rfl
    rw [hall, hp, Option.bind_some, hbk, if_pos rfl, if_pos ho]

end Go.Proofs.Ytlihfiajbhpokaa.Orc.Pure
