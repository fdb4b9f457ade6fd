import Derived.Test.YtlihfiajbhpokaaOrbSaidOrderReads
import Derived.Test.YtlihfiajbhpokaaOrbMathE
namespace Go.Proofs.Ytlihfiajbhpokaa.Orb.Pure
open Go.RowKit Go.Proofs.Ytlihfiajbhpokaa.Orb Go.Proofs.Ytlihfiajbhpokaa.Orb.M Go.Proofs.YtlihfiajbhpokaaW.PrintWords Go.Proofs.YtlihfiajbhpokaaW.PrintLast

theorem many_len : ∀ (n : Nat) (s : RS) (acc : List SO), (rMany n s acc).1.length = acc.length + n
  | 0, s, acc => rfl
  | n + 1, s, acc => by rw [rMany, many_len n]; simp; omega
theorem many_ids : ∀ (n : Nat) (s : RS) (acc : List SO), (∀ x ∈ acc, 0 ≤ x.f0 ∧ x.f0 ≤ 18446744073709551615) → ∀ x ∈ (rMany n s acc).1, 0 ≤ x.f0 ∧ x.f0 ≤ 18446744073709551615
  | 0, s, acc, h => h
  | n + 1, s, acc, h => by
    rw [rMany]
    refine many_ids n _ _ fun x hx => ?_
    rcases List.mem_append.1 hx with q | q
    · exact h x q
    · rw [List.mem_singleton.1 q]
      have := cNat_spec M64 s (by decide)
      exact ⟨this.1, this.2.1⟩
theorem all_len (s : RS) : (rAll s).1.length ≤ 64 := by
  rw [rAll, many_len]
  have := cNat_spec 64 s (by decide)
  simp; omega
theorem all_ids (s : RS) : idsIn (rAll s).1 = true := by
  refine List.all_eq_true.2 fun x hx => ?_
  have := many_ids _ _ [] (fun _ h => by cases h) x hx
  simpa using this
theorem read_len (s : RS) (r : Bool) : (readL s r).length ≤ 64 := by
  unfold readL
  split
  · exact all_len s
  · simp
theorem OrderReads : jobberlaw12_OrderReads.Pure := by
  intro l hl
  by_cases c : (l.length : Int) > 3000
  · exact ⟨0, by rw [jobberlaw12_OrderReads.f, if_pos c]⟩
  · obtain ⟨z, hz⟩ : ∃ z, (rAll (l, false)).1 = z := ⟨_, rfl⟩
    have hlen : z.length ≤ 64 := by rw [← hz]; exact all_len _
    have hid : idsIn z = true := by rw [← hz]; exact all_ids _
    obtain ⟨k, hk⟩ : ∃ k, nd z.length + 2 * z.length + nb z.length z.length + 100 = k := ⟨_, rfl⟩
    refine ⟨k, ?_⟩
    have hb : (l.all fun b => decide (0 ≤ b) && decide (b < 256)) = true := by
      refine List.all_eq_true.2 fun b hb => ?_
      have := hl.2 b hb
      simp [Lit.wf, IntKind.min, IntKind.max, IntKind.signed, IntKind.bits] at this
      simp; omega
    have ht : torO = tor := rfl
    rw [jobberlaw12_OrderReads.f, if_neg c, if_pos hb, hz, order_book z hid, ht, Option.bind_some, ref_book z k (by omega) (by omega), Option.bind_some, if_pos rfl]
    have hr := read_len (l, false) (bk z)
    rw [same_eq _ k (by omega) (by omega), Option.bind_some, if_pos rfl]

end Go.Proofs.Ytlihfiajbhpokaa.Orb.Pure
