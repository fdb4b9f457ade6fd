/- Printed by this session's wip/drive.py over the translation; some functions by hand. -/
import Derived.Test.YthkhfhhbldjdlaaChpx0
import Derived.Test.YthkhfhhbldjdlaaChpx1
import Derived.Test.YthkhfhhbldjdlaaChpx2
import Derived.Test.YthkhfhhbldjdlaaChpx3
import Derived.Test.YthkhfhhbldjdlaaChpx4
import Derived.Test.YthkhfhhbldjdlaaChpx5
namespace Go.Proofs.Ythkhfhhbldjdlaa.Chp
open Go.RowKit Go.Proofs.YthkhfhhbldjdlaaW.PrintWords Go.Proofs.YthkhfhhbldjdlaaW.PrintLast Go.Proofs.YthkhfhhbldjdlaaW.PrintMore
attribute [local go_sem] max2_int min2_int max_two min_two max_three min_three max_four min_four   -- for this text's walks alone
set_option linter.unusedVariables false
set_option linter.unusedSimpArgs false

/-! ### jobberref38_Chain_Join: function 40 (by hand) -/
theorem Row.take {ix : Int} {xs : List SE} (h : Row ix xs) (n : Nat) : Row ix (xs.take n) :=
  ⟨fun j x hx => (by rw [List.getElem?_take] at hx; split at hx; (exact h.at_ j x hx); (cases hx)), h.lo, by have := h.hi; rw [List.length_take]; omega, by have := h.few; rw [List.length_take]; omega, fun x hx => h.small x (List.mem_of_mem_take hx)⟩
set_option maxHeartbeats 8000000 in
set_option maxRecDepth 100000 in
theorem chain_cut (W : World) (F : Nat → Prop) (g : Nat) (a b : Int) (xs : List SE) (h : ChP g a b xs W F) (i : Int) (hi : 0 ≤ i ∧ i < 18446744073709551616) (h1 : a < i) (h2 : i - 1 ≤ a + xs.length) :
    Calls Try.prog 32 #[.pointer (some ⟨g, 0, none⟩), .int .u64 i] W fun e w' => e = .returned (.int .i64 0) ∧ St W F w' [ChP g a b (xs.take (i - 1 - a).toNat)] := by
  have hu := Try.underlying121
  have S0 := St.start1 ChP.loc h
  have HCH := Aside0.mk h.now
  obtain ⟨hr, A, c, S1⟩ := S0.chOpen
  have HR := Aside0.mk hr
  have hlo := hr.lo
  obtain ⟨n, hn⟩ : ∃ n : Int, i - 1 - a = n := ⟨_, rfl⟩
  have hw1 : IntKind.u64.wrap (i - 1) = i - 1 := by rw [IntKind.wrap_u64]; omega
  have hw2 : IntKind.u64.wrap (i - 1 - a) = n := by rw [IntKind.wrap_u64]; omega
  have d1 : decide (i ≤ a) = false := decide_eq_false (by omega)
  have d2 : decide (i - 1 > a + (xs.length : Int)) = false := decide_eq_false (by omega)
  have HN : Aside0 (0 ≤ n ∧ n ≤ xs.length) := ⟨by omega⟩
  rw [hn]
  obtain ⟨ys, hys⟩ : ∃ ys, xs.take n.toNat = ys := ⟨_, rfl⟩
  rw [hys]
  have HYS := Aside0.mk hys
  clear hys
  clear h S0 hi h1 h2 hr hlo hn
  go_enter Try.func32, Try.ntmps32
  go_wp2_with (go_at_call 45; refine (chain_last _ g a b xs HCH.out).mono ?_; rintro e w1 ⟨rfl, hb⟩; have S2 := S1.call hb; clear S1 hb; have z0 : w1.cell? ⟨g, 0, none⟩ = some (.int .u64 a) := (blk_cell (S2.blk 0 rfl) 0).trans rfl; have fz0 : w1.frozen? ⟨g, 0, none⟩ = false := blk_frozen (S2.blk 0 rfl) 0; have z1 : w1.cell? ⟨g, 1, none⟩ = some (.int .u64 b) := (blk_cell (S2.blk 0 rfl) 1).trans rfl; have fz1 : w1.frozen? ⟨g, 1, none⟩ = false := blk_frozen (S2.blk 0 rfl) 1; have z2 : w1.cell? ⟨g, 2, none⟩ = some (.slice A xs.length c) := (blk_cell (S2.blk 0 rfl) 2).trans rfl; have fz2 : w1.frozen? ⟨g, 2, none⟩ = false := blk_frozen (S2.blk 0 rfl) 2)
  have hlc := (S2.nrd 1 rfl).2.1
  have hyl : ys.length = n.toNat := by have := HN.out; rw [← HYS.out, List.length_take]; omega
  have hcut : ∀ W : World, (Instr.slice 72 (.slice A xs.length c) none (some (.int .u64 n)) none).run Try.prog W = .ok (.slice A ys.length c) W := fun W => by
    rw [cut_h' 72 78 .u64 3 Try.underlying72 (by kernel_rfl) A xs.length c n HN.out.1 (by have := HN.out; omega) W, hyl]
  have HCC : Aside0 (∀ W', Below w1.heap.size w1 W' → KE.C W' A ys.length ys) := ⟨fun W' hb => by have := Kd.C_take (S2.nrd 1 rfl).2.2 (m := n.toNat) (by have := HN.out; omega); rw [HYS.out] at this; exact Kd.C_below this hb⟩
  have HRY : Aside0 (Row a ys) := ⟨by rw [← HYS.out]; exact HR.out.take _⟩
  have HLC : Aside0 (ys.length ≤ c) := ⟨by have := HN.out; omega⟩
  clear hlc hyl
  go_region_with (first | (go_at_call 66; refine Calls.named ?_; intro w2 hw2; have hB2 : Below w1.heap.size w1 w2 := (by rw [hw2]; repeat (first | exact Below.refl _ _ | apply below_drew1)); have S3 := S2.call hB2; clear hw2; (with_reducible refine (chain_copied.calls A c ys w2 (HCC.out _ hB2) HLC.out HRY.out.few HRY.out.small).mono ?_); rintro e w3 ⟨v, rfl, hR, hb⟩; obtain ⟨A3, c3, e3⟩ := Kd.R_slice hR; subst e3; have S4 := S3.row hb hR; clear S3 hb hR hB2 z0 z1 z2 fz0 fz1 fz2; have z0 : w3.cell? ⟨g, 0, none⟩ = some (.int .u64 a) := (blk_cell (S4.blk 1 rfl) 0).trans rfl; have fz0 : w3.frozen? ⟨g, 0, none⟩ = false := blk_frozen (S4.blk 1 rfl) 0; have z1 : w3.cell? ⟨g, 1, none⟩ = some (.int .u64 b) := (blk_cell (S4.blk 1 rfl) 1).trans rfl; have fz1 : w3.frozen? ⟨g, 1, none⟩ = false := blk_frozen (S4.blk 1 rfl) 1; have z2 : w3.cell? ⟨g, 2, none⟩ = some (.slice A xs.length c) := (blk_cell (S4.blk 1 rfl) 2).trans rfl; have fz2 : w3.frozen? ⟨g, 2, none⟩ = false := blk_frozen (S4.blk 1 rfl) 2))
  all_goals
    go_wp2
    go_ret
    exact ⟨rfl, (St.chShut HRY.out ((((S4.front 1 rfl).put 2 (.slice A3 ys.length c3) rfl).front 1 rfl).rw_nw.front 1 rfl)).take 1⟩
set_option maxHeartbeats 8000000 in
set_option maxRecDepth 100000 in
theorem chain_cut_bad (W : World) (g : Nat) (a b : Int) (xs : List SE) (h : Ch W g a b xs) (i : Int) (hi : 0 ≤ i ∧ i < 18446744073709551616) (h1 : ¬ (a < i ∧ i - 1 ≤ a + xs.length)) :
    Calls Try.prog 32 #[.pointer (some ⟨g, 0, none⟩), .int .u64 i] W fun e w' => e = .returned (.int .i64 2) ∧ Below W.heap.size W w' := by
  have hu := Try.underlying121
  have HCH := Aside0.mk h
  have hlo := h.row.lo
  by_cases c1 : i ≤ a
  · have d1 : decide (i ≤ a) = true := decide_eq_true c1
    clear h hi h1 hlo c1
    go_enter Try.func32, Try.ntmps32
    go_wp2_with (go_at_call 45; refine (chain_last _ g a b xs HCH.out).mono ?_; rintro e w1 ⟨rfl, hb⟩; have HB1 := Aside0.mk hb; obtain ⟨A, c, z0, _, _, _, _⟩ := (HCH.out.below hb).blk; clear hb)
    repeat (go_quiet (fail); try go_wp2)
    go_ret
    exact ⟨rfl, by repeat (first | (with_reducible first | exact HB1.out | apply below_alloc | apply pw_below_drewN | apply below_drew1) | exact HB1.out)⟩
  · have d1 : decide (i ≤ a) = false := decide_eq_false c1
    have hw1 : IntKind.u64.wrap (i - 1) = i - 1 := by rw [IntKind.wrap_u64]; omega
    have d2 : decide (i - 1 > a + (xs.length : Int)) = true := decide_eq_true (by omega)
    clear h hi h1 hlo c1
    go_enter Try.func32, Try.ntmps32
    go_wp2_with (go_at_call 45; refine (chain_last _ g a b xs HCH.out).mono ?_; rintro e w1 ⟨rfl, hb⟩; have HB1 := Aside0.mk hb; obtain ⟨A, c, z0, _, _, _, _⟩ := (HCH.out.below hb).blk; clear hb)
    repeat (go_quiet (fail); try go_wp2)
    go_ret
    exact ⟨rfl, by repeat (first | (with_reducible first | exact HB1.out | apply below_alloc | apply pw_below_drewN | apply below_drew1) | exact HB1.out)⟩
set_option maxHeartbeats 8000000 in
set_option maxRecDepth 100000 in
theorem chain_append_bad (W : World) (g : Nat) (a b : Int) (xs : List SE) (h : Ch W g a b xs) (A1 : Option Addr) (c1 : Nat) (l : List SE) (hC : KE.C W A1 l.length l) (hc : l.length ≤ c1) (k : Nat) (hst : chain_stands.f k (a + xs.length) (lastT b xs) l = some false) :
    Calls Try.prog 33 #[.pointer (some ⟨g, 0, none⟩), .slice A1 l.length c1] W fun e w' => e = .returned (.int .i64 2) ∧ Below W.heap.size W w' := by
  have hu := Try.underlying121
  have HCH := Aside0.mk h
  have HC := Aside0.mk hC
  have Hc := Aside0.mk hc
  have HS := Aside0.mk hst
  clear h hC hc hst
  go_enter Try.func33, Try.ntmps33
  go_wp2_with (first
    | (go_at_call 45; refine (chain_last _ g a b xs HCH.out).mono ?_; rintro e w1 ⟨rfl, hb⟩; have HB1 := Aside0.mk hb; clear hb)
    | (go_at_call 64; refine (chain_stands.calls k _ _ A1 c1 l false _ (Kd.C_below HC.out HB1.out) Hc.out HS.out).mono ?_; rintro e w2 ⟨rfl, hb⟩; have HB2 := Aside0.mk (below_step HB1.out hb); clear hb))
  go_ret
  exact ⟨rfl, HB2.out⟩
theorem Row.append {ix : Int} {xs l : List SE} (h : Row ix xs) (k : Row (ix + xs.length) l) (hf : xs.length + l.length ≤ 100000) : Row ix (xs ++ l) :=
  ⟨fun j x hx => (by
    rcases Nat.lt_or_ge j xs.length with hj | hj
    · rw [List.getElem?_append_left hj] at hx; exact h.at_ j x hx
    · rw [List.getElem?_append_right hj] at hx; have := k.at_ _ x hx; omega), h.lo, (by have := k.hi; rw [List.length_append]; omega), (by rw [List.length_append]; exact hf), fun x hx => (by rcases List.mem_append.1 hx with h1 | h1; exact h.small x h1; exact k.small x h1)⟩
set_option maxHeartbeats 8000000 in
set_option maxRecDepth 100000 in
theorem chain_append (W : World) (F : Nat → Prop) (g : Nat) (a b : Int) (xs : List SE) (h : ChP g a b xs W F) (A1 : Option Addr) (c1 : Nat) (l : List SE) (hC : ∀ W', (Fr F W W') → KE.C W' A1 l.length l) (hc : l.length ≤ c1) (k : Nat) (hst : chain_stands.f k (a + xs.length) (lastT b xs) l = some true) (hrow : Row (a + xs.length) l) (hfew : xs.length + l.length ≤ 100000) :
    Calls Try.prog 33 #[.pointer (some ⟨g, 0, none⟩), .slice A1 l.length c1] W fun e w' => e = .returned (.int .i64 0) ∧ St W F w' [ChP g a b (xs ++ l)] := by
  have hu := Try.underlying121
  have S0 := St.start1 ChP.loc h
  have HCH := Aside0.mk h.now
  have HC := Aside0.mk hC
  have Hc := Aside0.mk hc
  have HS := Aside0.mk hst
  have HL := Aside0.mk hrow
  have HF := Aside0.mk hfew
  obtain ⟨hr, A, c, S1⟩ := S0.chOpen
  have HZR := Aside0.mk (hr.append hrow hfew)
  obtain ⟨zs, hzs⟩ : ∃ zs, xs ++ l = zs := ⟨_, rfl⟩
  rw [hzs] at HZR ⊢
  have HZ := Aside0.mk hzs
  clear h S0 hC hc hst hrow hfew hr hzs
  go_enter Try.func33, Try.ntmps33
  go_wp2_with (first
    | (go_at_call 45; refine (chain_last _ g a b xs HCH.out).mono ?_; rintro e w1 ⟨rfl, hb⟩; have S2 := S1.call hb; clear S1 hb)
    | (go_at_call 64; refine (chain_stands.calls k _ _ A1 c1 l true _ (HC.out _ S2.fr) Hc.out HS.out).mono ?_; rintro e w2 ⟨rfl, hb⟩; have S3 := S2.call hb; clear S2 hb; have z0 : w2.cell? ⟨g, 0, none⟩ = some (.int .u64 a) := (blk_cell (S3.blk 0 rfl) 0).trans rfl; have fz0 : w2.frozen? ⟨g, 0, none⟩ = false := blk_frozen (S3.blk 0 rfl) 0; have z1 : w2.cell? ⟨g, 1, none⟩ = some (.int .u64 b) := (blk_cell (S3.blk 0 rfl) 1).trans rfl; have fz1 : w2.frozen? ⟨g, 1, none⟩ = false := blk_frozen (S3.blk 0 rfl) 1; have z2 : w2.cell? ⟨g, 2, none⟩ = some (.slice A xs.length c) := (blk_cell (S3.blk 0 rfl) 2).trans rfl; have fz2 : w2.frozen? ⟨g, 2, none⟩ = false := blk_frozen (S3.blk 0 rfl) 2))
  go_region_law (first
    | (go_simp; go_at_call 66; refine Calls.named ?_; intro w3 hw3; have hB3 : Below w2.heap.size w2 w3 := (by rw [hw3]; repeat (first | exact Below.refl _ _ | apply below_drew1)); have S4 := S3.call hB3; clear hw3; (with_reducible refine (chain_copied.calls A1 c1 l w3 (HC.out _ S4.fr) Hc.out HL.out.few HL.out.small).mono ?_); rintro e w4 ⟨v, rfl, hR, hb⟩; obtain ⟨A3, c3, e3⟩ := Kd.R_slice hR; subst e3; have S5 := S4.row hb hR; clear S4 hb hR hB3 z0 z1 z2 fz0 fz1 fz2; have z0 : w4.cell? ⟨g, 0, none⟩ = some (.int .u64 a) := (blk_cell (S5.blk 1 rfl) 0).trans rfl; have fz0 : w4.frozen? ⟨g, 0, none⟩ = false := blk_frozen (S5.blk 1 rfl) 0; have z1 : w4.cell? ⟨g, 1, none⟩ = some (.int .u64 b) := (blk_cell (S5.blk 1 rfl) 1).trans rfl; have fz1 : w4.frozen? ⟨g, 1, none⟩ = false := blk_frozen (S5.blk 1 rfl) 1; have z2 : w4.cell? ⟨g, 2, none⟩ = some (.slice A xs.length c) := (blk_cell (S5.blk 1 rfl) 2).trans rfl; have fz2 : w4.frozen? ⟨g, 2, none⟩ = false := blk_frozen (S5.blk 1 rfl) 2)
    | (obtain ⟨ok, okp, p1, p2, p3, p4, p5⟩ := (S5.rw_vw.front 2 rfl).append_rows; refine Kd.N_append_rows_step KE (w0 := w4) 0 (by rfl) (.tmp 25) (.tmp 27) 72 78 (.agg #[.int .u64 0, .int .u64 0, .slice none 0 0]) 40 rfl Try.underlying72 info78 rfl (by decide) (by decide) (.slice A xs.length c) xs l A3 l.length c3 ok okp rfl rfl p1 p2 p3 p4 (Below.refl _ _) (Nat.zero_le _) (by have := HF.out; omega) ?_; intro v1 w5 hN _ hg _; simp only [HZ.out] at hN p5; obtain ⟨A5, c5, e5⟩ := Kd.N_slice hN; subst e5; have S6 := p5 _ _ hN hg; clear p1 p2 p3 p4 p5 hN hg S5 z0 z1 z2 fz0 fz1 fz2; have z0 : w5.cell? ⟨g, 0, none⟩ = some (.int .u64 a) := (blk_cell (S6.blk 1 rfl) 0).trans rfl; have fz0 : w5.frozen? ⟨g, 0, none⟩ = false := blk_frozen (S6.blk 1 rfl) 0; have z1 : w5.cell? ⟨g, 1, none⟩ = some (.int .u64 b) := (blk_cell (S6.blk 1 rfl) 1).trans rfl; have fz1 : w5.frozen? ⟨g, 1, none⟩ = false := blk_frozen (S6.blk 1 rfl) 1; have z2 : w5.cell? ⟨g, 2, none⟩ = some (.slice A xs.length c) := (blk_cell (S6.blk 1 rfl) 2).trans rfl; have fz2 : w5.frozen? ⟨g, 2, none⟩ = false := blk_frozen (S6.blk 1 rfl) 2))
  all_goals
    go_wp2
    go_ret
    exact ⟨rfl, St.chShut HZR.out ((S6.front 1 rfl).put 2 (.slice A5 zs.length c5) rfl)⟩
theorem Row.drop {ix : Int} {xs : List SE} (h : Row ix xs) {i : Int} (h0 : ix ≤ i) (h1 : i ≤ ix + xs.length) : Row i (xs.drop (i - ix).toNat) :=
  ⟨fun j x hx => (by rw [List.getElem?_drop] at hx; have := h.at_ _ x hx; omega), by have := h.lo; omega, (by have := h.hi; rw [List.length_drop]; omega), (by have := h.few; rw [List.length_drop]; omega), fun x hx => h.small x (List.mem_of_mem_drop hx)⟩
set_option maxHeartbeats 8000000 in
set_option maxRecDepth 100000 in
theorem chain_raise_stay (W : World) (F : Nat → Prop) (g : Nat) (a b : Int) (xs : List SE) (h : ChP g a b xs W F) (i t : Int) (hi : 0 ≤ i ∧ i < 18446744073709551616) (ht : termF a b xs i = (t, true)) :
    Calls Try.prog 39 #[.pointer (some ⟨g, 0, none⟩), .int .u64 i, .int .u64 t] W fun e w' => e = .returned (.bool true) ∧ St W F w' [ChP g i t (xs.drop (i - a).toNat)] := by
  have hu := Try.underlying121
  have S0 := St.start1 ChP.loc h
  have HCH := Aside0.mk h.now
  obtain ⟨hr, A, c, S1⟩ := S0.chOpen
  have HR := Aside0.mk hr
  have HI := Aside0.mk hi
  have HT := Aside0.mk ht
  have hlo := hr.lo
  have hin : a ≤ i ∧ i ≤ a + xs.length := by
    unfold termF at ht
    by_cases c1 : i = a
    · omega
    · rw [if_neg c1] at ht
      by_cases c2 : hasE a xs i
      · unfold hasE at c2; omega
      · rw [if_neg c2] at ht; injection ht with _ h2; cases h2
  have HRW : Aside0 (Row i (xs.drop (i - a).toNat)) := ⟨hr.drop hin.1 hin.2⟩
  obtain ⟨n, hn⟩ : ∃ n : Int, i - a = n := ⟨_, rfl⟩
  have hw2 : IntKind.u64.wrap (i - a) = n := by rw [IntKind.wrap_u64]; omega
  have HN : Aside0 (0 ≤ n ∧ n ≤ xs.length) := ⟨by omega⟩
  rw [hn] at HRW ⊢
  obtain ⟨ys, hys⟩ : ∃ ys, xs.drop n.toNat = ys := ⟨_, rfl⟩
  rw [hys] at HRW ⊢
  have HYS := Aside0.mk hys
  clear h S0 hi ht hr hlo hin hn hys
  have tt : (t == t) = true := by simp
  go_enter Try.func39, Try.ntmps39
  go_wp2_with (go_at_call 46; refine (chain_term _ g a b xs HCH.out i HI.out t true HT.out).mono ?_; rintro e w1 ⟨rfl, hb⟩; have S2 := S1.call hb; clear S1 hb; have z0 : w1.cell? ⟨g, 0, none⟩ = some (.int .u64 a) := (blk_cell (S2.blk 0 rfl) 0).trans rfl; have fz0 : w1.frozen? ⟨g, 0, none⟩ = false := blk_frozen (S2.blk 0 rfl) 0; have z1 : w1.cell? ⟨g, 1, none⟩ = some (.int .u64 b) := (blk_cell (S2.blk 0 rfl) 1).trans rfl; have fz1 : w1.frozen? ⟨g, 1, none⟩ = false := blk_frozen (S2.blk 0 rfl) 1; have z2 : w1.cell? ⟨g, 2, none⟩ = some (.slice A xs.length c) := (blk_cell (S2.blk 0 rfl) 2).trans rfl; have fz2 : w1.frozen? ⟨g, 2, none⟩ = false := blk_frozen (S2.blk 0 rfl) 2)
  have hlc := (S2.nrd 1 rfl).2.1
  have hyl : ys.length = xs.length - n.toNat := by rw [← HYS.out, List.length_drop]
  obtain ⟨A', hA'⟩ : ∃ A', (if c = n.toNat then A else A.map (·.add (n.toNat * 3))) = A' := ⟨_, rfl⟩
  have hcut : ∀ W : World, (Instr.slice 72 (.slice A xs.length c) (some (.int .u64 n)) none none).run Try.prog W = .ok (.slice A' ys.length (c - n.toNat)) W := fun W => by
    rw [cut_l' 72 78 .u64 3 Try.underlying72 (by kernel_rfl) A xs.length c n HN.out.1 (by have := HN.out; omega) W, hyl, hA']
  have HCC : Aside0 (∀ W', Below w1.heap.size w1 W' → KE.C W' A' ys.length ys) := ⟨fun W' hb => by
    have := C_cut (l := n.toNat) (h := xs.length) (S2.nrd 1 rfl).2.2 hlc (by have := HN.out; omega) (Nat.le_refl _)
    rw [List.take_of_length_le (Nat.le_refl _), HYS.out, hA'] at this
    exact Kd.C_below this hb⟩
  have HLC : Aside0 (ys.length ≤ c - n.toNat) := ⟨by have := HN.out; omega⟩
  clear hlc hyl hA'
  go_region_with (first | (go_at_call 66; refine Calls.named ?_; intro w2 hw2; have hB2 : Below w1.heap.size w1 w2 := (by rw [hw2]; repeat (first | exact Below.refl _ _ | apply below_drew1)); have S3 := S2.call hB2; clear hw2; (with_reducible refine (chain_copied.calls A' (c - n.toNat) ys w2 (HCC.out _ hB2) HLC.out HRW.out.few HRW.out.small).mono ?_); rintro e w3 ⟨v, rfl, hR, hb⟩; obtain ⟨A3, c3, e3⟩ := Kd.R_slice hR; subst e3; have S4 := S3.row hb hR; clear S3 hb hR hB2 z0 z1 z2 fz0 fz1 fz2; have z0 : w3.cell? ⟨g, 0, none⟩ = some (.int .u64 a) := (blk_cell (S4.blk 1 rfl) 0).trans rfl; have fz0 : w3.frozen? ⟨g, 0, none⟩ = false := blk_frozen (S4.blk 1 rfl) 0; have z1 : w3.cell? ⟨g, 1, none⟩ = some (.int .u64 b) := (blk_cell (S4.blk 1 rfl) 1).trans rfl; have fz1 : w3.frozen? ⟨g, 1, none⟩ = false := blk_frozen (S4.blk 1 rfl) 1; have z2 : w3.cell? ⟨g, 2, none⟩ = some (.slice A xs.length c) := (blk_cell (S4.blk 1 rfl) 2).trans rfl; have fz2 : w3.frozen? ⟨g, 2, none⟩ = false := blk_frozen (S4.blk 1 rfl) 2))
  all_goals
    go_wp2
    go_ret
    exact ⟨rfl, (St.chShut HRW.out ((((((S4.front 1 rfl).put 0 (.int .u64 i) rfl).put 1 (.int .u64 t) rfl).put 2 (.slice A3 ys.length c3) rfl).front 1 rfl).rw_nw.front 1 rfl)).take 1⟩
set_option maxHeartbeats 8000000 in
set_option maxRecDepth 100000 in
theorem chain_raise_not (W : World) (F : Nat → Prop) (g : Nat) (a b : Int) (xs : List SE) (h : ChP g a b xs W F) (i t r : Int) (bo : Bool) (hi : 0 ≤ i ∧ i < 18446744073709551616) (ht : termF a b xs i = (r, bo)) (hne : (bo && (r == t)) = false) :
    Calls Try.prog 39 #[.pointer (some ⟨g, 0, none⟩), .int .u64 i, .int .u64 t] W fun e w' => e = .returned (.bool false) ∧ St W F w' [ChP g i t []] := by
  have hu := Try.underlying121
  have S0 := St.start1 ChP.loc h
  have HCH := Aside0.mk h.now
  obtain ⟨hr, A, c, S1⟩ := S0.chOpen
  have HI := Aside0.mk hi
  have HT := Aside0.mk ht
  have HRW : Aside0 (Row i []) := ⟨⟨fun j x hx => by simp at hx, hi.1, by simp; exact hi.2, by simp, fun x hx => by simp at hx⟩⟩
  clear h S0 hi ht hr
  cases bo with
  | false =>
    clear hne
    go_enter Try.func39, Try.ntmps39
    go_wp2_with (go_at_call 46; refine (chain_term _ g a b xs HCH.out i HI.out r false HT.out).mono ?_; rintro e w1 ⟨rfl, hb⟩; have S2 := S1.call hb; clear S1 hb; have z0 : w1.cell? ⟨g, 0, none⟩ = some (.int .u64 a) := (blk_cell (S2.blk 0 rfl) 0).trans rfl; have fz0 : w1.frozen? ⟨g, 0, none⟩ = false := blk_frozen (S2.blk 0 rfl) 0; have z1 : w1.cell? ⟨g, 1, none⟩ = some (.int .u64 b) := (blk_cell (S2.blk 0 rfl) 1).trans rfl; have fz1 : w1.frozen? ⟨g, 1, none⟩ = false := blk_frozen (S2.blk 0 rfl) 1; have z2 : w1.cell? ⟨g, 2, none⟩ = some (.slice A xs.length c) := (blk_cell (S2.blk 0 rfl) 2).trans rfl; have fz2 : w1.frozen? ⟨g, 2, none⟩ = false := blk_frozen (S2.blk 0 rfl) 2)
    go_ret
    exact ⟨rfl, (St.chShut (A := none) (c := 0) HRW.out ((((((S2.put 0 (.int .u64 i) rfl).put 1 (.int .u64 t) rfl).put 2 (.slice none 0 0) rfl).front 1 rfl).imp Nw.loc (A' := Nw KE 78 (.slice none 0 0) []) (fun F _ => Kd.N_nil _ _ _ _ _)).front 1 rfl)).take 1⟩
  | true =>
    have tt : (r == t) = false := by simpa using hne
    clear hne
    go_enter Try.func39, Try.ntmps39
    go_wp2_with (go_at_call 46; refine (chain_term _ g a b xs HCH.out i HI.out r true HT.out).mono ?_; rintro e w1 ⟨rfl, hb⟩; have S2 := S1.call hb; clear S1 hb; have z0 : w1.cell? ⟨g, 0, none⟩ = some (.int .u64 a) := (blk_cell (S2.blk 0 rfl) 0).trans rfl; have fz0 : w1.frozen? ⟨g, 0, none⟩ = false := blk_frozen (S2.blk 0 rfl) 0; have z1 : w1.cell? ⟨g, 1, none⟩ = some (.int .u64 b) := (blk_cell (S2.blk 0 rfl) 1).trans rfl; have fz1 : w1.frozen? ⟨g, 1, none⟩ = false := blk_frozen (S2.blk 0 rfl) 1; have z2 : w1.cell? ⟨g, 2, none⟩ = some (.slice A xs.length c) := (blk_cell (S2.blk 0 rfl) 2).trans rfl; have fz2 : w1.frozen? ⟨g, 2, none⟩ = false := blk_frozen (S2.blk 0 rfl) 2)
    go_ret
    exact ⟨rfl, (St.chShut (A := none) (c := 0) HRW.out ((((((S2.put 0 (.int .u64 i) rfl).put 1 (.int .u64 t) rfl).put 2 (.slice none 0 0) rfl).front 1 rfl).imp Nw.loc (A' := Nw KE 78 (.slice none 0 0) []) (fun F _ => Kd.N_nil _ _ _ _ _)).front 1 rfl)).take 1⟩
set_option maxHeartbeats 8000000 in
set_option maxRecDepth 100000 in
theorem chain_join1 (W : World) (g : Nat) (ix tm : Int) (xs : List SE) (h : Ch W g ix tm xs) (i t : Int) (hi : 0 ≤ i ∧ i < 18446744073709551616) (A0 : Option Addr) (c0 : Nat) (l0 : List SE) (hC0 : KE.C W A0 l0.length l0) (hc0 : l0.length ≤ c0) (hl0 : l0.length ≤ 100000) (hsm0 : ∀ x ∈ l0, x.f2.length ≤ 1000000) (hrg0 : ∀ x ∈ l0, 0 ≤ x.f0 ∧ x.f0 < 18446744073709551616)
    (k : Nat) (hst0 : chain_stands.f k i t l0 = some true) (hlt : i < ix) (b2 : Bool) (hst : chain_stands.f k ix tm (l0.drop (ix - i).toNat) = some b2) (r : Int × List SE × Bool) (hr : (if b2 = false then (0, [], false) else scanF ix tm xs (l0.drop (ix - i).toNat)) = r) :
    Calls Try.prog 31 #[.pointer (some ⟨g, 0, none⟩), .int .u64 i, .int .u64 t, .slice A0 l0.length c0] W fun e w' => ∃ v, e = .returned (.tuple #[.int .u64 r.1, v, .bool r.2.2]) ∧ KE.R 78 w' W.heap.size (fun _ => True) v r.2.1 ∧ Below W.heap.size W w' := by
  have hu := Try.underlying121
  have hu2 := Try.underlying78
  have H := Aside0.mk h
  have hrow := h.row
  have hlo := hrow.lo
  have hhi := hrow.hi
  obtain ⟨m, hm⟩ : ∃ m : Int, mn (l0.length : Int) (ix - i) = m := ⟨_, rfl⟩
  have hm' : m = if ix - i < (l0.length : Int) then ix - i else (l0.length : Int) := by rw [← hm]; rfl
  have hmb : 0 ≤ m ∧ m ≤ l0.length := by rw [hm']; split <;> omega
  have hdm : l0.drop (ix - i).toNat = l0.drop m.toNat := by
    rw [hm']
    split
    · rfl
    · rw [List.drop_of_length_le (by omega), List.drop_of_length_le (by omega)]
  rw [hdm] at hst hr
  obtain ⟨A, hA⟩ : ∃ A, (if c0 = m.toNat then A0 else A0.map (·.add (m.toNat * 3))) = A := ⟨_, rfl⟩
  obtain ⟨c, hcE⟩ : ∃ c, c0 - m.toNat = c := ⟨_, rfl⟩
  obtain ⟨l, hlE⟩ : ∃ l, l0.drop m.toNat = l := ⟨_, rfl⟩
  have hll : l.length = l0.length - m.toNat := by rw [← hlE, List.length_drop]
  have hC : KE.C W A l.length l := by
    have := Kd.C_drop (m := m.toNat) (c := c0) hC0 (by omega) hc0
    rw [← hlE, ← hA]
    exact this
  have hc : l.length ≤ c := by omega
  have hl : l.length ≤ 100000 := by omega
  have hsm : ∀ x ∈ l, x.f2.length ≤ 1000000 := fun x hx => hsm0 x (by rw [← hlE] at hx; exact List.mem_of_mem_drop hx)
  have hrg : ∀ x ∈ l, 0 ≤ x.f0 ∧ x.f0 < 18446744073709551616 := fun x hx => hrg0 x (by rw [← hlE] at hx; exact List.mem_of_mem_drop hx)
  rw [hlE] at hst hr
  have hcut0 : ∀ W : World, (Instr.slice 72 (.slice A0 l0.length c0) (some (.int .u64 m)) none none).run Try.prog W = .ok (.slice A l.length c) W := fun W => by
    rw [cut_l' 72 78 .u64 3 Try.underlying72 (by kernel_rfl) A0 l0.length c0 m hmb.1 hmb.2 W, hA, hcE, hll]
  have hw1 : IntKind.u64.wrap (l0.length : Int) = (l0.length : Int) := by rw [IntKind.wrap_u64]; omega
  have hw2 : IntKind.u64.wrap (ix - i) = ix - i := by rw [IntKind.wrap_u64]; omega
  have hmn : (if ix - i < (l0.length : Int) then ix - i else (l0.length : Int)) = m := hm'.symm
  have HL := Aside0.mk hl
  have HSM := Aside0.mk hsm
  have HRG := Aside0.mk hrg
  have HCc := Aside0.mk hc
  have HC := Aside0.mk hC
  have HST0 : Aside0 (∀ W', Below W.heap.size W W' → Calls Try.prog 64 #[.int .u64 i, .int .u64 t, .slice A0 l0.length c0] W' fun e w' => e = .returned (.bool true) ∧ Below W'.heap.size W' w') := ⟨fun W' hb => chain_stands.calls k i t A0 c0 l0 true W' (Kd.C_below hC0 hb) hc0 hst0⟩
  have HST : Aside0 (∀ W', Below W.heap.size W W' → Calls Try.prog 64 #[.int .u64 ix, .int .u64 tm, .slice A l.length c] W' fun e w' => e = .returned (.bool b2) ∧ Below W'.heap.size W' w') := ⟨fun W' hb => chain_stands.calls k ix tm A c l b2 W' (Kd.C_below hC hb) hc hst⟩
  have HT : Aside0 (∀ W', Below W.heap.size W W' → Calls Try.prog 46 #[.pointer (some ⟨g, 0, none⟩), .int .u64 ix] W' fun e w' => e = .returned (.tuple #[.int .u64 tm, .bool true]) ∧ Below W'.heap.size W' w') := ⟨fun W' hb => chain_term W' g ix tm xs (h.below hb) ix ⟨by omega, by omega⟩ tm true (by unfold termF; rw [if_pos rfl])⟩
  have d1 : decide (i < ix) = true := decide_eq_true hlt
  have dq : (tm == tm) = true := by simp
  have dq' : (tm != tm) = false := by simp
  clear h hrow hlo hhi hm hm' hmb hdm hA hcE hlE hll hC0 hc0 hl0 hsm0 hrg0 hst0 hlt hl hsm hrg hc hC hst hi
  cases b2 with
  | false =>
    rw [if_pos rfl] at hr
    subst hr
    go_enter Try.func31, Try.ntmps31
    go_wp2_with (first
      | ((with_reducible refine gate_dst (N := 4) rfl ?_); refine box_event ?hg (N := 4) ?hd (cs := #[.pointer (some ⟨g, 0, none⟩)]) (t := 61) ?hr ?_; (case hd => rfl); (case hg => rfl); (case hr => first | (go_simp; done) | (go_simp; rfl)); intro gB hgB w1 hbB hb; have BB := Aside0.mk hbB; have HB1 := Aside0.mk hb; have zB : w1.cell? ⟨gB, 0, none⟩ = some (.pointer (some ⟨g, 0, none⟩)) := (blk_cell hbB 0).trans rfl; clear hbB hgB hb)
      | (go_at_call 64; refine (HST0.out w1 HB1.out).mono ?_; rintro e w2 ⟨rfl, hb⟩; have HB2 := Aside0.mk (below_step HB1.out hb); have BB2 := Aside0.mk (blk_below BB.out hb); have zB2 : w2.cell? ⟨gB, 0, none⟩ = some (.pointer (some ⟨g, 0, none⟩)) := (blk_cell BB2.out 0).trans rfl; obtain ⟨Ac, cc, z0, z1, _, _, _⟩ := (H.out.below HB2.out).blk; clear hb zB))
    go_quiet (fail)
    go_wp2_with fail
    refine Calls.named ?_
    intro w3 hw3
    have HB3 : Aside0 (Below W.heap.size W w3) := ⟨by rw [hw3]; exact pw_below_drewN HB2.out _⟩
    have BB3 : Aside0 (w3.heap[gB]? = some (.cells #[.pointer (some ⟨g, 0, none⟩)] 61 (0, 0))) := ⟨by rw [hw3]; exact BB2.out⟩
    clear hw3 HB2 BB2 zB2 z0 z1
    have zB3 : w3.cell? ⟨gB, 0, none⟩ = some (.pointer (some ⟨g, 0, none⟩)) := (blk_cell BB3.out 0).trans rfl
    refine (HT.out _ HB3.out).mono ?_
    rintro e w3b ⟨rfl, hb⟩
    have HB3b := Aside0.mk (below_step HB3.out hb)
    have BB3b := Aside0.mk (blk_below BB3.out hb)
    clear hb zB3
    go_wp2_with (first
      | (go_at_call 64; refine (HST.out w3b HB3b.out).mono ?_; rintro e w4 ⟨rfl, hb⟩; have HB4 := Aside0.mk (below_step HB3b.out hb); have BB4 := Aside0.mk (blk_below BB3b.out hb); have zB4 : w4.cell? ⟨gB, 0, none⟩ = some (.pointer (some ⟨g, 0, none⟩)) := (blk_cell BB4.out 0).trans rfl; clear hb))
    go_ret3
    exact ⟨_, rfl, Kd.R_nil _ _ _ _ _, HB4.out⟩
  | true =>
    rw [if_neg (fun h => Bool.noConfusion h)] at hr
    go_enter Try.func31, Try.ntmps31
    go_wp2_with (first
      | ((with_reducible refine gate_dst (N := 4) rfl ?_); refine box_event ?hg (N := 4) ?hd (cs := #[.pointer (some ⟨g, 0, none⟩)]) (t := 61) ?hr ?_; (case hd => rfl); (case hg => rfl); (case hr => first | (go_simp; done) | (go_simp; rfl)); intro gB hgB w1 hbB hb; have BB := Aside0.mk hbB; have HB1 := Aside0.mk hb; have zB : w1.cell? ⟨gB, 0, none⟩ = some (.pointer (some ⟨g, 0, none⟩)) := (blk_cell hbB 0).trans rfl; clear hbB hgB hb)
      | (go_at_call 64; refine (HST0.out w1 HB1.out).mono ?_; rintro e w2 ⟨rfl, hb⟩; have HB2 := Aside0.mk (below_step HB1.out hb); have BB2 := Aside0.mk (blk_below BB.out hb); have zB2 : w2.cell? ⟨gB, 0, none⟩ = some (.pointer (some ⟨g, 0, none⟩)) := (blk_cell BB2.out 0).trans rfl; obtain ⟨Ac, cc, z0, z1, _, _, _⟩ := (H.out.below HB2.out).blk; clear hb zB))
    go_quiet (fail)
    go_wp2_with fail
    refine Calls.named ?_
    intro w3 hw3
    have HB3 : Aside0 (Below W.heap.size W w3) := ⟨by rw [hw3]; exact pw_below_drewN HB2.out _⟩
    have BB3 : Aside0 (w3.heap[gB]? = some (.cells #[.pointer (some ⟨g, 0, none⟩)] 61 (0, 0))) := ⟨by rw [hw3]; exact BB2.out⟩
    clear hw3 HB2 BB2 zB2 z0 z1
    have zB3 : w3.cell? ⟨gB, 0, none⟩ = some (.pointer (some ⟨g, 0, none⟩)) := (blk_cell BB3.out 0).trans rfl
    refine (HT.out _ HB3.out).mono ?_
    rintro e w3b ⟨rfl, hb⟩
    have HB3b := Aside0.mk (below_step HB3.out hb)
    have BB3b := Aside0.mk (blk_below BB3.out hb)
    clear hb zB3
    go_wp2_with (first
      | (go_at_call 64; refine (HST.out w3b HB3b.out).mono ?_; rintro e w4 ⟨rfl, hb⟩; have HB4 := Aside0.mk (below_step HB3b.out hb); have BB4 := Aside0.mk (blk_below BB3b.out hb); have zB4 : w4.cell? ⟨gB, 0, none⟩ = some (.pointer (some ⟨g, 0, none⟩)) := (blk_cell BB4.out 0).trans rfl; clear hb))
    go_loopg [76] l.length (fun kq v76 wr => ∃ j : Int, v76 = .int .i64 j ∧ Aside0 (0 ≤ j ∧ j + kq = l.length) ∧ Aside0 (scanF ix tm xs (l.drop j.toNat) = r) ∧ Aside0 (wr.heap[gB]? = some (.cells #[.pointer (some ⟨g, 0, none⟩)] 61 (0, 0))) ∧ Aside0 (Below W.heap.size W wr))
    case atStart => exact ⟨0, rfl, ⟨by omega⟩, ⟨hr⟩, BB4, HB4⟩
    case round =>
      clear hr zB4 HB1 HB3 HB3b HB4 BB BB3 BB3b BB4
      obtain ⟨j, rfl, HJ, HSC, BB, HB⟩ := hrel
      by_cases hlt : j < (l.length : Int)
      · have hd : decide (j < (l.length : Int)) = true := decide_eq_true hlt
        have hj0 : 0 ≤ j := HJ.out.1
        have HLT := Aside0.mk hlt
        obtain ⟨x, hx⟩ : ∃ x, rd_T78 l j = x := ⟨_, rfl⟩
        have hmem : x ∈ l := by rw [← hx]; exact List.mem_of_getElem? (rd_some hj0 hlt)
        have HRX := Aside0.mk (HRG.out x hmem)
        obtain ⟨ad, A2, c2, e1, x0, x1, x2, hl2, hC2⟩ := at_T78 HC.out j hj0 hlt
        rw [hx] at x0 x1 x2 hl2 hC2
        replace x0 := (HB.out.cell (World.block_lt_of_cell? W _ x0)).trans x0
        replace x1 := (HB.out.cell (World.block_lt_of_cell? W _ x1)).trans x1
        replace x2 := (HB.out.cell (World.block_lt_of_cell? W _ x2)).trans x2
        have hdr := drop_at hj0 hlt
        rw [hx] at hdr
        have hsc := HSC.out
        rw [hdr, scanF] at hsc
        obtain ⟨q2, b2, hq2⟩ : ∃ q b, termF ix tm xs x.f0 = (q, b) := ⟨_, _, rfl⟩
        obtain ⟨s2, hs2⟩ : ∃ s2, (q2 == x.f1) = s2 := ⟨_, rfl⟩
        rw [hq2] at hsc
        simp only [hs2] at hsc
        have HK : Aside0 (∀ W', Below W.heap.size W W' → W'.heap[gB]? = some (.cells #[.pointer (some ⟨g, 0, none⟩)] 61 (0, 0)) → Calls Try.prog 65 #[.agg #[.int .u64 x.f0, .int .u64 x.f1, .slice A2 x.f2.length c2], .pointer (some ⟨gB, 0, none⟩)] W' fun e w' => e = .returned (.tuple #[.bool b2, .bool s2]) ∧ Below W'.heap.size W' w') := ⟨fun W' hb hB => chain_known W' g ix tm xs (H.out.below hb) gB ((blk_cell hB 0).trans rfl) x.f0 x.f1 A2 x.f2.length c2 HRX.out q2 b2 hq2 s2 hs2⟩
        obtain ⟨A', hA'⟩ : ∃ A', (if c = j.toNat then A else A.map (·.add (j.toNat * 3))) = A' := ⟨_, rfl⟩
        obtain ⟨ys, hys⟩ : ∃ ys, l.drop j.toNat = ys := ⟨_, rfl⟩
        subst e1
        have HY : Aside0 (ys.length = l.length - j.toNat ∧ (∀ x ∈ ys, x.f2.length ≤ 1000000) ∧ ys.length ≤ 100000 ∧ ys.length ≤ c - j.toNat ∧ KE.C W A' ys.length ys) := ⟨by
          have := HL.out; have := HCc.out
          rw [← hys, ← hA', List.length_drop]
          refine ⟨rfl, fun x hx => HSM.out x (List.mem_of_mem_drop hx), by omega, by omega, ?_⟩
          have h9 := Kd.C_drop (m := j.toNat) (c := c) HC.out (by omega) HCc.out
          rw [List.length_drop] at h9
          exact h9⟩
        have hcut : ∀ W : World, (Instr.slice 72 (.slice (some ad) l.length c) (some (.int .i64 j)) none none).run Try.prog W = .ok (.slice A' ys.length (c - j.toNat)) W := fun W => by rw [cut_lo3 72 78 3 Try.underlying72 (by kernel_rfl) (some ad) l.length c j HJ.out.1 (by have := HLT.out; omega) W, hA', HY.out.1]
        rw [← hdr, hys] at hsc
        have HSC2 := Aside0.mk hsc
        have p1 := eq_true hj0
        have p2 := eq_true hlt
        have HNXT : Aside0 (l.drop (j.toNat + 1) = ys.tail) := ⟨by rw [← hys, hdr]; rfl⟩
        clear hlt hj0 hx hmem hl2 hC2 hdr hsc hq2 hs2 hA' hys
        cases b2 with
        | false =>
          have hsc := HSC2.out
          rw [if_pos rfl] at hsc
          subst hsc
          go_wp2_with (first
            | ((with_reducible refine gate_dst (N := 15) rfl ?_); refine box_event ?hg (N := 15) ?hd (cs := #[.int .u64 0, .int .u64 0, .slice none 0 0]) (t := 78) ?hr ?_; (case hd => rfl); (case hg => rfl); (case hr => first | (go_simp; done) | (go_simp; rfl)); intro gX hgX w5 hbX hb; have BX := Aside0.mk hbX; have GX : Aside0 (W.heap.size ≤ gX) := ⟨by rw [hgX]; exact below_size HB.out⟩; have HB5 := Aside0.mk (below_step HB.out hb); have NX : Aside0 (gB ≠ gX) := ⟨by have := blk_lt BB.out; rw [hgX]; omega⟩; have BB5 := Aside0.mk (blk_below BB.out hb); have f0 := blk_frozen hbX 0; have f1 := blk_frozen hbX 1; have f2 := blk_frozen hbX 2; have y0 : w5.cell? ⟨gX, 0, none⟩ = some (.int .u64 0) := (blk_cell hbX 0).trans rfl; have y1 : w5.cell? ⟨gX, 1, none⟩ = some (.int .u64 0) := (blk_cell hbX 1).trans rfl; have y2 : w5.cell? ⟨gX, 2, none⟩ = some (.slice none 0 0) := (blk_cell hbX 2).trans rfl; clear hbX hgX hb)
            | (go_at_call 65; refine (HK.out _ (below_set (below_set (below_set HB5.out GX.out) GX.out) GX.out) (blk_far (blk_far (blk_far BB5.out NX.out _) NX.out _) NX.out _)).mono ?_; rintro e w6 ⟨rfl, hb⟩; have HB6 := Aside0.mk (below_step (below_set (below_set (below_set HB5.out GX.out) GX.out) GX.out) hb); have BB6 := Aside0.mk (blk_below (blk_far (blk_far (blk_far BB5.out NX.out _) NX.out _) NX.out _) hb); have BX6 : Aside0 (w6.heap[gX]? = some (.cells #[.int .u64 x.f0, .int .u64 x.f1, .slice A2 x.f2.length c2] 78 (0, 0))) := ⟨blk_below (blk_put (blk_put (blk_put BX.out 0 _ rfl) 1 _ rfl) 2 _ rfl) hb⟩; have u0 : w6.cell? ⟨gX, 0, none⟩ = some (.int .u64 x.f0) := (blk_cell BX6.out 0).trans rfl; clear hb f0 f1 f2 y0 y1 y2)
            | (go_at_call 66; refine (chain_copied.calls A' (c - j.toNat) ys w6 (Kd.C_below HY.out.2.2.2.2 HB6.out) HY.out.2.2.2.1 HY.out.2.2.1 HY.out.2.1).mono ?_; rintro e w7 ⟨v, rfl, hR, hb⟩; have HB7 := Aside0.mk (below_step HB6.out hb); have HR7 := Aside0.mk (Kd.R_lower hR (below_size HB6.out)); clear hR hb))
          go_ret3
          exact ⟨_, rfl, HR7.out, HB7.out⟩
        | true =>
          have hsc := HSC2.out
          rw [if_neg (fun h => Bool.noConfusion h)] at hsc
          cases s2 with
          | false =>
            rw [if_pos rfl] at hsc
            subst hsc
            go_wp2_with (first
              | ((with_reducible refine gate_dst (N := 15) rfl ?_); refine box_event ?hg (N := 15) ?hd (cs := #[.int .u64 0, .int .u64 0, .slice none 0 0]) (t := 78) ?hr ?_; (case hd => rfl); (case hg => rfl); (case hr => first | (go_simp; done) | (go_simp; rfl)); intro gX hgX w5 hbX hb; have BX := Aside0.mk hbX; have GX : Aside0 (W.heap.size ≤ gX) := ⟨by rw [hgX]; exact below_size HB.out⟩; have HB5 := Aside0.mk (below_step HB.out hb); have NX : Aside0 (gB ≠ gX) := ⟨by have := blk_lt BB.out; rw [hgX]; omega⟩; have BB5 := Aside0.mk (blk_below BB.out hb); have f0 := blk_frozen hbX 0; have f1 := blk_frozen hbX 1; have f2 := blk_frozen hbX 2; have y0 : w5.cell? ⟨gX, 0, none⟩ = some (.int .u64 0) := (blk_cell hbX 0).trans rfl; have y1 : w5.cell? ⟨gX, 1, none⟩ = some (.int .u64 0) := (blk_cell hbX 1).trans rfl; have y2 : w5.cell? ⟨gX, 2, none⟩ = some (.slice none 0 0) := (blk_cell hbX 2).trans rfl; clear hbX hgX hb)
              | (go_at_call 65; refine (HK.out _ (below_set (below_set (below_set HB5.out GX.out) GX.out) GX.out) (blk_far (blk_far (blk_far BB5.out NX.out _) NX.out _) NX.out _)).mono ?_; rintro e w6 ⟨rfl, hb⟩; have HB6 := Aside0.mk (below_step (below_set (below_set (below_set HB5.out GX.out) GX.out) GX.out) hb); have BB6 := Aside0.mk (blk_below (blk_far (blk_far (blk_far BB5.out NX.out _) NX.out _) NX.out _) hb); have BX6 : Aside0 (w6.heap[gX]? = some (.cells #[.int .u64 x.f0, .int .u64 x.f1, .slice A2 x.f2.length c2] 78 (0, 0))) := ⟨blk_below (blk_put (blk_put (blk_put BX.out 0 _ rfl) 1 _ rfl) 2 _ rfl) hb⟩; have u0 : w6.cell? ⟨gX, 0, none⟩ = some (.int .u64 x.f0) := (blk_cell BX6.out 0).trans rfl; clear hb f0 f1 f2 y0 y1 y2))
            have U0 := Aside0.mk u0
            go_region_held3 (fun w' => w'.cell? ⟨gX, 0, none⟩ = some (.int .u64 x.f0)) (first | exact Y5 | go_keep) (first | (go_at_call 66; (with_reducible refine (chain_copied.calls A' (c - j.toNat) ys w6.drew (show KE.C w6.drew A' ys.length ys from Kd.C_below HY.out.2.2.2.2 (below_drew1 HB6.out)) HY.out.2.2.2.1 HY.out.2.2.1 HY.out.2.1).mono ?_); rintro e w7 ⟨v, rfl, hR, hb⟩; have HB7 := Aside0.mk (below_step (below_drew1 HB6.out) hb); have HR7 := Aside0.mk (Kd.R_lower hR (below_size (below_drew1 HB6.out))); have Y5 : w7.cell? ⟨gX, 0, none⟩ = some (.int .u64 x.f0) := (hb.cell (World.block_lt_of_cell? _ _ U0.out)).trans U0.out; clear hR hb))
            go_wp2
            go_ret3
            exact ⟨_, rfl, HR7.out, HB7.out⟩
          | true =>
            rw [if_neg (fun h => Bool.noConfusion h)] at hsc
            have HSC3 := Aside0.mk hsc
            clear hsc
            go_wp2_with (first
              | ((with_reducible refine gate_dst (N := 15) rfl ?_); refine box_event ?hg (N := 15) ?hd (cs := #[.int .u64 0, .int .u64 0, .slice none 0 0]) (t := 78) ?hr ?_; (case hd => rfl); (case hg => rfl); (case hr => first | (go_simp; done) | (go_simp; rfl)); intro gX hgX w5 hbX hb; have BX := Aside0.mk hbX; have GX : Aside0 (W.heap.size ≤ gX) := ⟨by rw [hgX]; exact below_size HB.out⟩; have HB5 := Aside0.mk (below_step HB.out hb); have NX : Aside0 (gB ≠ gX) := ⟨by have := blk_lt BB.out; rw [hgX]; omega⟩; have BB5 := Aside0.mk (blk_below BB.out hb); have f0 := blk_frozen hbX 0; have f1 := blk_frozen hbX 1; have f2 := blk_frozen hbX 2; have y0 : w5.cell? ⟨gX, 0, none⟩ = some (.int .u64 0) := (blk_cell hbX 0).trans rfl; have y1 : w5.cell? ⟨gX, 1, none⟩ = some (.int .u64 0) := (blk_cell hbX 1).trans rfl; have y2 : w5.cell? ⟨gX, 2, none⟩ = some (.slice none 0 0) := (blk_cell hbX 2).trans rfl; clear hbX hgX hb)
              | (go_at_call 65; refine (HK.out _ (below_set (below_set (below_set HB5.out GX.out) GX.out) GX.out) (blk_far (blk_far (blk_far BB5.out NX.out _) NX.out _) NX.out _)).mono ?_; rintro e w6 ⟨rfl, hb⟩; have HB6 := Aside0.mk (below_step (below_set (below_set (below_set HB5.out GX.out) GX.out) GX.out) hb); have BB6 := Aside0.mk (blk_below (blk_far (blk_far (blk_far BB5.out NX.out _) NX.out _) NX.out _) hb); have BX6 : Aside0 (w6.heap[gX]? = some (.cells #[.int .u64 x.f0, .int .u64 x.f1, .slice A2 x.f2.length c2] 78 (0, 0))) := ⟨blk_below (blk_put (blk_put (blk_put BX.out 0 _ rfl) 1 _ rfl) 2 _ rfl) hb⟩; have u0 : w6.cell? ⟨gX, 0, none⟩ = some (.int .u64 x.f0) := (blk_cell BX6.out 0).trans rfl; clear hb f0 f1 f2 y0 y1 y2))
            go_roundg (gk - 1)
            case measure => have := HJ.out; have := HLT.out; omega
            case rel =>
              have hw : wrap64 (j + 1) = j + 1 := by have := HL.out; have := HJ.out; have := HLT.out; unfold wrap64; omega
              refine ⟨wrap64 (j + 1), by first | rfl | (simp; done), ⟨by have := HJ.out; have := HLT.out; omega⟩, ⟨?_⟩, BB6, HB6⟩
              rw [hw, show (j + 1).toNat = j.toNat + 1 by have := HJ.out; omega]
              exact HSC3.out
      · have hd : decide (j < (l.length : Int)) = false := decide_eq_false hlt
        have hsc := HSC.out
        rw [List.drop_eq_nil_of_le (by have := HJ.out; omega), scanF] at hsc
        subst hsc
        clear hlt HSC
        go_wp2
        go_ret3
        exact ⟨_, rfl, Kd.R_nil _ _ _ _ _, HB.out⟩
/-! ### The plain law of joining -/
def joinA (a b : Int) (xs : List SE) (i t : Int) (l : List SE) : Int × List SE × Bool :=
  if standG i t l = false then (0, [], false) else if i < a then (if standG a b (l.drop (a - i).toNat) = false then (0, [], false) else scanF a b xs (l.drop (a - i).toNat)) else joinG a b xs i t l true
/-- Index p is known to a chain, with this term. -/
def KnowT (a b : Int) (xs : List SE) (p T : Int) : Prop := termF a b xs p = (T, true)
theorem know_rng {a b : Int} {xs : List SE} {p T : Int} (h : KnowT a b xs p T) : a ≤ p ∧ p ≤ a + xs.length := by
  unfold KnowT termF at h
  by_cases c1 : p = a
  · omega
  · rw [if_neg c1] at h
    by_cases c2 : hasE a xs p
    · unfold hasE at c2; omega
    · rw [if_neg c2] at h; injection h with _ h2; cases h2
theorem rd_take {xs : List SE} {n : Nat} {i : Int} (h0 : 0 ≤ i) (h1 : i < n) (h2 : i < (xs.length : Int)) : rd_T78 (xs.take n) i = rd_T78 xs i := by
  unfold rd_T78
  rw [List.getD_eq_getElem?_getD, List.getD_eq_getElem?_getD, List.getElem?_take, if_pos (by omega)]
theorem rd_append_l {xs l : List SE} {i : Int} (h0 : 0 ≤ i) (h1 : i < (xs.length : Int)) : rd_T78 (xs ++ l) i = rd_T78 xs i := by
  unfold rd_T78
  rw [List.getD_eq_getElem?_getD, List.getD_eq_getElem?_getD, List.getElem?_append_left (by omega)]
theorem rd_append_r {xs l : List SE} {i : Int} (h1 : (xs.length : Int) ≤ i) : rd_T78 (xs ++ l) i = rd_T78 l (i - xs.length) := by
  unfold rd_T78
  rw [List.getD_eq_getElem?_getD, List.getD_eq_getElem?_getD, List.getElem?_append_right (by omega)]
  congr 2
  omega
theorem know_lastT {a b : Int} {xs : List SE} {p T : Int} (h : KnowT a b xs p T) : lastT b (xs.take (p - a).toNat) = T := by
  have hr := know_rng h
  unfold KnowT termF at h
  unfold lastT
  by_cases c1 : p = a
  · rw [if_pos c1] at h
    injection h with h1 _
    rw [if_pos (by rw [List.length_take]; omega), h1]
  · rw [if_neg c1] at h
    rw [if_pos (show hasE a xs p from ⟨by omega, by omega⟩)] at h
    injection h with h1 _
    rw [if_neg (by rw [List.length_take]; omega), rd_take (by rw [List.length_take]; omega) (by rw [List.length_take]; omega) (by rw [List.length_take]; omega), ← h1]
    congr 2
    rw [List.length_take]; omega
/-- What is known below a cut is known behind it, whatever was added. -/
theorem know_keep {a b : Int} {xs l : List SE} {p q T : Int} (h : KnowT a b xs q T) (hq : q ≤ p) (hp : p ≤ a + xs.length) : KnowT a b (xs.take (p - a).toNat ++ l) q T := by
  have hr := know_rng h
  unfold KnowT termF at h ⊢
  by_cases c1 : q = a
  · rw [if_pos c1] at h ⊢; exact h
  · rw [if_neg c1] at h ⊢
    rw [if_pos (show hasE a xs q from ⟨by omega, by omega⟩)] at h
    rw [if_pos (show hasE a _ q from ⟨by omega, by rw [List.length_append, List.length_take]; omega⟩), rd_append_l (by omega) (by rw [List.length_take]; omega), rd_take (by omega) (by omega) (by omega)]
    exact h
theorem know_new {a b : Int} {xs l : List SE} {p : Int} (ha : a ≤ p) (hp : p ≤ a + xs.length) {j : Int} (h0 : 0 ≤ j) (h1 : j < (l.length : Int)) : KnowT a b (xs.take (p - a).toNat ++ l) (p + 1 + j) (rd_T78 l j).f1 := by
  unfold KnowT termF
  rw [if_neg (by omega), if_pos (show hasE a _ (p + 1 + j) from ⟨by omega, by rw [List.length_append, List.length_take]; omega⟩), rd_append_r (by rw [List.length_take]; omega), show p + 1 + j - a - 1 - ((xs.take (p - a).toNat).length : Int) = j by rw [List.length_take]; omega]
theorem stand_cons {i t : Int} {x : SE} {l : List SE} (h : standG i t (x :: l) = true) : IntKind.u64.wrap (x.f0 - 1) = i ∧ x.f0 ≠ 0 ∧ ¬ x.f1 < t ∧ standG x.f0 x.f1 l = true := by
  rw [standG] at h
  by_cases c0 : x.f0 = 0
  · rw [if_pos c0] at h; cases h
  rw [if_neg c0] at h
  by_cases c1 : IntKind.u64.wrap (x.f0 - 1) = i
  · rw [if_pos c1] at h
    by_cases c2 : x.f1 < t
    · rw [if_pos c2] at h; cases h
    rw [if_neg c2] at h
    exact ⟨c1, c0, c2, h⟩
  · rw [if_neg c1] at h; cases h
/-- What a scan comes to: up to p all was known; from there on it is to be added, and p + 1 is either beyond the end, or it is cut there. -/
structure Scan (a b : Int) (xs : List SE) (i T : Int) (l : List SE) (r : Int × List SE × Bool) (k : Nat) (T' : Int) : Prop where
  good : r.2.2 = true
  add : r.2.1 = l.drop k
  le : k ≤ l.length
  know : KnowT a b xs (i + k) T'
  stand : standG (i + k) T' (l.drop k) = true
  all : ∀ j : Nat, j < k → KnowT a b xs (i + 1 + j) (rd_T78 l j).f1
  cut : r.1 = 0 ∧ (k < l.length → i + k = a + xs.length) ∨ r.1 = i + k + 1 ∧ i + k + 1 ≤ a + xs.length ∧ k < l.length
theorem scan_ex (a b : Int) (xs : List SE) : ∀ (l : List SE) (i T : Int), 0 ≤ i → (∀ x ∈ l, 0 ≤ x.f0 ∧ x.f0 < 18446744073709551616) → standG i T l = true → KnowT a b xs i T → ∃ k T', Scan a b xs i T l (scanF a b xs l) k T' := by
  intro l
  induction l with
  | nil =>
    intro i T h0 _ hs hk
    exact ⟨0, T, rfl, rfl, Nat.le_refl _, by simpa using hk, by simpa using hs, fun j hj => by omega, .inl ⟨rfl, fun h => by simp at h⟩⟩
  | cons x l ih =>
    intro i T h0 hrg hs hk
    obtain ⟨s1, s2, s3, s4⟩ := stand_cons hs
    have hx := hrg x (by simp)
    have hx0 : x.f0 = i + 1 := by rw [IntKind.wrap_u64] at s1; omega
    have hr := know_rng hk
    rw [scanF]
    by_cases c1 : (termF a b xs x.f0).2 = false
    · rw [if_pos c1]
      refine ⟨0, T, rfl, rfl, by simp, by simpa using hk, by simpa using hs, fun j hj => by omega, .inl ⟨rfl, fun _ => ?_⟩⟩
      unfold termF at c1
      rw [if_neg (by omega)] at c1
      by_cases c2 : hasE a xs x.f0
      · rw [if_pos c2] at c1; cases c1
      · unfold hasE at c2; simp; omega
    · rw [if_neg c1]
      have hkx : termF a b xs x.f0 = ((termF a b xs x.f0).1, true) := by
        cases hq : termF a b xs x.f0 with
        | mk u v => rw [hq] at c1; cases v with
          | true => rfl
          | false => exact absurd rfl c1
      have hrx := know_rng (show KnowT a b xs x.f0 _ from hkx)
      by_cases c2 : ((termF a b xs x.f0).1 == x.f1) = false
      · rw [if_pos c2]
        exact ⟨0, T, rfl, rfl, by simp, by simpa using hk, by simpa using hs, fun j hj => by omega, .inr ⟨by simp; omega, by simp; omega, by simp⟩⟩
      · rw [if_neg c2]
        have hk' : KnowT a b xs x.f0 x.f1 := by
          unfold KnowT
          rw [hkx]
          have : (termF a b xs x.f0).1 = x.f1 := by simpa using c2
          rw [this]
        obtain ⟨k, T', z⟩ := ih x.f0 x.f1 (by omega) (fun y hy => hrg y (by simp [hy])) s4 hk'
        refine ⟨k + 1, T', z.good, by rw [z.add]; rfl, by have := z.le; simp; omega, ?_, ?_, fun j hj => ?_, ?_⟩
        · have := z.know; rw [hx0] at this; rw [show i + ((k + 1 : Nat) : Int) = i + 1 + k by omega]; exact this
        · have := z.stand; rw [hx0] at this; rw [show i + ((k + 1 : Nat) : Int) = i + 1 + k by omega]; exact this
        · cases j with
          | zero => rw [show i + 1 + ((0 : Nat) : Int) = x.f0 by simp; omega]; exact hk'
          | succ j =>
            have := z.all j (by omega)
            rw [hx0] at this
            rw [show i + 1 + ((j + 1 : Nat) : Int) = i + 1 + 1 + j by omega]
            have e : rd_T78 (x :: l) ((j + 1 : Nat) : Int) = rd_T78 l j := by unfold rd_T78; rw [show (((j + 1 : Nat) : Int)).toNat = j + 1 by omega, Int.toNat_natCast]; rfl
            rw [e]; exact this
        · have := z.cut
          rw [hx0] at this
          simp only [List.length_cons]
          rcases this with ⟨h1, h2⟩ | ⟨h1, h2, h3⟩
          · exact .inl ⟨h1, fun h => by have := h2 (by omega); omega⟩
          · exact .inr ⟨by rw [h1]; omega, by omega, by omega⟩
/-- A good join: from where on, and what the law says of it. -/
structure Joined (a b : Int) (xs : List SE) (i t : Int) (l : List SE) (r : Int × List SE × Bool) (i' T : Int) (l' : List SE) (k : Nat) (T' : Int) : Prop where
  scan : Scan a b xs i' T l' r k T'
  ge : a ≤ i'
  start : KnowT a b xs i' T
  part : l' = l.drop (i' - i).toNat
  le : i ≤ i'
  low : i < i' → i' = a
  same : ∀ ys, KnowT a b ys i' T → joinA a b ys i t l = scanF a b ys l'
theorem joined_ex (a b : Int) (xs : List SE) (ha : 0 ≤ a) (i t : Int) (l : List SE) (hi : 0 ≤ i) (hrg : ∀ x ∈ l, 0 ≤ x.f0 ∧ x.f0 < 18446744073709551616) (hg : (joinA a b xs i t l).2.2 = true) : ∃ i' T l' k T', Joined a b xs i t l (joinA a b xs i t l) i' T l' k T' := by
  unfold joinA at hg ⊢
  by_cases c0 : standG i t l = false
  · rw [if_pos c0] at hg; cases hg
  rw [if_neg c0] at hg ⊢
  have c0' : standG i t l = true := by simpa using c0
  by_cases c1 : i < a
  · rw [if_pos c1] at hg ⊢
    by_cases c2 : standG a b (l.drop (a - i).toNat) = false
    · rw [if_pos c2] at hg; cases hg
    rw [if_neg c2] at hg ⊢
    have c2' : standG a b (l.drop (a - i).toNat) = true := by simpa using c2
    have hk : ∀ ys, KnowT a b ys a b := fun ys => by unfold KnowT termF; rw [if_pos rfl]
    obtain ⟨k, T', z⟩ := scan_ex a b xs _ a b ha (fun x hx => hrg x (List.mem_of_mem_drop hx)) c2' (hk xs)
    exact ⟨a, b, _, k, T', z, Int.le_refl _, hk xs, rfl, by omega, fun _ => rfl, fun ys _ => by unfold joinA; rw [if_neg c0, if_pos c1, if_neg c2]⟩
  · rw [if_neg c1] at hg ⊢
    unfold joinG at hg ⊢
    rw [if_neg (by decide)] at hg ⊢
    by_cases c2 : (termF a b xs i).2 = false
    · rw [if_pos c2] at hg; cases hg
    rw [if_neg c2] at hg ⊢
    by_cases c3 : (termF a b xs i).1 = t
    · rw [if_pos c3] at hg ⊢
      have hk : KnowT a b xs i t := by
        unfold KnowT
        cases hq : termF a b xs i with
        | mk u v => rw [hq] at c2 c3; cases v with
          | true => exact congrArg (·, true) c3
          | false => exact absurd rfl c2
      obtain ⟨k, T', z⟩ := scan_ex a b xs l i t hi hrg c0' hk
      refine ⟨i, t, l, k, T', z, by omega, hk, by simp, Int.le_refl _, fun h => absurd h (by omega), fun ys hy => ?_⟩
      unfold joinA joinG
      unfold KnowT at hy
      rw [if_neg c0, if_neg c1, if_neg (by decide), hy, if_neg (fun h => Bool.noConfusion h), if_pos rfl]
    · rw [if_neg c3] at hg; cases hg
theorem scan_all (a b : Int) (ys : List SE) : ∀ (l : List SE), (∀ x ∈ l, KnowT a b ys x.f0 x.f1) → scanF a b ys l = (0, [], true) := by
  intro l
  induction l with
  | nil => intro _; rfl
  | cons x l ih =>
    intro h
    have hx := h x (by simp)
    unfold KnowT at hx
    rw [scanF, hx, if_neg (fun h => Bool.noConfusion h), if_neg (by simp)]
    exact ih (fun y hy => h y (by simp [hy]))
section
variable {a b i t i' T T' : Int} {xs l l' : List SE} {r : Int × List SE × Bool} {k : Nat}
/-- Behind the join: the chain's entries. -/
def after (a i' : Int) (xs l' : List SE) (k : Nat) : List SE := if k < l'.length then xs.take (i' + k - a).toNat ++ l'.drop k else xs
theorem Joined.cutok (h : Joined a b xs i t l r i' T l' k T') (hc : r.1 ≠ 0) : a < r.1 ∧ r.1 ≤ a + xs.length ∧ xs.take (r.1 - 1 - a).toNat = xs.take (i' + k - a).toNat := by
  rcases h.scan.cut with ⟨h1, _⟩ | ⟨h1, h2, h3⟩
  · exact absurd h1 hc
  · have := h.ge
    exact ⟨by omega, by omega, by rw [show r.1 - 1 - a = i' + k - a by omega]⟩
theorem Joined.nocut (h : Joined a b xs i t l r i' T l' k T') (ha : 0 ≤ a) (hc : r.1 = 0) : (k < l'.length → xs.take (i' + k - a).toNat = xs) := by
  intro hk
  rcases h.scan.cut with ⟨_, h2⟩ | ⟨h1, h2, h3⟩
  · have := h2 hk
    rw [List.take_of_length_le (by omega)]
  · have := h.ge; omega
theorem Joined.appendok (h : Joined a b xs i t l r i' T l' k T') : standG (a + (xs.take (i' + k - a).toNat).length) (lastT b (xs.take (i' + k - a).toNat)) r.2.1 = true := by
  have hk := know_rng h.scan.know
  rw [know_lastT h.scan.know, h.scan.add, List.length_take, show a + ((min (i' + (k : Int) - a).toNat xs.length : Nat) : Int) = i' + k by omega]
  exact h.scan.stand
theorem Joined.known (h : Joined a b xs i t l r i' T l' k T') (hrow : Row i' l') : ∀ x ∈ l', KnowT a b (after a i' xs l' k) x.f0 x.f1 := by
  intro x hx
  obtain ⟨j, hj, rfl⟩ := List.mem_iff_getElem.1 hx
  have hk := know_rng h.scan.know
  have hf := hrow.at_ j _ (List.getElem?_eq_getElem hj)
  have hrd : rd_T78 l' (j : Int) = l'[j] := by unfold rd_T78; rw [List.getD_eq_getElem?_getD, Int.toNat_natCast, List.getElem?_eq_getElem hj]; rfl
  unfold after
  by_cases cl : k < l'.length
  case neg =>
    rw [if_neg cl]
    have h1 := h.scan.all j (by omega)
    rw [hrd, ← hf] at h1
    exact h1
  rw [if_pos cl]
  by_cases c : j < k
  · have h1 := h.scan.all j c
    rw [hrd, ← hf] at h1
    exact know_keep h1 (by omega) hk.2
  · have h2 := know_new (b := b) (xs := xs) (l := l'.drop k) hk.1 hk.2 (j := ((j - k : Nat) : Int)) (by omega) (by rw [List.length_drop]; omega)
    have e : rd_T78 (l'.drop k) ((j - k : Nat) : Int) = l'[j] := by
      rw [← hrd]
      unfold rd_T78
      rw [List.getD_eq_getElem?_getD, List.getD_eq_getElem?_getD, List.getElem?_drop, Int.toNat_natCast, Int.toNat_natCast, show k + (j - k) = j by omega]
    rw [e, show i' + (k : Int) + 1 + ((j - k : Nat) : Int) = l'[j].f0 by omega] at h2
    exact h2
theorem Joined.again (h : Joined a b xs i t l r i' T l' k T') (hrow : Row i' l') : joinA a b (after a i' xs l' k) i t l = (0, [], true) := by
  have hk := know_rng h.scan.know
  have hs : KnowT a b (after a i' xs l' k) i' T := by
    unfold after
    split
    · exact know_keep h.start (by omega) hk.2
    · exact h.start
  rw [h.same _ hs]
  exact scan_all a b _ l' (h.known hrow)
/-- Each of the joined ones above the floor is there. -/
theorem Joined.there (h : Joined a b xs i t l r i' T l' k T') (hrow : Row i l) (hrow' : Row i' l') : ∀ x ∈ l, x.f0 > a → (entryF a (after a i' xs l' k) x.f0).2 = true ∧ (entryF a (after a i' xs l' k) x.f0).1.f1 = x.f1 := by
  intro x hx hgt
  have hm : x ∈ l' := by
    obtain ⟨j, hj, rfl⟩ := List.mem_iff_getElem.1 hx
    have hf := hrow.at_ j _ (List.getElem?_eq_getElem hj)
    have hle := h.le
    have hlow : i' - i ≤ j := by
      by_cases c : i < i'
      · have := h.low c; omega
      · omega
    rw [h.part]
    rw [List.mem_iff_getElem?]
    exact ⟨j - (i' - i).toNat, by rw [List.getElem?_drop, show (i' - i).toNat + (j - (i' - i).toNat) = j by omega]; exact List.getElem?_eq_getElem hj⟩
  have hk := h.known hrow' x hm
  have hr := know_rng hk
  unfold KnowT termF at hk
  rw [if_neg (by omega), if_pos (show hasE a _ x.f0 from ⟨by omega, by omega⟩)] at hk
  injection hk with h1 _
  unfold entryF
  rw [if_pos (show hasE a _ x.f0 from ⟨by omega, by omega⟩)]
  exact ⟨rfl, h1⟩
/-- Each of the elder ones up to where the joined ones begin is there as it was. -/
theorem Joined.stays (h : Joined a b xs i t l r i' T l' k T') (hrow : Row a xs) : ∀ x ∈ xs, x.f0 ≤ i → entryF a (after a i' xs l' k) x.f0 = (x, true) := by
  intro x hx hle
  obtain ⟨j, hj, rfl⟩ := List.mem_iff_getElem.1 hx
  have hf := hrow.at_ j _ (List.getElem?_eq_getElem hj)
  have hk := know_rng h.scan.know
  have hi := h.le
  have hrd : rd_T78 xs ((xs[j]).f0 - a - 1) = xs[j] := by
    unfold rd_T78
    rw [show ((xs[j]).f0 - a - 1).toNat = j by omega, List.getD_eq_getElem?_getD, List.getElem?_eq_getElem hj]
    rfl
  unfold entryF after
  split
  · rw [if_pos (show hasE a _ (xs[j]).f0 from ⟨by omega, by rw [List.length_append, List.length_take]; omega⟩), rd_append_l (by omega) (by rw [List.length_take]; omega), rd_take (by omega) (by omega) (by omega), hrd]
  · rw [if_pos (show hasE a _ (xs[j]).f0 from ⟨by omega, by omega⟩), hrd]
theorem Joined.len (h : Joined a b xs i t l r i' T l' k T') : (after a i' xs l' k).length ≤ xs.length + l.length := by
  unfold after
  split
  · rw [List.length_append, List.length_take, List.length_drop, h.part, List.length_drop]
    omega
  · omega
/-- Nothing to be added: the chain stays. -/
theorem Joined.none (h : Joined a b xs i t l r i' T l' k T') (hk : ¬ k < l'.length) : r.2.1 = [] ∧ r.1 = 0 := by
  refine ⟨by rw [h.scan.add, List.drop_of_length_le (by omega)], ?_⟩
  rcases h.scan.cut with ⟨h1, _⟩ | ⟨_, _, h3⟩
  · exact h1
  · exact absurd h3 hk
end
set_option maxHeartbeats 16000000 in
set_option maxRecDepth 100000 in
theorem chain_join (W : World) (g : Nat) (a b : Int) (xs : List SE) (h : Ch W g a b xs) (i t : Int) (hi : 0 ≤ i ∧ i < 18446744073709551616) (A : Option Addr) (c : Nat) (l : List SE) (hC : KE.C W A l.length l) (hc : l.length ≤ c) (hl : l.length ≤ 100000) (hsm : ∀ x ∈ l, x.f2.length ≤ 1000000) (hrg : ∀ x ∈ l, 0 ≤ x.f0 ∧ x.f0 < 18446744073709551616) :
    Calls Try.prog 31 #[.pointer (some ⟨g, 0, none⟩), .int .u64 i, .int .u64 t, .slice A l.length c] W fun e w' => ∃ v, e = .returned (.tuple #[.int .u64 (joinA a b xs i t l).1, v, .bool (joinA a b xs i t l).2.2]) ∧ KE.R 78 w' W.heap.size (fun _ => True) v (joinA a b xs i t l).2.1 ∧ Below W.heap.size W w' := by
  have hs := stands_eval l hl i t (k := 100001) (by omega)
  by_cases hlt : i < a
  · cases hg : standG i t l with
    | true =>
      rw [hg] at hs
      refine chain_join1 W g a b xs h i t hi A c l hC hc hl hsm hrg 100001 hs hlt (standG a b (l.drop (a - i).toNat)) (stands_eval _ (by rw [List.length_drop]; omega) a b (by rw [List.length_drop]; omega)) _ ?_
      have hj : joinA a b xs i t l = (if standG a b (l.drop (a - i).toNat) = false then (0, [], false) else scanF a b xs (l.drop (a - i).toNat)) := by
        unfold joinA
        rw [hg]
        rw [if_neg (fun h => Bool.noConfusion h), if_pos hlt]
      exact hj.symm
    | false =>
      rw [hg] at hs
      have hj : joinA a b xs i t l = (0, [], false) := by unfold joinA; rw [hg, if_pos rfl]
      rw [hj]
      have H := Aside0.mk h
      have HST : Aside0 (∀ W', Below W.heap.size W W' → Calls Try.prog 64 #[.int .u64 i, .int .u64 t, .slice A l.length c] W' fun e w' => e = .returned (.bool false) ∧ Below W'.heap.size W' w') := ⟨fun W' hb => chain_stands.calls 100001 i t A c l false W' (Kd.C_below hC hb) hc hs⟩
      have S0 := St.start W (fun _ => False)
      clear h hC hc hl hsm hrg hs hlt hg hj hi
      go_enter Try.func31, Try.ntmps31
      go_wp2_with (first
        | ((with_reducible refine gate_dst (N := 4) rfl ?_); refine box_event ?hg (N := 4) ?hd (cs := #[.pointer (some ⟨g, 0, none⟩)]) (t := 61) ?hr ?_; (case hd => rfl); (case hg => rfl); (case hr => first | (go_simp; done) | (go_simp; rfl)); intro gB hg_ w1 hbB hb; have S1 := S0.box hg_ hb hbB; clear S0 hg_ hbB hb; have z0 : w1.cell? ⟨gB, 0, none⟩ = some (.pointer (some ⟨g, 0, none⟩)) := (blk_cell (S1.blk 0 rfl) 0).trans rfl)
        | (go_at_call 64; refine (HST.out w1 S1.below).mono ?_; rintro e w2 ⟨rfl, hb⟩; have S2 := S1.call hb; clear S1 hb))
      repeat (go_quiet (fail); try go_wp2)
      go_ret3
      exact ⟨_, rfl, Kd.R_nil _ _ _ _ _, by repeat (first | (with_reducible first | exact S2.below | apply below_alloc | apply pw_below_drewN | apply below_drew1) | exact S2.below)⟩
  · refine chain_join0 W g a b xs h i t hi A c l hC hc hl hsm hrg 100001 (standG i t l) hs hlt _ ?_
    unfold joinA
    cases hg : standG i t l with
    | true => rw [if_neg (by decide), if_neg hlt]
    | false => rw [if_pos rfl]; unfold joinG; rw [if_pos rfl]
theorem joinA_bad {a b i t : Int} {xs l : List SE} (h : (joinA a b xs i t l).2.2 = false) (ha : 0 ≤ a) (hi : 0 ≤ i) (hrg : ∀ x ∈ l, 0 ≤ x.f0 ∧ x.f0 < 18446744073709551616) : joinA a b xs i t l = (0, [], false) := by
  unfold joinA at h ⊢
  by_cases c0 : standG i t l = false
  · rw [if_pos c0]
  rw [if_neg c0] at h ⊢
  have c0' : standG i t l = true := by simpa using c0
  by_cases c1 : i < a
  · rw [if_pos c1] at h ⊢
    by_cases c2 : standG a b (l.drop (a - i).toNat) = false
    · rw [if_pos c2]
    rw [if_neg c2] at h
    obtain ⟨k, T', z⟩ := scan_ex a b xs _ a b ha (fun x hx => hrg x (List.mem_of_mem_drop hx)) (by simpa using c2) (by unfold KnowT termF; rw [if_pos rfl])
    rw [z.good] at h
    cases h
  · rw [if_neg c1] at h ⊢
    unfold joinG at h ⊢
    rw [if_neg (by decide)] at h ⊢
    by_cases c2 : (termF a b xs i).2 = false
    · rw [if_pos c2]
    rw [if_neg c2] at h ⊢
    by_cases c3 : (termF a b xs i).1 = t
    · rw [if_pos c3] at h
      have hk : KnowT a b xs i t := by
        unfold KnowT
        cases hq : termF a b xs i with
        | mk u v => rw [hq] at c2 c3; cases v with
          | true => exact congrArg (·, true) c3
          | false => exact absurd rfl c2
      obtain ⟨k, T', z⟩ := scan_ex a b xs l i t hi hrg c0' hk
      rw [z.good] at h
      cases h
    · rw [if_neg c3]
theorem nil_Ne {e g base : Nat} {w : World} (hb : w.heap[g]? = some (.cells #[] e (0, 0))) (hg : base ≤ g) : Kd.N k63 e w base (fun k => g ≤ k) (.slice (some ⟨g, 0, none⟩) 0 0) [] :=
  Kd.R_N ⟨fun q hq => Nat.le_of_eq (by have := hq; simp [Value.ownBlock] at this; omega), [], ⟨rfl, .inr ⟨g, 0, #[], rfl, hg, hb, Nat.le_refl _, Nat.zero_le _, rfl, rfl⟩⟩, rfl, fun j p hj => by simp at hj⟩
set_option maxHeartbeats 8000000 in
set_option maxRecDepth 100000 in
theorem rcut_bad (W : World) (a b i : Int) (A : Option Addr) (c : Nat) (xs : List SE) (hC : k63.C W A (pl xs).length (pl xs)) (hrow : Row a xs) (hi : 0 ≤ i ∧ i < 18446744073709551616) (h1 : ¬ (a < i ∧ i - 1 ≤ a + xs.length)) :
    Calls Try.prog 36 #[.agg #[.int .u64 a, .int .u64 b, .slice none 0 0, .slice A (pl xs).length c], .int .u64 i] W fun e w' => e = .returned (.tuple #[.agg #[.int .u64 a, .int .u64 b, .slice none 0 0, .slice A (pl xs).length c], .bool false]) ∧ Below W.heap.size W w' := by
  have hu := Try.underlying66
  have S0 := St.start W (fun _ => False)
  have HC := Aside0.mk hC
  have HR := Aside0.mk hrow
  have hlo := hrow.lo
  by_cases c1 : i ≤ a
  · have d1 : decide (i ≤ a) = true := decide_eq_true c1
    clear hC hrow hlo c1 h1
    go_enter Try.func36, Try.ntmps36
    go_wp2_with (first
      | ((with_reducible refine gate_dst (N := 2) rfl ?_); refine box_event ?hg (N := 2) ?hd (cs := #[.int .u64 a, .int .u64 b, .slice none 0 0, .slice A (pl xs).length c]) (t := 66) ?hr ?_; (case hd => rfl); (case hg => rfl); (case hr => first | (go_simp; done) | (go_simp; rfl)); intro gB hg_ w1 hbB hb; have S1 := S0.box hg_ hb hbB; clear S0 hg_ hbB hb)
      | ((with_reducible refine gate_dst (N := 4) rfl ?_); refine box_event ?hg (N := 4) ?hd (cs := #[.int .u64 0, .int .u64 0, .slice none 0 0, .slice none 0 0]) (t := 66) ?hr ?_; (case hd => rfl); (case hg => rfl); (case hr => first | (go_simp; done) | (go_simp; rfl)); intro gX hg_ w2 hbB hb; have S2 := S1.box hg_ hb hbB; clear S1 hg_ hbB hb; have z0 : w2.cell? ⟨gB, 0, none⟩ = some (.int .u64 a) := (blk_cell (S2.blk 1 rfl) 0).trans rfl; have z1 : w2.cell? ⟨gB, 1, none⟩ = some (.int .u64 b) := (blk_cell (S2.blk 1 rfl) 1).trans rfl; have z2 : w2.cell? ⟨gB, 2, none⟩ = some (.slice none 0 0) := (blk_cell (S2.blk 1 rfl) 2).trans rfl; have z3 : w2.cell? ⟨gB, 3, none⟩ = some (.slice A (pl xs).length c) := (blk_cell (S2.blk 1 rfl) 3).trans rfl; have x0 : w2.cell? ⟨gX, 0, none⟩ = some (.int .u64 0) := (blk_cell (S2.blk 0 rfl) 0).trans rfl; have fx0 : w2.frozen? ⟨gX, 0, none⟩ = false := blk_frozen (S2.blk 0 rfl) 0; have x1 : w2.cell? ⟨gX, 1, none⟩ = some (.int .u64 0) := (blk_cell (S2.blk 0 rfl) 1).trans rfl; have fx1 : w2.frozen? ⟨gX, 1, none⟩ = false := blk_frozen (S2.blk 0 rfl) 1; have x2 : w2.cell? ⟨gX, 2, none⟩ = some (.slice none 0 0) := (blk_cell (S2.blk 0 rfl) 2).trans rfl; have fx2 : w2.frozen? ⟨gX, 2, none⟩ = false := blk_frozen (S2.blk 0 rfl) 2; have x3 : w2.cell? ⟨gX, 3, none⟩ = some (.slice none 0 0) := (blk_cell (S2.blk 0 rfl) 3).trans rfl; have fx3 : w2.frozen? ⟨gX, 3, none⟩ = false := blk_frozen (S2.blk 0 rfl) 3; have nx : gX ≠ gB := S2.ne 0 1 rfl rfl (by decide); have nx' := Ne.symm nx))
    have S3 := (((S2.put 0 (.int .u64 a) rfl).put 1 (.int .u64 b) rfl).put 2 (.slice none 0 0) rfl).put 3 (.slice A (pl xs).length c) rfl
    refine bodyPost_ret (results_ct rfl _ _ gX 66 _ (0, 0) _ rfl (S3.blk 0 rfl) Try.underlying66 rfl (by kernel_rfl)) rfl ?_
    exact ⟨rfl, S3.below⟩
  · have d1 : decide (i ≤ a) = false := decide_eq_false c1
    have hw1 : IntKind.u64.wrap (i - 1) = i - 1 := by rw [IntKind.wrap_u64]; omega
    have d2 : decide (i - 1 > a + (xs.length : Int)) = true := decide_eq_true (by omega)
    clear hC hrow hlo c1 h1 hi
    go_enter Try.func36, Try.ntmps36
    go_wp2_with (first
      | ((with_reducible refine gate_dst (N := 2) rfl ?_); refine box_event ?hg (N := 2) ?hd (cs := #[.int .u64 a, .int .u64 b, .slice none 0 0, .slice A (pl xs).length c]) (t := 66) ?hr ?_; (case hd => rfl); (case hg => rfl); (case hr => first | (go_simp; done) | (go_simp; rfl)); intro gB hg_ w1 hbB hb; have S1 := S0.box hg_ hb hbB; clear S0 hg_ hbB hb)
      | ((with_reducible refine gate_dst (N := 4) rfl ?_); refine box_event ?hg (N := 4) ?hd (cs := #[.int .u64 0, .int .u64 0, .slice none 0 0, .slice none 0 0]) (t := 66) ?hr ?_; (case hd => rfl); (case hg => rfl); (case hr => first | (go_simp; done) | (go_simp; rfl)); intro gX hg_ w2 hbB hb; have S2 := S1.box hg_ hb hbB; clear S1 hg_ hbB hb; have z0 : w2.cell? ⟨gB, 0, none⟩ = some (.int .u64 a) := (blk_cell (S2.blk 1 rfl) 0).trans rfl; have z1 : w2.cell? ⟨gB, 1, none⟩ = some (.int .u64 b) := (blk_cell (S2.blk 1 rfl) 1).trans rfl; have z2 : w2.cell? ⟨gB, 2, none⟩ = some (.slice none 0 0) := (blk_cell (S2.blk 1 rfl) 2).trans rfl; have z3 : w2.cell? ⟨gB, 3, none⟩ = some (.slice A (pl xs).length c) := (blk_cell (S2.blk 1 rfl) 3).trans rfl)
      | (go_at_call 35; refine (rlast w2 a b none 0 [] (Kd.C_nil _ _) (Nat.le_refl _) A c xs (Kd.C_below HC.out S2.below) HR.out).mono ?_; rintro e w3 ⟨Ay, cy, by', rfl, _, _, hb⟩; have S3 := S2.call hb; clear S2 hb z0 z1 z2 z3; have z0 : w3.cell? ⟨gB, 0, none⟩ = some (.int .u64 a) := (blk_cell (S3.blk 1 rfl) 0).trans rfl; have z1 : w3.cell? ⟨gB, 1, none⟩ = some (.int .u64 b) := (blk_cell (S3.blk 1 rfl) 1).trans rfl; have z2 : w3.cell? ⟨gB, 2, none⟩ = some (.slice none 0 0) := (blk_cell (S3.blk 1 rfl) 2).trans rfl; have z3 : w3.cell? ⟨gB, 3, none⟩ = some (.slice A (pl xs).length c) := (blk_cell (S3.blk 1 rfl) 3).trans rfl; have x0 : w3.cell? ⟨gX, 0, none⟩ = some (.int .u64 0) := (blk_cell (S3.blk 0 rfl) 0).trans rfl; have fx0 : w3.frozen? ⟨gX, 0, none⟩ = false := blk_frozen (S3.blk 0 rfl) 0; have x1 : w3.cell? ⟨gX, 1, none⟩ = some (.int .u64 0) := (blk_cell (S3.blk 0 rfl) 1).trans rfl; have fx1 : w3.frozen? ⟨gX, 1, none⟩ = false := blk_frozen (S3.blk 0 rfl) 1; have x2 : w3.cell? ⟨gX, 2, none⟩ = some (.slice none 0 0) := (blk_cell (S3.blk 0 rfl) 2).trans rfl; have fx2 : w3.frozen? ⟨gX, 2, none⟩ = false := blk_frozen (S3.blk 0 rfl) 2; have x3 : w3.cell? ⟨gX, 3, none⟩ = some (.slice none 0 0) := (blk_cell (S3.blk 0 rfl) 3).trans rfl; have fx3 : w3.frozen? ⟨gX, 3, none⟩ = false := blk_frozen (S3.blk 0 rfl) 3; have nx : gX ≠ gB := S3.ne 0 1 rfl rfl (by decide); have nx' := Ne.symm nx; have hf : ∀ W : World, (Instr.field 63 (.agg #[.int .u64 (a + xs.length), .int .u64 (lastT b xs), .slice Ay by'.length cy]) 0).run Try.prog W = .ok (.int .u64 (a + xs.length)) W := (fun W => by kernel_rfl)))
    have S4 := (((S3.put 0 (.int .u64 a) rfl).put 1 (.int .u64 b) rfl).put 2 (.slice none 0 0) rfl).put 3 (.slice A (pl xs).length c) rfl
    refine bodyPost_ret (results_ct rfl _ _ gX 66 _ (0, 0) _ rfl (S4.blk 0 rfl) Try.underlying66 rfl (by kernel_rfl)) rfl ?_
    exact ⟨rfl, S4.below⟩
set_option maxHeartbeats 8000000 in
set_option maxRecDepth 100000 in
theorem rcut (W : World) (ok : Nat → Prop) (a b i : Int) (A : Option Addr) (c : Nat) (xs : List SE) (hC : Kd.F k63 W ok A (pl xs).length (pl xs)) (hc : (pl xs).length ≤ c) (hrow : Row a xs) (hi : 0 ≤ i ∧ i < 18446744073709551616) (h1 : a < i) (h2 : i - 1 ≤ a + xs.length) :
    Calls Try.prog 36 #[.agg #[.int .u64 a, .int .u64 b, .slice none 0 0, .slice A (pl xs).length c], .int .u64 i] W fun e w' => ∃ A' c', e = .returned (.tuple #[.agg #[.int .u64 a, .int .u64 b, .slice none 0 0, .slice A' (pl (xs.take (i - 1 - a).toNat)).length c'], .bool true]) ∧ (pl (xs.take (i - 1 - a).toNat)).length ≤ c' ∧ St W ok w' [Vw k63 A' (pl (xs.take (i - 1 - a).toNat)).length (pl (xs.take (i - 1 - a).toNat))] := by
  have hu := Try.underlying66
  have S0 := St.start1 (A := Vw k63 A (pl xs).length (pl xs)) Vw.loc hC
  have HR := Aside0.mk hrow
  have hlo := hrow.lo
  have hfew := hrow.few
  obtain ⟨n, hn⟩ : ∃ n : Int, i - 1 - a = n := ⟨_, rfl⟩
  have hw1 : IntKind.u64.wrap (i - 1) = i - 1 := by rw [IntKind.wrap_u64]; omega
  have hw2 : IntKind.u64.wrap (i - 1 - a) = n := by rw [IntKind.wrap_u64]; omega
  have d1 : decide (i ≤ a) = false := decide_eq_false (by omega)
  have d2 : decide (i - 1 > a + (xs.length : Int)) = false := decide_eq_false (by omega)
  have HN : Aside0 (0 ≤ n ∧ n ≤ xs.length) := ⟨by omega⟩
  rw [hn]
  obtain ⟨ys, hys⟩ : ∃ ys, pl (xs.take n.toNat) = ys := ⟨_, rfl⟩
  rw [hys]
  have hys2 : (pl xs).take n.toNat = ys := by rw [← hys]; unfold pl; rw [List.map_take]
  have hyl : ys.length = n.toNat := by have := HN.out; rw [← hys, pl_len, List.length_take]; omega
  have HX : Aside0 ((pl xs).length = xs.length ∧ (pl xs).length ≤ c ∧ ys.length ≤ 100000) := ⟨pl_len xs, hc, by have := HN.out; omega⟩
  have hcut : ∀ W : World, (Instr.slice 64 (.slice A (pl xs).length c) none (some (.int .u64 n)) none).run Try.prog W = .ok (.slice A ys.length c) W := fun W => by
    rw [cut_h' 64 63 .u64 3 Try.underlying64 (by kernel_rfl) A (pl xs).length c n HN.out.1 (by have := HN.out; have := HX.out; omega) W, hyl]
  have HF : Aside0 (∀ (w : World) (F : Nat → Prop), Kd.F k63 w F A (pl xs).length (pl xs) → Kd.F k63 w F A ys.length ys) := ⟨fun w F h => by have := Kd.F_take h (m := n.toNat) (by have := HN.out; rw [HX.out.1]; omega); rw [hys2] at this; exact this⟩
  clear hC hc hrow hi h1 h2 hlo hfew hn hys hys2 hyl
  go_enter Try.func36, Try.ntmps36
  go_wp2_with (first
    | ((with_reducible refine gate_dst (N := 2) rfl ?_); refine box_event ?hg (N := 2) ?hd (cs := #[.int .u64 a, .int .u64 b, .slice none 0 0, .slice A (pl xs).length c]) (t := 66) ?hr ?_; (case hd => rfl); (case hg => rfl); (case hr => first | (go_simp; done) | (go_simp; rfl)); intro gB hg_ w1 hbB hb; have S1 := S0.box hg_ hb hbB; clear S0 hg_ hbB hb)
    | ((with_reducible refine gate_dst (N := 4) rfl ?_); refine box_event ?hg (N := 4) ?hd (cs := #[.int .u64 0, .int .u64 0, .slice none 0 0, .slice none 0 0]) (t := 66) ?hr ?_; (case hd => rfl); (case hg => rfl); (case hr => first | (go_simp; done) | (go_simp; rfl)); intro gX hg_ w2 hbB hb; have S2 := S1.box hg_ hb hbB; clear S1 hg_ hbB hb; have z0 : w2.cell? ⟨gB, 0, none⟩ = some (.int .u64 a) := (blk_cell (S2.blk 1 rfl) 0).trans rfl; have z1 : w2.cell? ⟨gB, 1, none⟩ = some (.int .u64 b) := (blk_cell (S2.blk 1 rfl) 1).trans rfl; have z2 : w2.cell? ⟨gB, 2, none⟩ = some (.slice none 0 0) := (blk_cell (S2.blk 1 rfl) 2).trans rfl; have z3 : w2.cell? ⟨gB, 3, none⟩ = some (.slice A (pl xs).length c) := (blk_cell (S2.blk 1 rfl) 3).trans rfl)
    | (go_at_call 35; refine (rlast w2 a b none 0 [] (Kd.C_nil _ _) (Nat.le_refl _) A c xs (S2.vw 2 rfl) HR.out).mono ?_; rintro e w3 ⟨Ay, cy, by', rfl, _, _, hb⟩; have S3 := S2.call hb; clear S2 hb z0 z1 z2 z3; have z0 : w3.cell? ⟨gB, 0, none⟩ = some (.int .u64 a) := (blk_cell (S3.blk 1 rfl) 0).trans rfl; have z1 : w3.cell? ⟨gB, 1, none⟩ = some (.int .u64 b) := (blk_cell (S3.blk 1 rfl) 1).trans rfl; have z2 : w3.cell? ⟨gB, 2, none⟩ = some (.slice none 0 0) := (blk_cell (S3.blk 1 rfl) 2).trans rfl; have z3 : w3.cell? ⟨gB, 3, none⟩ = some (.slice A (pl xs).length c) := (blk_cell (S3.blk 1 rfl) 3).trans rfl; have hbB := S3.blk 1 rfl; have y0 : ∀ o, (w3.alloc o).cell? ⟨gB, 0, none⟩ = some (.int .u64 a) := (fun o => (blk_cell (((below_alloc (Below.refl _ _) o).block _ (blk_lt hbB)).trans hbB) 0).trans rfl); have y3 : ∀ o, (w3.alloc o).cell? ⟨gB, 3, none⟩ = some (.slice A (pl xs).length c) := (fun o => (blk_cell (((below_alloc (Below.refl _ _) o).block _ (blk_lt hbB)).trans hbB) 3).trans rfl); clear hbB; have hf : ∀ W : World, (Instr.field 63 (.agg #[.int .u64 (a + xs.length), .int .u64 (lastT b xs), .slice Ay by'.length cy]) 0).run Try.prog W = .ok (.int .u64 (a + xs.length)) W := (fun W => by kernel_rfl))
    | ((with_reducible refine gate_builtin (b := .append) rfl ?_); have S4 := ((S3.new (A := Nw k63 63 (.slice (some ⟨w3.heap.size, 0, none⟩) 0 0) []) (below_alloc (Below.refl _ _) (.cells #[] 63)) Nw.loc (nil_Ne (blk_new w3 _) (Nat.zero_le _))).front 3 rfl).imp (A' := Vw k63 A ys.length ys) Vw.loc (fun F h => HF.out _ _ h); obtain ⟨ok2, okp, p1, p2, p3, p4, p5⟩ := (S4.front 1 rfl).append_rows; refine Kd.N_append_rows k63 (w0 := w3.alloc (.cells #[] 63)) 0 rfl (.tmp 20) (.tmp 29) 64 63 (.agg #[.int .u64 0, .int .u64 0, .slice none 0 0]) 40 rfl Try.underlying64 info63 rfl (by decide) (by decide) (.slice (some ⟨w3.heap.size, 0, none⟩) 0 0) [] ys A ys.length c ok2 okp rfl rfl p1 p2 p3 p4 (Below.refl _ _) (Nat.zero_le _) (by have := HX.out; simp; omega) ?_; intro v1 w5 hN _ hg _; rw [List.nil_append] at hN p5; obtain ⟨A5, c5, e5⟩ := Kd.N_slice hN; subst e5; have S5 := p5 _ _ hN hg; clear p1 p2 p3 p4 p5 hN hg S3 S4 z0 z1 z2 z3 y0 y3; have hl5 := (S5.nrd 0 rfl).2.1; have z0 : w5.cell? ⟨gB, 0, none⟩ = some (.int .u64 a) := (blk_cell (S5.blk 2 rfl) 0).trans rfl; have fz0 : w5.frozen? ⟨gB, 0, none⟩ = false := blk_frozen (S5.blk 2 rfl) 0; have z1 : w5.cell? ⟨gB, 1, none⟩ = some (.int .u64 b) := (blk_cell (S5.blk 2 rfl) 1).trans rfl; have fz1 : w5.frozen? ⟨gB, 1, none⟩ = false := blk_frozen (S5.blk 2 rfl) 1; have z2 : w5.cell? ⟨gB, 2, none⟩ = some (.slice none 0 0) := (blk_cell (S5.blk 2 rfl) 2).trans rfl; have fz2 : w5.frozen? ⟨gB, 2, none⟩ = false := blk_frozen (S5.blk 2 rfl) 2; have z3 : w5.cell? ⟨gB, 3, none⟩ = some (.slice A (pl xs).length c) := (blk_cell (S5.blk 2 rfl) 3).trans rfl; have fz3 : w5.frozen? ⟨gB, 3, none⟩ = false := blk_frozen (S5.blk 2 rfl) 3; have x0 : w5.cell? ⟨gX, 0, none⟩ = some (.int .u64 0) := (blk_cell (S5.blk 1 rfl) 0).trans rfl; have fx0 : w5.frozen? ⟨gX, 0, none⟩ = false := blk_frozen (S5.blk 1 rfl) 0; have x1 : w5.cell? ⟨gX, 1, none⟩ = some (.int .u64 0) := (blk_cell (S5.blk 1 rfl) 1).trans rfl; have fx1 : w5.frozen? ⟨gX, 1, none⟩ = false := blk_frozen (S5.blk 1 rfl) 1; have x2 : w5.cell? ⟨gX, 2, none⟩ = some (.slice none 0 0) := (blk_cell (S5.blk 1 rfl) 2).trans rfl; have fx2 : w5.frozen? ⟨gX, 2, none⟩ = false := blk_frozen (S5.blk 1 rfl) 2; have x3 : w5.cell? ⟨gX, 3, none⟩ = some (.slice none 0 0) := (blk_cell (S5.blk 1 rfl) 3).trans rfl; have fx3 : w5.frozen? ⟨gX, 3, none⟩ = false := blk_frozen (S5.blk 1 rfl) 3; have nx : gX ≠ gB := S5.ne 1 2 rfl rfl (by decide); have nx' := Ne.symm nx))
  have S6 := ((((((S5.front 2 rfl).put 3 (.slice A5 ys.length c5) rfl).front 2 rfl).put 0 (.int .u64 a) rfl).put 1 (.int .u64 b) rfl).put 2 (.slice none 0 0) rfl).put 3 (.slice A5 ys.length c5) rfl
  refine bodyPost_ret (results_ct rfl _ _ gX 66 _ (0, 0) _ rfl (S6.blk 0 rfl) Try.underlying66 rfl (by kernel_rfl)) rfl ?_
  exact ⟨A5, c5, rfl, hl5, ((S6.front 2 rfl).nw_vw).take 1⟩
theorem term_rng {a b i t : Int} {xs : List SE} (h : termF a b xs i = (t, true)) : a ≤ i ∧ i ≤ a + xs.length := by
  unfold termF at h
  by_cases c : i = a
  · omega
  · rw [if_neg c] at h
    by_cases d : hasE a xs i
    · unfold hasE at d; omega
    · rw [if_neg d] at h; simp at h
theorem from_drop {a b i t : Int} {xs : List SE} (hr : Row a xs) (h : termF a b xs i = (t, true)) : fromF a xs (i + 1) xs.length = xs.drop (i - a).toNat := by
  obtain ⟨h1, h2⟩ := term_rng h
  unfold fromF
  have hm : mx (i + 1) (a + 1) = i + 1 := by unfold mx; split <;> omega
  rw [hm]
  by_cases c : xs.length = 0 ∨ (xs.length : Int) < 1
  · rw [if_pos c]
    exact (List.drop_eq_nil_of_le (by omega)).symm
  · rw [if_neg c]
    by_cases d : hasE a xs (i + 1)
    · rw [if_pos d]
      have h3 : mn (xs.length : Int) xs.length = xs.length := by unfold mn; split <;> omega
      have h4 : mn (xs.length : Int) (i + 1 - a - 1 + xs.length) = xs.length := by unfold mn; split <;> omega
      rw [h3, h4, List.take_of_length_le (by omega), show i + 1 - a - 1 = i - a by omega]
    · rw [if_neg d]
      unfold hasE at d
      exact (List.drop_eq_nil_of_le (by omega)).symm
set_option maxHeartbeats 8000000 in
set_option maxRecDepth 100000 in
theorem rraise_not (W : World) (a b i t r : Int) (bo : Bool) (A : Option Addr) (c : Nat) (xs : List SE) (hC : k63.C W A (pl xs).length (pl xs)) (hc : (pl xs).length ≤ c) (hrow : Row a xs) (ht : termF a b xs i = (r, bo)) (hne : (bo && (r == t)) = false) :
    Calls Try.prog 38 #[.agg #[.int .u64 a, .int .u64 b, .slice none 0 0, .slice A (pl xs).length c], .int .u64 i, .int .u64 t] W fun e w' => e = .returned (.tuple #[.agg #[.int .u64 i, .int .u64 t, .slice none 0 0, .slice none 0 0], .bool false]) ∧ Below W.heap.size W w' := by
  have hu := Try.underlying66
  have hu2 := Try.underlying63
  have S0 := St.start W (fun _ => False)
  have HT : Aside0 (∀ w, Below W.heap.size W w → Calls Try.prog 37 #[.agg #[.int .u64 a, .int .u64 b, .slice none 0 0, .slice A (pl xs).length c], .int .u64 i] w fun e w' => e = .returned (.tuple #[.int .u64 r, .bool bo]) ∧ Below w.heap.size w w') := ⟨fun w hb =>
    jobberref38_Chain_Term.calls (xs.length + 1) a b none 0 [] A c (pl xs) i r bo w (Kd.C_nil _ _) (Nat.le_refl _) (Kd.C_below hC hb) hc (by rw [rterm_eval a b xs hrow i [] (by omega), ht])⟩
  clear hC hc hrow ht
  cases bo with
  | false =>
    clear hne
    go_enter Try.func38, Try.ntmps38
    go_wp2_with (first
      | ((with_reducible refine gate_dst (N := 3) rfl ?_); refine box_event ?hg (N := 3) ?hd (cs := #[.int .u64 a, .int .u64 b, .slice none 0 0, .slice A (pl xs).length c]) (t := 66) ?hr ?_; (case hd => rfl); (case hg => rfl); (case hr => first | (go_simp; done) | (go_simp; rfl)); intro gB hg_ w1 hbB hb; have S1 := S0.box hg_ hb hbB; clear S0 hg_ hbB hb)
      | ((with_reducible refine gate_dst (N := 6) rfl ?_); refine box_event ?hg (N := 6) ?hd (cs := #[.int .u64 0, .int .u64 0, .slice none 0 0, .slice none 0 0]) (t := 66) ?hr ?_; (case hd => rfl); (case hg => rfl); (case hr => first | (go_simp; done) | (go_simp; rfl)); intro gX hg_ w2 hbB hb; have S2 := S1.box hg_ hb hbB; clear S1 hg_ hbB hb; have z0 : w2.cell? ⟨gB, 0, none⟩ = some (.int .u64 a) := (blk_cell (S2.blk 1 rfl) 0).trans rfl; have z1 : w2.cell? ⟨gB, 1, none⟩ = some (.int .u64 b) := (blk_cell (S2.blk 1 rfl) 1).trans rfl; have z2 : w2.cell? ⟨gB, 2, none⟩ = some (.slice none 0 0) := (blk_cell (S2.blk 1 rfl) 2).trans rfl; have z3 : w2.cell? ⟨gB, 3, none⟩ = some (.slice A (pl xs).length c) := (blk_cell (S2.blk 1 rfl) 3).trans rfl)
      | (go_at_call 37; refine (HT.out _ S2.below).mono ?_; rintro e w3 ⟨rfl, hb⟩; have S3 := S2.call hb; clear S2 hb z0 z1 z2 z3; have x0 : w3.cell? ⟨gX, 0, none⟩ = some (.int .u64 0) := (blk_cell (S3.blk 0 rfl) 0).trans rfl; have fx0 : w3.frozen? ⟨gX, 0, none⟩ = false := blk_frozen (S3.blk 0 rfl) 0; have x1 : w3.cell? ⟨gX, 1, none⟩ = some (.int .u64 0) := (blk_cell (S3.blk 0 rfl) 1).trans rfl; have fx1 : w3.frozen? ⟨gX, 1, none⟩ = false := blk_frozen (S3.blk 0 rfl) 1; have x2 : w3.cell? ⟨gX, 2, none⟩ = some (.slice none 0 0) := (blk_cell (S3.blk 0 rfl) 2).trans rfl; have fx2 : w3.frozen? ⟨gX, 2, none⟩ = false := blk_frozen (S3.blk 0 rfl) 2; have x3 : w3.cell? ⟨gX, 3, none⟩ = some (.slice none 0 0) := (blk_cell (S3.blk 0 rfl) 3).trans rfl; have fx3 : w3.frozen? ⟨gX, 3, none⟩ = false := blk_frozen (S3.blk 0 rfl) 3))
    have S4 := (((S3.put 0 (.int .u64 i) rfl).put 1 (.int .u64 t) rfl).put 2 (.slice none 0 0) rfl).put 3 (.slice none 0 0) rfl
    refine bodyPost_ret (results_ct rfl _ _ gX 66 _ (0, 0) _ rfl (S4.blk 0 rfl) Try.underlying66 rfl (by kernel_rfl)) rfl ?_
    exact ⟨rfl, S4.below⟩
  | true =>
    have hq : (r != t) = true := by simpa using hne
    clear hne
    go_enter Try.func38, Try.ntmps38
    go_wp2_with (first
      | ((with_reducible refine gate_dst (N := 3) rfl ?_); refine box_event ?hg (N := 3) ?hd (cs := #[.int .u64 a, .int .u64 b, .slice none 0 0, .slice A (pl xs).length c]) (t := 66) ?hr ?_; (case hd => rfl); (case hg => rfl); (case hr => first | (go_simp; done) | (go_simp; rfl)); intro gB hg_ w1 hbB hb; have S1 := S0.box hg_ hb hbB; clear S0 hg_ hbB hb)
      | ((with_reducible refine gate_dst (N := 6) rfl ?_); refine box_event ?hg (N := 6) ?hd (cs := #[.int .u64 0, .int .u64 0, .slice none 0 0, .slice none 0 0]) (t := 66) ?hr ?_; (case hd => rfl); (case hg => rfl); (case hr => first | (go_simp; done) | (go_simp; rfl)); intro gX hg_ w2 hbB hb; have S2 := S1.box hg_ hb hbB; clear S1 hg_ hbB hb; have z0 : w2.cell? ⟨gB, 0, none⟩ = some (.int .u64 a) := (blk_cell (S2.blk 1 rfl) 0).trans rfl; have z1 : w2.cell? ⟨gB, 1, none⟩ = some (.int .u64 b) := (blk_cell (S2.blk 1 rfl) 1).trans rfl; have z2 : w2.cell? ⟨gB, 2, none⟩ = some (.slice none 0 0) := (blk_cell (S2.blk 1 rfl) 2).trans rfl; have z3 : w2.cell? ⟨gB, 3, none⟩ = some (.slice A (pl xs).length c) := (blk_cell (S2.blk 1 rfl) 3).trans rfl)
      | (go_at_call 37; refine (HT.out _ S2.below).mono ?_; rintro e w3 ⟨rfl, hb⟩; have S3 := S2.call hb; clear S2 hb z0 z1 z2 z3; have x0 : w3.cell? ⟨gX, 0, none⟩ = some (.int .u64 0) := (blk_cell (S3.blk 0 rfl) 0).trans rfl; have fx0 : w3.frozen? ⟨gX, 0, none⟩ = false := blk_frozen (S3.blk 0 rfl) 0; have x1 : w3.cell? ⟨gX, 1, none⟩ = some (.int .u64 0) := (blk_cell (S3.blk 0 rfl) 1).trans rfl; have fx1 : w3.frozen? ⟨gX, 1, none⟩ = false := blk_frozen (S3.blk 0 rfl) 1; have x2 : w3.cell? ⟨gX, 2, none⟩ = some (.slice none 0 0) := (blk_cell (S3.blk 0 rfl) 2).trans rfl; have fx2 : w3.frozen? ⟨gX, 2, none⟩ = false := blk_frozen (S3.blk 0 rfl) 2; have x3 : w3.cell? ⟨gX, 3, none⟩ = some (.slice none 0 0) := (blk_cell (S3.blk 0 rfl) 3).trans rfl; have fx3 : w3.frozen? ⟨gX, 3, none⟩ = false := blk_frozen (S3.blk 0 rfl) 3))
    have S4 := (((S3.put 0 (.int .u64 i) rfl).put 1 (.int .u64 t) rfl).put 2 (.slice none 0 0) rfl).put 3 (.slice none 0 0) rfl
    refine bodyPost_ret (results_ct rfl _ _ gX 66 _ (0, 0) _ rfl (S4.blk 0 rfl) Try.underlying66 rfl (by kernel_rfl)) rfl ?_
    exact ⟨rfl, S4.below⟩
theorem nil_Vw {W w : World} {F0 : Nat → Prop} {l : List Part} (h : St W F0 w l) : St W F0 w (Vw k63 none 0 [] :: l) := h.new (Below.refl _ _) Vw.loc (fun _ _ => Kd.C_nil _ _)
set_option maxHeartbeats 8000000 in
set_option maxRecDepth 100000 in
theorem rraise_stay (W : World) (ok : Nat → Prop) (a b i t : Int) (A : Option Addr) (c : Nat) (xs : List SE) (hC : Kd.F k63 W ok A (pl xs).length (pl xs)) (hc : (pl xs).length ≤ c) (hrow : Row a xs) (ht : termF a b xs i = (t, true)) :
    Calls Try.prog 38 #[.agg #[.int .u64 a, .int .u64 b, .slice none 0 0, .slice A (pl xs).length c], .int .u64 i, .int .u64 t] W fun e w' => ∃ A' c', e = .returned (.tuple #[.agg #[.int .u64 i, .int .u64 t, .slice none 0 0, .slice A' (pl (xs.drop (i - a).toNat)).length c'], .bool true]) ∧ (pl (xs.drop (i - a).toNat)).length ≤ c' ∧ St W ok w' [Vw k63 A' (pl (xs.drop (i - a).toNat)).length (pl (xs.drop (i - a).toNat))] := by
  have hu := Try.underlying66
  have hu2 := Try.underlying63
  have S0 := St.start1 (A := Vw k63 A (pl xs).length (pl xs)) Vw.loc hC
  have HT : Aside0 (∀ w, k63.C w A (pl xs).length (pl xs) → Calls Try.prog 37 #[.agg #[.int .u64 a, .int .u64 b, .slice none 0 0, .slice A (pl xs).length c], .int .u64 i] w fun e w' => e = .returned (.tuple #[.int .u64 t, .bool true]) ∧ Below w.heap.size w w') := ⟨fun w h =>
    jobberref38_Chain_Term.calls (xs.length + 1) a b none 0 [] A c (pl xs) i t true w (Kd.C_nil _ _) (Nat.le_refl _) h hc (by rw [rterm_eval a b xs hrow i [] (by omega), ht])⟩
  have h64 := hrow.hi
  have hrg := term_rng ht
  by_cases hlt : i < 18446744073709551615
  · have d1 : decide (i < 18446744073709551615) = true := decide_eq_true hlt
    have hw1 : IntKind.u64.wrap (i + 1) = i + 1 := by have := hrow.lo; rw [IntKind.wrap_u64]; omega
    obtain ⟨ys, hys⟩ : ∃ ys, pl (xs.drop (i - a).toNat) = ys := ⟨_, rfl⟩
    have HFR : Aside0 (∀ w F, Kd.F k63 w F A (pl xs).length (pl xs) → Calls Try.prog 63 #[.agg #[.int .u64 a, .int .u64 b, .slice none 0 0, .slice A (pl xs).length c], .int .u64 (i + 1), .int .i64 ((pl xs).length : Int)] w fun e w' => ∃ v0_ : Value, e = .returned (v0_) ∧ Kd.N k63 63 w' w.heap.size (fun k_ => (F k_ ∨ w.heap.size ≤ k_)) v0_ ys ∧ Below w.heap.size w w') := ⟨fun w F h =>
      jobberref38_Chain_From.calls (xs.length + 1) a b none 0 [] F A c (pl xs) (i + 1) ((pl xs).length : Int) ys w (Kd.C_nil _ _) (Nat.le_refl _) (Kd.V_mk hc h) (by rw [rfrom_eval xs hrow.few a b (i + 1) _ [] (by omega), fromL_eq a xs hrow, pl_len, from_drop hrow ht, hys])⟩
    rw [hys]
    clear hC hc hrow ht h64 hrg hlt hys
    go_enter Try.func38, Try.ntmps38
    go_wp2_with (first
      | ((with_reducible refine gate_dst (N := 3) rfl ?_); refine box_event ?hg (N := 3) ?hd (cs := #[.int .u64 a, .int .u64 b, .slice none 0 0, .slice A (pl xs).length c]) (t := 66) ?hr ?_; (case hd => rfl); (case hg => rfl); (case hr => first | (go_simp; done) | (go_simp; rfl)); intro gB hg_ w1 hbB hb; have S1 := S0.box hg_ hb hbB; clear S0 hg_ hbB hb)
      | ((with_reducible refine gate_dst (N := 6) rfl ?_); refine box_event ?hg (N := 6) ?hd (cs := #[.int .u64 0, .int .u64 0, .slice none 0 0, .slice none 0 0]) (t := 66) ?hr ?_; (case hd => rfl); (case hg => rfl); (case hr => first | (go_simp; done) | (go_simp; rfl)); intro gX hg_ w2 hbB hb; have S2 := S1.box hg_ hb hbB; clear S1 hg_ hbB hb; have z0 : w2.cell? ⟨gB, 0, none⟩ = some (.int .u64 a) := (blk_cell (S2.blk 1 rfl) 0).trans rfl; have z1 : w2.cell? ⟨gB, 1, none⟩ = some (.int .u64 b) := (blk_cell (S2.blk 1 rfl) 1).trans rfl; have z2 : w2.cell? ⟨gB, 2, none⟩ = some (.slice none 0 0) := (blk_cell (S2.blk 1 rfl) 2).trans rfl; have z3 : w2.cell? ⟨gB, 3, none⟩ = some (.slice A (pl xs).length c) := (blk_cell (S2.blk 1 rfl) 3).trans rfl)
      | (go_at_call 37; refine (HT.out _ (S2.vw 2 rfl)).mono ?_; rintro e w3 ⟨rfl, hb⟩; have S3 := S2.call hb; clear S2 hb z0 z1 z2 z3; have z0 : w3.cell? ⟨gB, 0, none⟩ = some (.int .u64 a) := (blk_cell (S3.blk 1 rfl) 0).trans rfl; have z1 : w3.cell? ⟨gB, 1, none⟩ = some (.int .u64 b) := (blk_cell (S3.blk 1 rfl) 1).trans rfl; have z2 : w3.cell? ⟨gB, 2, none⟩ = some (.slice none 0 0) := (blk_cell (S3.blk 1 rfl) 2).trans rfl; have z3 : w3.cell? ⟨gB, 3, none⟩ = some (.slice A (pl xs).length c) := (blk_cell (S3.blk 1 rfl) 3).trans rfl)
      | (go_at_call 63; obtain ⟨F, hF, hu4⟩ := (S3.front 2 rfl).sharedV; (with_reducible refine (HFR.out w3 F hF).mono ?_); rintro e w5 ⟨v, rfl, hN, hb⟩; obtain ⟨A5, c5, e5⟩ := Kd.N_slice hN; subst e5; have S5 := hu4 w5 (Nw k63 63 (.slice A5 ys.length c5) ys) hb Nw.loc (Kd.N_lower hN (Nat.zero_le _)); have hl5 := (S5.nrd 0 rfl).2.1; clear S3 hF hu4 hN hb z0 z1 z2 z3; have z0 : w5.cell? ⟨gB, 0, none⟩ = some (.int .u64 a) := (blk_cell (S5.blk 2 rfl) 0).trans rfl; have fz0 : w5.frozen? ⟨gB, 0, none⟩ = false := blk_frozen (S5.blk 2 rfl) 0; have z1 : w5.cell? ⟨gB, 1, none⟩ = some (.int .u64 b) := (blk_cell (S5.blk 2 rfl) 1).trans rfl; have fz1 : w5.frozen? ⟨gB, 1, none⟩ = false := blk_frozen (S5.blk 2 rfl) 1; have z2 : w5.cell? ⟨gB, 2, none⟩ = some (.slice none 0 0) := (blk_cell (S5.blk 2 rfl) 2).trans rfl; have fz2 : w5.frozen? ⟨gB, 2, none⟩ = false := blk_frozen (S5.blk 2 rfl) 2; have z3 : w5.cell? ⟨gB, 3, none⟩ = some (.slice A (pl xs).length c) := (blk_cell (S5.blk 2 rfl) 3).trans rfl; have fz3 : w5.frozen? ⟨gB, 3, none⟩ = false := blk_frozen (S5.blk 2 rfl) 3; have x0 : w5.cell? ⟨gX, 0, none⟩ = some (.int .u64 0) := (blk_cell (S5.blk 1 rfl) 0).trans rfl; have fx0 : w5.frozen? ⟨gX, 0, none⟩ = false := blk_frozen (S5.blk 1 rfl) 0; have x1 : w5.cell? ⟨gX, 1, none⟩ = some (.int .u64 0) := (blk_cell (S5.blk 1 rfl) 1).trans rfl; have fx1 : w5.frozen? ⟨gX, 1, none⟩ = false := blk_frozen (S5.blk 1 rfl) 1; have x2 : w5.cell? ⟨gX, 2, none⟩ = some (.slice none 0 0) := (blk_cell (S5.blk 1 rfl) 2).trans rfl; have fx2 : w5.frozen? ⟨gX, 2, none⟩ = false := blk_frozen (S5.blk 1 rfl) 2; have x3 : w5.cell? ⟨gX, 3, none⟩ = some (.slice none 0 0) := (blk_cell (S5.blk 1 rfl) 3).trans rfl; have fx3 : w5.frozen? ⟨gX, 3, none⟩ = false := blk_frozen (S5.blk 1 rfl) 3; have nx : gX ≠ gB := S5.ne 1 2 rfl rfl (by decide); have nx' := Ne.symm nx))
    have S6 := ((((((((S5.front 2 rfl).put 3 (.slice A5 ys.length c5) rfl).put 0 (.int .u64 i) rfl).put 1 (.int .u64 t) rfl).put 2 (.slice none 0 0) rfl).front 2 rfl).put 0 (.int .u64 i) rfl).put 1 (.int .u64 t) rfl).put 2 (.slice none 0 0) rfl |>.put 3 (.slice A5 ys.length c5) rfl
    refine bodyPost_ret (results_ct rfl _ _ gX 66 _ (0, 0) _ rfl (S6.blk 0 rfl) Try.underlying66 rfl (by kernel_rfl)) rfl ?_
    exact ⟨A5, c5, rfl, hl5, ((S6.front 2 rfl).nw_vw).take 1⟩
  · have d1 : decide (i < 18446744073709551615) = false := decide_eq_false hlt
    have hnil : xs.drop (i - a).toNat = [] := List.drop_eq_nil_of_le (by omega)
    rw [hnil]
    clear hC hc hrow ht h64 hrg hlt hnil
    go_enter Try.func38, Try.ntmps38
    go_wp2_with (first
      | ((with_reducible refine gate_dst (N := 3) rfl ?_); refine box_event ?hg (N := 3) ?hd (cs := #[.int .u64 a, .int .u64 b, .slice none 0 0, .slice A (pl xs).length c]) (t := 66) ?hr ?_; (case hd => rfl); (case hg => rfl); (case hr => first | (go_simp; done) | (go_simp; rfl)); intro gB hg_ w1 hbB hb; have S1 := S0.box hg_ hb hbB; clear S0 hg_ hbB hb)
      | ((with_reducible refine gate_dst (N := 6) rfl ?_); refine box_event ?hg (N := 6) ?hd (cs := #[.int .u64 0, .int .u64 0, .slice none 0 0, .slice none 0 0]) (t := 66) ?hr ?_; (case hd => rfl); (case hg => rfl); (case hr => first | (go_simp; done) | (go_simp; rfl)); intro gX hg_ w2 hbB hb; have S2 := S1.box hg_ hb hbB; clear S1 hg_ hbB hb; have z0 : w2.cell? ⟨gB, 0, none⟩ = some (.int .u64 a) := (blk_cell (S2.blk 1 rfl) 0).trans rfl; have z1 : w2.cell? ⟨gB, 1, none⟩ = some (.int .u64 b) := (blk_cell (S2.blk 1 rfl) 1).trans rfl; have z2 : w2.cell? ⟨gB, 2, none⟩ = some (.slice none 0 0) := (blk_cell (S2.blk 1 rfl) 2).trans rfl; have z3 : w2.cell? ⟨gB, 3, none⟩ = some (.slice A (pl xs).length c) := (blk_cell (S2.blk 1 rfl) 3).trans rfl)
      | (go_at_call 37; refine (HT.out _ (S2.vw 2 rfl)).mono ?_; rintro e w3 ⟨rfl, hb⟩; have S3 := S2.call hb; clear S2 hb z0 z1 z2 z3; have z0 : w3.cell? ⟨gB, 0, none⟩ = some (.int .u64 a) := (blk_cell (S3.blk 1 rfl) 0).trans rfl; have fz0 : w3.frozen? ⟨gB, 0, none⟩ = false := blk_frozen (S3.blk 1 rfl) 0; have z1 : w3.cell? ⟨gB, 1, none⟩ = some (.int .u64 b) := (blk_cell (S3.blk 1 rfl) 1).trans rfl; have fz1 : w3.frozen? ⟨gB, 1, none⟩ = false := blk_frozen (S3.blk 1 rfl) 1; have z2 : w3.cell? ⟨gB, 2, none⟩ = some (.slice none 0 0) := (blk_cell (S3.blk 1 rfl) 2).trans rfl; have fz2 : w3.frozen? ⟨gB, 2, none⟩ = false := blk_frozen (S3.blk 1 rfl) 2; have z3 : w3.cell? ⟨gB, 3, none⟩ = some (.slice A (pl xs).length c) := (blk_cell (S3.blk 1 rfl) 3).trans rfl; have fz3 : w3.frozen? ⟨gB, 3, none⟩ = false := blk_frozen (S3.blk 1 rfl) 3; have x0 : w3.cell? ⟨gX, 0, none⟩ = some (.int .u64 0) := (blk_cell (S3.blk 0 rfl) 0).trans rfl; have fx0 : w3.frozen? ⟨gX, 0, none⟩ = false := blk_frozen (S3.blk 0 rfl) 0; have x1 : w3.cell? ⟨gX, 1, none⟩ = some (.int .u64 0) := (blk_cell (S3.blk 0 rfl) 1).trans rfl; have fx1 : w3.frozen? ⟨gX, 1, none⟩ = false := blk_frozen (S3.blk 0 rfl) 1; have x2 : w3.cell? ⟨gX, 2, none⟩ = some (.slice none 0 0) := (blk_cell (S3.blk 0 rfl) 2).trans rfl; have fx2 : w3.frozen? ⟨gX, 2, none⟩ = false := blk_frozen (S3.blk 0 rfl) 2; have x3 : w3.cell? ⟨gX, 3, none⟩ = some (.slice none 0 0) := (blk_cell (S3.blk 0 rfl) 3).trans rfl; have fx3 : w3.frozen? ⟨gX, 3, none⟩ = false := blk_frozen (S3.blk 0 rfl) 3; have nx : gX ≠ gB := S3.ne 0 1 rfl rfl (by decide); have nx' := Ne.symm nx))
    have S6 := ((((((((S3.front 1 rfl).put 3 (.slice none 0 0) rfl).put 0 (.int .u64 i) rfl).put 1 (.int .u64 t) rfl).put 2 (.slice none 0 0) rfl).front 1 rfl).put 0 (.int .u64 i) rfl).put 1 (.int .u64 t) rfl).put 2 (.slice none 0 0) rfl |>.put 3 (.slice none 0 0) rfl
    refine bodyPost_ret (results_ct rfl _ _ gX 66 _ (0, 0) _ rfl (S6.blk 0 rfl) Try.underlying66 rfl (by kernel_rfl)) rfl ?_
    exact ⟨none, 0, rfl, Nat.le_refl _, (nil_Vw S6).take 1⟩
def onlyN (K : Act → World → Prop) : Exit → Act → World → Prop
  | .normal, a, w => K a w
  | _, _, _ => False
theorem onlyN_mk {K : Act → World → Prop} {a : Act} {w : World} (h : K a w) : onlyN K .normal a w := h
theorem onlyN_to {Q : Exit → Act → World → Prop} : ∀ e a w, onlyN (Q .normal) e a w → Q e a w
  | .normal, _, _, h => h
  | .ret, _, _, h => h.elim
  | .exit _, _, _, h => h.elim
  | .goto _, _, _, h => h.elim
  | .panic _, _, _, h => h.elim
  | .outgrown, _, _, h => h.elim
def findR (id : Nat) : Code → Option (Array Oper)
  | .region i ops _ => if i == id then some ops else none
  | .seq a b => (findR id a).orElse fun _ => findR id b
  | .cond _ a b => (findR id a).orElse fun _ => findR id b
  | .block _ a => findR id a
  | .loop a => findR id a
  | .rangeFunc _ _ a b => (findR id a).orElse fun _ => findR id b
  | .scope a => findR id a
  | _ => none

theorem far3 {w : World} {g : Nat} {p : Addr} (h : p.block ≠ g) (u v x : Value) : (((w.setCell ⟨g, 0, none⟩ u).setCell ⟨g, 1, none⟩ v).setCell ⟨g, 2, none⟩ x).cell? p = w.cell? p := by
  rw [World.cell?_setCell_other _ _ _ _ (by rintro rfl; exact h rfl), World.cell?_setCell_other _ _ _ _ (by rintro rfl; exact h rfl), World.cell?_setCell_other _ _ _ _ (by rintro rfl; exact h rfl)]

set_option maxHeartbeats 16000000 in
set_option maxRecDepth 100000 in
theorem rj21 {Q : Exit → Act → World → Prop} {ops : Array Oper} (hops : findR 21 ((Try.f40.body).getD .skip) = some ops) {wr : World} {dfs : List Deferred} {gB : Nat} {a b j x0 x1 : Int} {ad : Addr} {A : Option Addr} {n c2 c m : Nat}
    {e0 e1 : Int} {eb : Bool}
    (p1 : (0 ≤ j) = True) (p2 : (j < (n : Int)) = True)
    (hz : wr.cell? ⟨gB, 0, none⟩ = some (.int .u64 a) ∧ wr.cell? ⟨gB, 1, none⟩ = some (.int .u64 b) ∧ wr.cell? ⟨gB, 2, none⟩ = some (.slice none 0 0) ∧ wr.cell? ⟨gB, 3, none⟩ = some (.slice A m c))
    (hx0 : wr.cell? (ad.add (j.toNat * 3)) = some (.int .u64 x0))
    (hE : ∀ w', Below wr.heap.size wr w' → Calls Try.prog 62 #[.agg #[.int .u64 a, .int .u64 b, .slice none 0 0, .slice A m c], .int .u64 x0] w' fun e w'' => ∃ Av cv mv, e = .returned (.tuple #[.agg #[.int .u64 e0, .int .u64 e1, .slice Av mv cv], .bool eb]) ∧ Below w'.heap.size w' w'')
    {T0 T1 T2 T5 T6 T7 T8 T9 T10 T11 T12 T13 T14 T16 T17 T18 T19 T20 T21 T22 T23 T24 T25 T26 T27 T28 T29 T30 T31 T32 T33 T34 T35 T36 T37 T38 T39 T40 T41 T42 T43 T44 T45 T46 T47 T48 T49 T50 T51 T52 T53 T54 T55 T56 T57 T58 T59 T60 T61 T62 T63 T64 T65 T66 T67 T68 T69 T70 T71 T72 T73 T74 T75 T76 T77 T78 T79 T80 T81 T82 T83 T84 T85 T86 T87 T88 T89 T90 T91 T92 T93 T94 T95 T96 T97 T98 T99 T100 T101 T102 T103 T104 T105 T106 T107 T108 T109 T110 T111 T112 : Value}
    (hK : ∀ u83 u84 u85 u86 u87 u88 u89 u82 u90 u91 : Value, ∀ (g16 : Nat) (w' : World) Av cv mv, Below wr.heap.size wr w' → w'.heap[g16]? = some (.cells #[.int .u64 e0, .int .u64 e1, .slice Av mv cv] 63 (0, 0)) → Q .normal { tmps := #[T0, T1, T2, .slice (some ad) n c2, .pointer (some ⟨gB, 0, none⟩), T5, T6, T7, T8, T9, T10, T11, T12, T13, T14, .int .i64 j, .pointer (some ⟨g16, 0, none⟩), .bool eb, T18, T19, T20, T21, T22, T23, T24, T25, T26, T27, T28, T29, T30, T31, T32, T33, T34, T35, T36, T37, T38, T39, T40, T41, T42, T43, T44, T45, T46, T47, T48, T49, T50, T51, T52, T53, T54, T55, T56, T57, T58, T59, T60, T61, T62, T63, T64, T65, T66, T67, T68, T69, T70, T71, T72, T73, T74, T75, T76, T77, T78, T79, T80, T81, u82, u83, u84, u85, u86, u87, u88, u89, u90, u91, T92, T93, T94, T95, T96, T97, T98, T99, T100, T101, T102, T103, T104, T105, T106, T107, T108, T109, T110, T111, T112], defers := dfs } (w')) :
    (Code.region 21 ops true).wp Try.prog Q { tmps := #[T0, T1, T2, .slice (some ad) n c2, .pointer (some ⟨gB, 0, none⟩), T5, T6, T7, T8, T9, T10, T11, T12, T13, T14, .int .i64 j, T16, T17, T18, T19, T20, T21, T22, T23, T24, T25, T26, T27, T28, T29, T30, T31, T32, T33, T34, T35, T36, T37, T38, T39, T40, T41, T42, T43, T44, T45, T46, T47, T48, T49, T50, T51, T52, T53, T54, T55, T56, T57, T58, T59, T60, T61, T62, T63, T64, T65, T66, T67, T68, T69, T70, T71, T72, T73, T74, T75, T76, T77, T78, T79, T80, T81, T82, T83, T84, T85, T86, T87, T88, T89, T90, T91, T92, T93, T94, T95, T96, T97, T98, T99, T100, T101, T102, T103, T104, T105, T106, T107, T108, T109, T110, T111, T112], defers := dfs } wr := by
  have hops' := Option.some.inj (hops.symm.trans (show findR 21 ((Try.f40.body).getD .skip) = some _ from rfl))
  subst hops'
  clear hops
  have HE := Aside0.mk hE
  have HZ := Aside0.mk hz
  have HX := Aside0.mk hx0
  obtain ⟨z0, z1, z2, z3⟩ := hz
  have n1 : gB ≠ wr.heap.size := Nat.ne_of_lt (World.block_lt_of_cell? wr _ z0)
  have n2 : (ad.add (j.toNat * 3)).block ≠ wr.heap.size := Nat.ne_of_lt (World.block_lt_of_cell? wr _ hx0)
  clear hE
  go_region_held3 (fun w' => (w'.cell? ⟨gB, 0, none⟩ = some (.int .u64 a) ∧ w'.cell? ⟨gB, 1, none⟩ = some (.int .u64 b) ∧ w'.cell? ⟨gB, 2, none⟩ = some (.slice none 0 0) ∧ w'.cell? ⟨gB, 3, none⟩ = some (.slice A m c)) ∧ w'.cell? (ad.add (j.toNat * 3)) = some (.int .u64 x0)) (first | exact Y5 | exact Y6 _ _ _ | go_keep) (first
    | (go_at_call 62; refine Calls.named ?_; intro w4 hw4; have hB4 : Below wr.heap.size wr w4 := (by rw [hw4]; with_reducible exact below_drew1 (Below.refl _ _)); clear hw4; (with_reducible refine (HE.out w4 hB4).mono ?_); rintro e w5 ⟨Av, cv, mv, rfl, hb⟩; have hB5 := below_step hB4 hb; have Y5 : (w5.cell? ⟨gB, 0, none⟩ = some (.int .u64 a) ∧ w5.cell? ⟨gB, 1, none⟩ = some (.int .u64 b) ∧ w5.cell? ⟨gB, 2, none⟩ = some (.slice none 0 0) ∧ w5.cell? ⟨gB, 3, none⟩ = some (.slice A m c)) ∧ w5.cell? (ad.add (j.toNat * 3)) = some (.int .u64 x0) := ⟨⟨(pw_cell_below hB5 HZ.out.1), (pw_cell_below hB5 HZ.out.2.1), (pw_cell_below hB5 HZ.out.2.2.1), (pw_cell_below hB5 HZ.out.2.2.2)⟩, pw_cell_below hB5 HX.out⟩; clear hB4 hb)
    | (go_at_call 62; refine Calls.named ?_; intro w4 hw4; have hB4 : Below wr.heap.size wr w4 := (by rw [hw4]; exact below_drew1 (below_alloc (Below.refl _ _) _)); have hg4 : w4.heap[wr.heap.size]? = some (.cells #[.int .u64 0, .int .u64 0, .slice none 0 0] 63 (0, 0)) := (by rw [hw4]; exact blk_new wr _); clear hw4; (with_reducible refine (HE.out w4 hB4).mono ?_); rintro e w5 ⟨Av, cv, mv, rfl, hb⟩; have hB5 := below_step hB4 hb; have Y5 : (w5.cell? ⟨gB, 0, none⟩ = some (.int .u64 a) ∧ w5.cell? ⟨gB, 1, none⟩ = some (.int .u64 b) ∧ w5.cell? ⟨gB, 2, none⟩ = some (.slice none 0 0) ∧ w5.cell? ⟨gB, 3, none⟩ = some (.slice A m c)) ∧ w5.cell? (ad.add (j.toNat * 3)) = some (.int .u64 x0) := ⟨⟨(pw_cell_below hB5 HZ.out.1), (pw_cell_below hB5 HZ.out.2.1), (pw_cell_below hB5 HZ.out.2.2.1), (pw_cell_below hB5 HZ.out.2.2.2)⟩, pw_cell_below hB5 HX.out⟩; have Y6 : ∀ u_ v_ x_ : Value, ((((w5.setCell ⟨wr.heap.size, 0, none⟩ u_).setCell ⟨wr.heap.size, 1, none⟩ v_).setCell ⟨wr.heap.size, 2, none⟩ x_).cell? ⟨gB, 0, none⟩ = some (.int .u64 a) ∧ (((w5.setCell ⟨wr.heap.size, 0, none⟩ u_).setCell ⟨wr.heap.size, 1, none⟩ v_).setCell ⟨wr.heap.size, 2, none⟩ x_).cell? ⟨gB, 1, none⟩ = some (.int .u64 b) ∧ (((w5.setCell ⟨wr.heap.size, 0, none⟩ u_).setCell ⟨wr.heap.size, 1, none⟩ v_).setCell ⟨wr.heap.size, 2, none⟩ x_).cell? ⟨gB, 2, none⟩ = some (.slice none 0 0) ∧ (((w5.setCell ⟨wr.heap.size, 0, none⟩ u_).setCell ⟨wr.heap.size, 1, none⟩ v_).setCell ⟨wr.heap.size, 2, none⟩ x_).cell? ⟨gB, 3, none⟩ = some (.slice A m c)) ∧ (((w5.setCell ⟨wr.heap.size, 0, none⟩ u_).setCell ⟨wr.heap.size, 1, none⟩ v_).setCell ⟨wr.heap.size, 2, none⟩ x_).cell? (ad.add (j.toNat * 3)) = some (.int .u64 x0) := (fun u_ v_ x_ => ⟨⟨(far3 n1 u_ v_ x_).trans Y5.1.1, (far3 n1 u_ v_ x_).trans Y5.1.2.1, (far3 n1 u_ v_ x_).trans Y5.1.2.2.1, (far3 n1 u_ v_ x_).trans Y5.1.2.2.2⟩, (far3 n2 u_ v_ x_).trans Y5.2⟩); have hg5 := (hb.block _ (blk_lt hg4)).trans hg4; have y0 : w5.cell? ⟨wr.heap.size, 0, none⟩ = some (.int .u64 0) := (blk_cell hg5 0).trans rfl; have y1 : w5.cell? ⟨wr.heap.size, 1, none⟩ = some (.int .u64 0) := (blk_cell hg5 1).trans rfl; have y2 : w5.cell? ⟨wr.heap.size, 2, none⟩ = some (.slice none 0 0) := (blk_cell hg5 2).trans rfl; have q0 := blk_frozen hg5 0; have q1 := blk_frozen hg5 1; have q2 := blk_frozen hg5 2; have HG5 := Aside0.mk hg5; clear hB4 hb hg4 hg5))
  all_goals (go_wp2_with fail)
  · exact hK _ _ _ _ _ _ _ _ _ _ _ _ _ _ _ (below_alloc hB5 _) (blk_new w5 _)
  · exact hK _ _ _ _ _ _ _ _ _ _ _ _ _ _ _ (((Fr.of_below (F := fun _ => False) hB5).set (.inr (Nat.le_refl _)) _ |>.set (.inr (Nat.le_refl _)) _).set (.inr (Nat.le_refl _)) _).below (blk_put (cs := #[.int .u64 e0, .int .u64 e1, .slice none 0 0]) (blk_put (cs := #[.int .u64 e0, .int .u64 0, .slice none 0 0]) (blk_put (cs := #[.int .u64 0, .int .u64 0, .slice none 0 0]) HG5.out 0 _ rfl) 1 _ rfl) 2 _ rfl)

set_option maxHeartbeats 16000000 in
set_option maxRecDepth 100000 in
theorem rj23 {Q : Exit → Act → World → Prop} {ops : Array Oper} (hops : findR 23 ((Try.f40.body).getD .skip) = some ops) {wr : World} {dfs : List Deferred} {gB g16 : Nat} {a b j x0 x1 e1 : Int} {ad : Addr} {n c2 : Nat} {bb : Bool}
    (p1 : (0 ≤ j) = True) (p2 : (j < (n : Int)) = True)
    {V9 : Value} (hcut : ∀ W : World, (Instr.slice 64 (.slice (some ad) n c2) (some (.int .i64 j)) none none).run Try.prog W = .ok V9 W)
    {T0 T1 T2 T4 T5 T6 T7 T8 T9 T10 T11 T12 T13 T14 T16 T17 T18 T19 T20 T21 T22 T23 T24 T25 T26 T27 T28 T29 T30 T31 T32 T33 T34 T35 T36 T37 T38 T39 T40 T41 T42 T43 T44 T45 T46 T47 T48 T49 T50 T51 T52 T53 T54 T55 T56 T57 T58 T59 T60 T61 T62 T63 T64 T65 T66 T67 T68 T69 T70 T71 T72 T73 T74 T75 T76 T77 T78 T79 T80 T81 T82 T83 T84 T85 T86 T87 T88 T89 T90 T91 T92 T93 T94 T95 T96 T97 T98 T99 T100 T101 T102 T103 T104 T105 T106 T107 T108 T109 T110 T111 T112 : Value}
    (hK : ∀ u94 u95 u96 : Value, Q .normal { tmps := #[T0, T1, T2, .slice (some ad) n c2, T4, T5, T6, T7, .int .u64 0, V9, .bool true, T11, T12, T13, T14, .int .i64 j, T16, T17, T18, T19, T20, T21, T22, T23, T24, T25, T26, T27, T28, T29, T30, T31, T32, T33, T34, T35, T36, T37, T38, T39, T40, T41, T42, T43, T44, T45, T46, T47, T48, T49, T50, T51, T52, T53, T54, T55, T56, T57, T58, T59, T60, T61, T62, T63, T64, T65, T66, T67, T68, T69, T70, T71, T72, T73, T74, T75, T76, T77, T78, T79, T80, T81, T82, T83, T84, T85, T86, T87, T88, T89, T90, T91, T92, T93, u94, u95, u96, T97, T98, T99, T100, T101, T102, T103, T104, T105, T106, T107, T108, T109, T110, T111, T112], defers := dfs } (wr.drew)) :
    (Code.region 23 ops true).wp Try.prog Q { tmps := #[T0, T1, T2, .slice (some ad) n c2, T4, T5, T6, T7, T8, T9, T10, T11, T12, T13, T14, .int .i64 j, T16, T17, T18, T19, T20, T21, T22, T23, T24, T25, T26, T27, T28, T29, T30, T31, T32, T33, T34, T35, T36, T37, T38, T39, T40, T41, T42, T43, T44, T45, T46, T47, T48, T49, T50, T51, T52, T53, T54, T55, T56, T57, T58, T59, T60, T61, T62, T63, T64, T65, T66, T67, T68, T69, T70, T71, T72, T73, T74, T75, T76, T77, T78, T79, T80, T81, T82, T83, T84, T85, T86, T87, T88, T89, T90, T91, T92, T93, T94, T95, T96, T97, T98, T99, T100, T101, T102, T103, T104, T105, T106, T107, T108, T109, T110, T111, T112], defers := dfs } wr := by
  have hops' := Option.some.inj (hops.symm.trans (show findR 23 ((Try.f40.body).getD .skip) = some _ from rfl))
  subst hops'
  clear hops
  refine wp_mono (Q := onlyN (Q .normal)) ?_ onlyN_to
  refine start_ (n := 6) (S := fun w' => True) (ds := []) #[false, false, false, false, false, false] (by kernel_rfl) rfl rfl trivial (fun hHeld => ?_)
  refine pure_ (i := 0) (N := some 94) (v := ?_) (a' := ?_) #[true, false, false, false, false, false] rfl rfl (by kernel_rfl) (fun _ _ _ h => h) (Or.inl ⟨by rfl, ?_⟩) ?_ ?_
  rotate_left
  · intro w'
    go_simp
    with_reducible rfl
  rotate_left
  · simp only [Act.put, List.setIfInBounds_toArray, List.set_cons_zero, List.set_cons_succ, i64_w, i32_w]
    rfl
  refine pure_ (i := 1) (N := some 95) (v := ?_) (a' := ?_) #[true, true, false, false, false, false] rfl rfl (by kernel_rfl) (fun _ _ _ h => h) (Or.inl ⟨by rfl, ?_⟩) ?_ ?_
  rotate_left
  · intro w'
    go_simp
    with_reducible rfl
  rotate_left
  · simp only [Act.put, List.setIfInBounds_toArray, List.set_cons_zero, List.set_cons_succ, i64_w, i32_w]
    rfl
  refine pure_ (i := 2) (N := some 96) (v := ?_) (a' := ?_) #[true, true, true, false, false, false] rfl rfl (by kernel_rfl) (fun _ _ _ h => h) (Or.inl ⟨by rfl, ?_⟩) ?_ ?_
  rotate_left
  · intro w'
    go_simp
    with_reducible rfl
  rotate_left
  · simp only [Act.put, List.setIfInBounds_toArray, List.set_cons_zero, List.set_cons_succ, i64_w, i32_w]
    rfl
  refine pure_ (i := 3) (N := some 8) (v := ?_) (a' := ?_) #[true, true, true, true, false, false] rfl rfl (by kernel_rfl) (fun _ _ _ h => h) (Or.inl ⟨by rfl, ?_⟩) ?_ ?_
  rotate_left
  · intro w'
    go_simp
    with_reducible rfl
  rotate_left
  · simp only [Act.put, List.setIfInBounds_toArray, List.set_cons_zero, List.set_cons_succ, i64_w, i32_w]
    rfl
  refine pure_ (i := 4) (N := some 9) (v := ?_) (a' := ?_) #[true, true, true, true, true, false] rfl rfl (by kernel_rfl) (fun _ _ _ h => h) (Or.inl ⟨by rfl, ?_⟩) ?_ ?_
  rotate_left
  · intro w'
    go_simp
    with_reducible rfl
  rotate_left
  · simp only [Act.put, List.setIfInBounds_toArray, List.set_cons_zero, List.set_cons_succ, i64_w, i32_w]
    rfl
  refine pure_ (i := 5) (N := some 10) (v := ?_) (a' := ?_) #[true, true, true, true, true, true] rfl rfl (by kernel_rfl) (fun _ _ _ h => h) (Or.inl ⟨by rfl, ?_⟩) ?_ ?_
  rotate_left
  · intro w'
    go_simp
    with_reducible rfl
  rotate_left
  · simp only [Act.put, List.setIfInBounds_toArray, List.set_cons_zero, List.set_cons_succ, i64_w, i32_w]
    rfl
  refine done_ (by kernel_rfl) ?_
  refine onlyN_mk ?_
  exact hK _ _ _

set_option maxHeartbeats 16000000 in
set_option maxRecDepth 100000 in
theorem rj24 {Q : Exit → Act → World → Prop} {ops : Array Oper} (hops : findR 24 ((Try.f40.body).getD .skip) = some ops) {wr : World} {dfs : List Deferred} {gB g16 : Nat} {a b j x0 x1 e1 : Int} {ad : Addr} {n c2 : Nat} {bb : Bool}
    (p1 : (0 ≤ j) = True) (p2 : (j < (n : Int)) = True)
    (hy : wr.cell? ⟨g16, 1, none⟩ = some (.int .u64 e1))
    (hx1 : wr.cell? ⟨(ad.add (j.toNat * 3)).block, (ad.add (j.toNat * 3)).off + 1, none⟩ = some (.int .u64 x1))
    (hbb : (e1 != x1) = bb)
    {T0 T1 T2 T4 T5 T6 T7 T8 T9 T10 T11 T12 T13 T14 T17 T18 T19 T20 T21 T22 T23 T24 T25 T26 T27 T28 T29 T30 T31 T32 T33 T34 T35 T36 T37 T38 T39 T40 T41 T42 T43 T44 T45 T46 T47 T48 T49 T50 T51 T52 T53 T54 T55 T56 T57 T58 T59 T60 T61 T62 T63 T64 T65 T66 T67 T68 T69 T70 T71 T72 T73 T74 T75 T76 T77 T78 T79 T80 T81 T82 T83 T84 T85 T86 T87 T88 T89 T90 T91 T92 T93 T94 T95 T96 T97 T98 T99 T100 T101 T102 T103 T104 T105 T106 T107 T108 T109 T110 T111 T112 : Value}
    (hK : ∀ u97 u98 u99 u100 u101 u102 u103 : Value, Q .normal { tmps := #[T0, T1, T2, .slice (some ad) n c2, T4, T5, T6, T7, T8, T9, T10, T11, T12, T13, T14, .int .i64 j, .pointer (some ⟨g16, 0, none⟩), T17, T18, T19, T20, T21, T22, T23, T24, T25, T26, T27, T28, T29, T30, T31, T32, T33, T34, T35, T36, T37, T38, T39, T40, T41, T42, T43, T44, T45, T46, T47, T48, T49, T50, T51, T52, T53, T54, T55, T56, T57, T58, T59, T60, T61, T62, T63, T64, T65, T66, T67, T68, T69, T70, T71, T72, T73, T74, T75, T76, T77, T78, T79, T80, T81, T82, T83, T84, T85, T86, T87, T88, T89, T90, T91, T92, T93, T94, T95, T96, u97, u98, u99, u100, u101, u102, u103, .bool bb, T105, T106, T107, T108, T109, T110, T111, T112], defers := dfs } (wr.drew)) :
    (Code.region 24 ops true).wp Try.prog Q { tmps := #[T0, T1, T2, .slice (some ad) n c2, T4, T5, T6, T7, T8, T9, T10, T11, T12, T13, T14, .int .i64 j, .pointer (some ⟨g16, 0, none⟩), T17, T18, T19, T20, T21, T22, T23, T24, T25, T26, T27, T28, T29, T30, T31, T32, T33, T34, T35, T36, T37, T38, T39, T40, T41, T42, T43, T44, T45, T46, T47, T48, T49, T50, T51, T52, T53, T54, T55, T56, T57, T58, T59, T60, T61, T62, T63, T64, T65, T66, T67, T68, T69, T70, T71, T72, T73, T74, T75, T76, T77, T78, T79, T80, T81, T82, T83, T84, T85, T86, T87, T88, T89, T90, T91, T92, T93, T94, T95, T96, T97, T98, T99, T100, T101, T102, T103, T104, T105, T106, T107, T108, T109, T110, T111, T112], defers := dfs } wr := by
  have hops' := Option.some.inj (hops.symm.trans (show findR 24 ((Try.f40.body).getD .skip) = some _ from rfl))
  subst hops'
  clear hops
  refine wp_mono (Q := onlyN (Q .normal)) ?_ onlyN_to
  refine start_ (n := 8) (S := fun w' => w'.cell? ⟨g16, 1, none⟩ = some (.int .u64 e1) ∧ w'.cell? ⟨(ad.add (j.toNat * 3)).block, (ad.add (j.toNat * 3)).off + 1, none⟩ = some (.int .u64 x1)) (ds := []) #[false, false, false, false, false, false, false, false] (by kernel_rfl) rfl rfl ⟨hy, hx1⟩ (fun hHeld => ?_)
  refine pure_ (i := 0) (N := some 97) (v := ?_) (a' := ?_) #[true, false, false, false, false, false, false, false] rfl rfl (by kernel_rfl) (fun _ _ _ h => h) (Or.inl ⟨by rfl, ?_⟩) ?_ ?_
  rotate_left
  · intro w'
    go_simp
    with_reducible rfl
  rotate_left
  · simp only [Act.put, List.setIfInBounds_toArray, List.set_cons_zero, List.set_cons_succ, i64_w, i32_w]
    rfl
  refine pure_ (i := 2) (N := some 99) (v := ?_) (a' := ?_) #[true, false, true, false, false, false, false, false] rfl rfl (by kernel_rfl) (fun _ _ _ h => h) (Or.inl ⟨by rfl, ?_⟩) ?_ ?_
  rotate_left
  · intro w'
    go_simp
    with_reducible rfl
  rotate_left
  · simp only [Act.put, List.setIfInBounds_toArray, List.set_cons_zero, List.set_cons_succ, i64_w, i32_w]
    rfl
  refine pure_ (i := 3) (N := some 100) (v := ?_) (a' := ?_) #[true, false, true, true, false, false, false, false] rfl rfl (by kernel_rfl) (fun _ _ _ h => h) (Or.inl ⟨by rfl, ?_⟩) ?_ ?_
  rotate_left
  · intro w'
    go_simp
    with_reducible rfl
  rotate_left
  · simp only [Act.put, List.setIfInBounds_toArray, List.set_cons_zero, List.set_cons_succ, i64_w, i32_w]
    rfl
  refine pure_ (i := 4) (N := some 101) (v := ?_) (a' := ?_) #[true, false, true, true, true, false, false, false] rfl rfl (by kernel_rfl) (fun _ _ _ h => h) (Or.inl ⟨by rfl, ?_⟩) ?_ ?_
  rotate_left
  · intro w'
    go_simp
    with_reducible rfl
  rotate_left
  · simp only [Act.put, List.setIfInBounds_toArray, List.set_cons_zero, List.set_cons_succ, i64_w, i32_w]
    rfl
  refine pure_ (i := 5) (N := some 102) (v := ?_) (a' := ?_) #[true, false, true, true, true, true, false, false] rfl rfl (by kernel_rfl) (fun _ _ _ h => h) (Or.inl ⟨by rfl, ?_⟩) ?_ ?_
  rotate_left
  · intro w'
    go_simp
    with_reducible rfl
  rotate_left
  · simp only [Act.put, List.setIfInBounds_toArray, List.set_cons_zero, List.set_cons_succ, i64_w, i32_w]
    rfl
  refine take_ (i := 1) (N := some 98) (v := ?_) (a' := ?_) #[true, true, true, true, true, true, false, false] rfl rfl (by kernel_rfl) (fun _ _ _ h => h) (Or.inl ⟨by rfl, ?_⟩) hHeld ?_ ?_
  rotate_left
  · rintro w' ⟨s0, s1⟩
    go_simp
    with_reducible rfl
  rotate_left
  · simp only [Act.put, List.setIfInBounds_toArray, List.set_cons_zero, List.set_cons_succ, i64_w, i32_w]
    rfl
  refine take_ (i := 6) (N := some 103) (v := ?_) (a' := ?_) #[true, true, true, true, true, true, true, false] rfl rfl (by kernel_rfl) (fun _ _ _ h => h) (Or.inl ⟨by rfl, ?_⟩) hHeld ?_ ?_
  rotate_left
  · rintro w' ⟨s0, s1⟩
    go_simp
    with_reducible rfl
  rotate_left
  · simp only [Act.put, List.setIfInBounds_toArray, List.set_cons_zero, List.set_cons_succ, i64_w, i32_w]
    rfl
  refine pure_ (i := 7) (N := some 104) (v := ?_) (a' := ?_) #[true, true, true, true, true, true, true, true] rfl rfl (by kernel_rfl) (fun _ _ _ h => h) (Or.inl ⟨by rfl, ?_⟩) ?_ ?_
  rotate_left
  · intro w'
    go_simp
    with_reducible rfl
  rotate_left
  · simp only [Act.put, List.setIfInBounds_toArray, List.set_cons_zero, List.set_cons_succ, i64_w, i32_w]
    rfl
  refine done_ (by kernel_rfl) ?_
  refine onlyN_mk ?_
  exact hK _ _ _ _ _ _ _

set_option maxHeartbeats 16000000 in
set_option maxRecDepth 100000 in
theorem rj25 {Q : Exit → Act → World → Prop} {ops : Array Oper} (hops : findR 25 ((Try.f40.body).getD .skip) = some ops) {wr : World} {dfs : List Deferred} {gB g16 : Nat} {a b j x0 x1 e1 : Int} {ad : Addr} {n c2 : Nat} {bb : Bool}
    (p1 : (0 ≤ j) = True) (p2 : (j < (n : Int)) = True)
    (hx0 : wr.cell? (ad.add (j.toNat * 3)) = some (.int .u64 x0))
    {V9 : Value} (hcut : ∀ W : World, (Instr.slice 64 (.slice (some ad) n c2) (some (.int .i64 j)) none none).run Try.prog W = .ok V9 W)
    {T0 T1 T2 T4 T5 T6 T7 T8 T9 T10 T11 T12 T13 T14 T16 T17 T18 T19 T20 T21 T22 T23 T24 T25 T26 T27 T28 T29 T30 T31 T32 T33 T34 T35 T36 T37 T38 T39 T40 T41 T42 T43 T44 T45 T46 T47 T48 T49 T50 T51 T52 T53 T54 T55 T56 T57 T58 T59 T60 T61 T62 T63 T64 T65 T66 T67 T68 T69 T70 T71 T72 T73 T74 T75 T76 T77 T78 T79 T80 T81 T82 T83 T84 T85 T86 T87 T88 T89 T90 T91 T92 T93 T94 T95 T96 T97 T98 T99 T100 T101 T102 T103 T104 T105 T106 T107 T108 T109 T110 T111 T112 : Value}
    (hK : ∀ u105 u106 u107 u108 u109 u110 u111 u112 : Value, Q .normal { tmps := #[T0, T1, T2, .slice (some ad) n c2, T4, T5, T6, T7, .int .u64 x0, V9, .bool true, T11, T12, T13, T14, .int .i64 j, T16, T17, T18, T19, T20, T21, T22, T23, T24, T25, T26, T27, T28, T29, T30, T31, T32, T33, T34, T35, T36, T37, T38, T39, T40, T41, T42, T43, T44, T45, T46, T47, T48, T49, T50, T51, T52, T53, T54, T55, T56, T57, T58, T59, T60, T61, T62, T63, T64, T65, T66, T67, T68, T69, T70, T71, T72, T73, T74, T75, T76, T77, T78, T79, T80, T81, T82, T83, T84, T85, T86, T87, T88, T89, T90, T91, T92, T93, T94, T95, T96, T97, T98, T99, T100, T101, T102, T103, T104, u105, u106, u107, u108, u109, u110, u111, u112], defers := dfs } (wr.drew)) :
    (Code.region 25 ops true).wp Try.prog Q { tmps := #[T0, T1, T2, .slice (some ad) n c2, T4, T5, T6, T7, T8, T9, T10, T11, T12, T13, T14, .int .i64 j, T16, T17, T18, T19, T20, T21, T22, T23, T24, T25, T26, T27, T28, T29, T30, T31, T32, T33, T34, T35, T36, T37, T38, T39, T40, T41, T42, T43, T44, T45, T46, T47, T48, T49, T50, T51, T52, T53, T54, T55, T56, T57, T58, T59, T60, T61, T62, T63, T64, T65, T66, T67, T68, T69, T70, T71, T72, T73, T74, T75, T76, T77, T78, T79, T80, T81, T82, T83, T84, T85, T86, T87, T88, T89, T90, T91, T92, T93, T94, T95, T96, T97, T98, T99, T100, T101, T102, T103, T104, T105, T106, T107, T108, T109, T110, T111, T112], defers := dfs } wr := by
  have hops' := Option.some.inj (hops.symm.trans (show findR 25 ((Try.f40.body).getD .skip) = some _ from rfl))
  subst hops'
  clear hops
  refine wp_mono (Q := onlyN (Q .normal)) ?_ onlyN_to
  refine start_ (n := 11) (S := fun w' => w'.cell? (ad.add (j.toNat * 3)) = some (.int .u64 x0)) (ds := []) #[false, false, false, false, false, false, false, false, false, false, false] (by kernel_rfl) rfl rfl (hx0) (fun hHeld => ?_)
  refine pure_ (i := 0) (N := some 105) (v := ?_) (a' := ?_) #[true, false, false, false, false, false, false, false, false, false, false] rfl rfl (by kernel_rfl) (fun _ _ _ h => h) (Or.inl ⟨by rfl, ?_⟩) ?_ ?_
  rotate_left
  · intro w'
    go_simp
    with_reducible rfl
  rotate_left
  · simp only [Act.put, List.setIfInBounds_toArray, List.set_cons_zero, List.set_cons_succ, i64_w, i32_w]
    rfl
  refine pure_ (i := 1) (N := some 106) (v := ?_) (a' := ?_) #[true, true, false, false, false, false, false, false, false, false, false] rfl rfl (by kernel_rfl) (fun _ _ _ h => h) (Or.inl ⟨by rfl, ?_⟩) ?_ ?_
  rotate_left
  · intro w'
    go_simp
    with_reducible rfl
  rotate_left
  · simp only [Act.put, List.setIfInBounds_toArray, List.set_cons_zero, List.set_cons_succ, i64_w, i32_w]
    rfl
  refine pure_ (i := 2) (N := some 107) (v := ?_) (a' := ?_) #[true, true, true, false, false, false, false, false, false, false, false] rfl rfl (by kernel_rfl) (fun _ _ _ h => h) (Or.inl ⟨by rfl, ?_⟩) ?_ ?_
  rotate_left
  · intro w'
    go_simp
    with_reducible rfl
  rotate_left
  · simp only [Act.put, List.setIfInBounds_toArray, List.set_cons_zero, List.set_cons_succ, i64_w, i32_w]
    rfl
  refine pure_ (i := 3) (N := some 108) (v := ?_) (a' := ?_) #[true, true, true, true, false, false, false, false, false, false, false] rfl rfl (by kernel_rfl) (fun _ _ _ h => h) (Or.inl ⟨by rfl, ?_⟩) ?_ ?_
  rotate_left
  · intro w'
    go_simp
    with_reducible rfl
  rotate_left
  · simp only [Act.put, List.setIfInBounds_toArray, List.set_cons_zero, List.set_cons_succ, i64_w, i32_w]
    rfl
  refine pure_ (i := 5) (N := some 110) (v := ?_) (a' := ?_) #[true, true, true, true, false, true, false, false, false, false, false] rfl rfl (by kernel_rfl) (fun _ _ _ h => h) (Or.inl ⟨by rfl, ?_⟩) ?_ ?_
  rotate_left
  · intro w'
    go_simp
    with_reducible rfl
  rotate_left
  · simp only [Act.put, List.setIfInBounds_toArray, List.set_cons_zero, List.set_cons_succ, i64_w, i32_w]
    rfl
  refine pure_ (i := 6) (N := some 111) (v := ?_) (a' := ?_) #[true, true, true, true, false, true, true, false, false, false, false] rfl rfl (by kernel_rfl) (fun _ _ _ h => h) (Or.inl ⟨by rfl, ?_⟩) ?_ ?_
  rotate_left
  · intro w'
    go_simp
    with_reducible rfl
  rotate_left
  · simp only [Act.put, List.setIfInBounds_toArray, List.set_cons_zero, List.set_cons_succ, i64_w, i32_w]
    rfl
  refine pure_ (i := 7) (N := some 112) (v := ?_) (a' := ?_) #[true, true, true, true, false, true, true, true, false, false, false] rfl rfl (by kernel_rfl) (fun _ _ _ h => h) (Or.inl ⟨by rfl, ?_⟩) ?_ ?_
  rotate_left
  · intro w'
    go_simp
    with_reducible rfl
  rotate_left
  · simp only [Act.put, List.setIfInBounds_toArray, List.set_cons_zero, List.set_cons_succ, i64_w, i32_w]
    rfl
  refine take_ (i := 4) (N := some 109) (v := ?_) (a' := ?_) #[true, true, true, true, true, true, true, true, false, false, false] rfl rfl (by kernel_rfl) (fun _ _ _ h => h) (Or.inl ⟨by rfl, ?_⟩) hHeld ?_ ?_
  rotate_left
  · intro w' s0
    go_simp
    with_reducible rfl
  rotate_left
  · simp only [Act.put, List.setIfInBounds_toArray, List.set_cons_zero, List.set_cons_succ, i64_w, i32_w]
    rfl
  refine pure_ (i := 8) (N := some 8) (v := ?_) (a' := ?_) #[true, true, true, true, true, true, true, true, true, false, false] rfl rfl (by kernel_rfl) (fun _ _ _ h => h) (Or.inl ⟨by rfl, ?_⟩) ?_ ?_
  rotate_left
  · intro w'
    go_simp
    with_reducible rfl
  rotate_left
  · simp only [Act.put, List.setIfInBounds_toArray, List.set_cons_zero, List.set_cons_succ, i64_w, i32_w]
    rfl
  refine pure_ (i := 9) (N := some 9) (v := ?_) (a' := ?_) #[true, true, true, true, true, true, true, true, true, true, false] rfl rfl (by kernel_rfl) (fun _ _ _ h => h) (Or.inl ⟨by rfl, ?_⟩) ?_ ?_
  rotate_left
  · intro w'
    go_simp
    with_reducible rfl
  rotate_left
  · simp only [Act.put, List.setIfInBounds_toArray, List.set_cons_zero, List.set_cons_succ, i64_w, i32_w]
    rfl
  refine pure_ (i := 10) (N := some 10) (v := ?_) (a' := ?_) #[true, true, true, true, true, true, true, true, true, true, true] rfl rfl (by kernel_rfl) (fun _ _ _ h => h) (Or.inl ⟨by rfl, ?_⟩) ?_ ?_
  rotate_left
  · intro w'
    go_simp
    with_reducible rfl
  rotate_left
  · simp only [Act.put, List.setIfInBounds_toArray, List.set_cons_zero, List.set_cons_succ, i64_w, i32_w]
    rfl
  refine done_ (by kernel_rfl) ?_
  refine onlyN_mk ?_
  exact hK _ _ _ _ _ _ _ _

set_option maxHeartbeats 16000000 in
set_option maxRecDepth 100000 in
theorem rj8 {Q : Exit → Act → World → Prop} {ops : Array Oper} (hops : findR 8 ((Try.f40.body).getD .skip) = some ops) {wr : World} {dfs : List Deferred} {gB g16 : Nat} {a b j x0 x1 e1 : Int} {ad : Addr} {n c2 : Nat} {bb : Bool}
    (p1 : (0 ≤ j) = True) (p2 : (j < (n : Int)) = True)
    (hz : wr.cell? ⟨gB, 0, none⟩ = some (.int .u64 a))
    (hx0 : wr.cell? (ad.add (j.toNat * 3)) = some (.int .u64 x0))
    (hbb : decide (a < x0) = bb)
    {T0 T1 T2 T5 T6 T7 T8 T9 T10 T11 T13 T14 T15 T16 T17 T18 T19 T20 T21 T22 T23 T24 T25 T26 T27 T28 T29 T30 T31 T32 T33 T34 T35 T36 T37 T38 T39 T40 T41 T42 T43 T44 T45 T46 T47 T48 T49 T50 T51 T52 T53 T54 T55 T56 T57 T58 T59 T60 T61 T62 T63 T64 T65 T66 T67 T68 T69 T70 T71 T72 T73 T74 T75 T76 T77 T78 T79 T80 T81 T82 T83 T84 T85 T86 T87 T88 T89 T90 T91 T92 T93 T94 T95 T96 T97 T98 T99 T100 T101 T102 T103 T104 T105 T106 T107 T108 T109 T110 T111 T112 : Value}
    (hK : ∀ u35 u36 u37 u38 u39 u40 u41 u42 : Value, Q .normal { tmps := #[T0, T1, T2, .slice (some ad) n c2, .pointer (some ⟨gB, 0, none⟩), T5, T6, T7, T8, T9, T10, T11, .int .i64 j, T13, T14, T15, T16, T17, T18, T19, T20, T21, T22, T23, T24, T25, T26, T27, T28, T29, T30, T31, T32, T33, T34, u35, u36, u37, u38, u39, u40, u41, u42, .bool bb, T44, T45, T46, T47, T48, T49, T50, T51, T52, T53, T54, T55, T56, T57, T58, T59, T60, T61, T62, T63, T64, T65, T66, T67, T68, T69, T70, T71, T72, T73, T74, T75, T76, T77, T78, T79, T80, T81, T82, T83, T84, T85, T86, T87, T88, T89, T90, T91, T92, T93, T94, T95, T96, T97, T98, T99, T100, T101, T102, T103, T104, T105, T106, T107, T108, T109, T110, T111, T112], defers := dfs } (wr.drew)) :
    (Code.region 8 ops true).wp Try.prog Q { tmps := #[T0, T1, T2, .slice (some ad) n c2, .pointer (some ⟨gB, 0, none⟩), T5, T6, T7, T8, T9, T10, T11, .int .i64 j, T13, T14, T15, T16, T17, T18, T19, T20, T21, T22, T23, T24, T25, T26, T27, T28, T29, T30, T31, T32, T33, T34, T35, T36, T37, T38, T39, T40, T41, T42, T43, T44, T45, T46, T47, T48, T49, T50, T51, T52, T53, T54, T55, T56, T57, T58, T59, T60, T61, T62, T63, T64, T65, T66, T67, T68, T69, T70, T71, T72, T73, T74, T75, T76, T77, T78, T79, T80, T81, T82, T83, T84, T85, T86, T87, T88, T89, T90, T91, T92, T93, T94, T95, T96, T97, T98, T99, T100, T101, T102, T103, T104, T105, T106, T107, T108, T109, T110, T111, T112], defers := dfs } wr := by
  have hops' := Option.some.inj (hops.symm.trans (show findR 8 ((Try.f40.body).getD .skip) = some _ from rfl))
  subst hops'
  clear hops
  refine wp_mono (Q := onlyN (Q .normal)) ?_ onlyN_to
  refine start_ (n := 9) (S := fun w' => w'.cell? ⟨gB, 0, none⟩ = some (.int .u64 a) ∧ w'.cell? (ad.add (j.toNat * 3)) = some (.int .u64 x0)) (ds := []) #[false, false, false, false, false, false, false, false, false] (by kernel_rfl) rfl rfl ⟨hz, hx0⟩ (fun hHeld => ?_)
  refine pure_ (i := 0) (N := some 35) (v := ?_) (a' := ?_) #[true, false, false, false, false, false, false, false, false] rfl rfl (by kernel_rfl) (fun _ _ _ h => h) (Or.inl ⟨by rfl, ?_⟩) ?_ ?_
  rotate_left
  · intro w'
    go_simp
    with_reducible rfl
  rotate_left
  · simp only [Act.put, List.setIfInBounds_toArray, List.set_cons_zero, List.set_cons_succ, i64_w, i32_w]
    rfl
  refine pure_ (i := 1) (N := some 36) (v := ?_) (a' := ?_) #[true, true, false, false, false, false, false, false, false] rfl rfl (by kernel_rfl) (fun _ _ _ h => h) (Or.inl ⟨by rfl, ?_⟩) ?_ ?_
  rotate_left
  · intro w'
    go_simp
    with_reducible rfl
  rotate_left
  · simp only [Act.put, List.setIfInBounds_toArray, List.set_cons_zero, List.set_cons_succ, i64_w, i32_w]
    rfl
  refine pure_ (i := 2) (N := some 37) (v := ?_) (a' := ?_) #[true, true, true, false, false, false, false, false, false] rfl rfl (by kernel_rfl) (fun _ _ _ h => h) (Or.inl ⟨by rfl, ?_⟩) ?_ ?_
  rotate_left
  · intro w'
    go_simp
    with_reducible rfl
  rotate_left
  · simp only [Act.put, List.setIfInBounds_toArray, List.set_cons_zero, List.set_cons_succ, i64_w, i32_w]
    rfl
  refine pure_ (i := 3) (N := some 38) (v := ?_) (a' := ?_) #[true, true, true, true, false, false, false, false, false] rfl rfl (by kernel_rfl) (fun _ _ _ h => h) (Or.inl ⟨by rfl, ?_⟩) ?_ ?_
  rotate_left
  · intro w'
    go_simp
    with_reducible rfl
  rotate_left
  · simp only [Act.put, List.setIfInBounds_toArray, List.set_cons_zero, List.set_cons_succ, i64_w, i32_w]
    rfl
  refine pure_ (i := 5) (N := some 40) (v := ?_) (a' := ?_) #[true, true, true, true, false, true, false, false, false] rfl rfl (by kernel_rfl) (fun _ _ _ h => h) (Or.inl ⟨by rfl, ?_⟩) ?_ ?_
  rotate_left
  · intro w'
    go_simp
    with_reducible rfl
  rotate_left
  · simp only [Act.put, List.setIfInBounds_toArray, List.set_cons_zero, List.set_cons_succ, i64_w, i32_w]
    rfl
  refine pure_ (i := 6) (N := some 41) (v := ?_) (a' := ?_) #[true, true, true, true, false, true, true, false, false] rfl rfl (by kernel_rfl) (fun _ _ _ h => h) (Or.inl ⟨by rfl, ?_⟩) ?_ ?_
  rotate_left
  · intro w'
    go_simp
    with_reducible rfl
  rotate_left
  · simp only [Act.put, List.setIfInBounds_toArray, List.set_cons_zero, List.set_cons_succ, i64_w, i32_w]
    rfl
  refine take_ (i := 4) (N := some 39) (v := ?_) (a' := ?_) #[true, true, true, true, true, true, true, false, false] rfl rfl (by kernel_rfl) (fun _ _ _ h => h) (Or.inl ⟨by rfl, ?_⟩) hHeld ?_ ?_
  rotate_left
  · rintro w' ⟨s0, s1⟩
    go_simp
    with_reducible rfl
  rotate_left
  · simp only [Act.put, List.setIfInBounds_toArray, List.set_cons_zero, List.set_cons_succ, i64_w, i32_w]
    rfl
  refine take_ (i := 7) (N := some 42) (v := ?_) (a' := ?_) #[true, true, true, true, true, true, true, true, false] rfl rfl (by kernel_rfl) (fun _ _ _ h => h) (Or.inl ⟨by rfl, ?_⟩) hHeld ?_ ?_
  rotate_left
  · rintro w' ⟨s0, s1⟩
    go_simp
    with_reducible rfl
  rotate_left
  · simp only [Act.put, List.setIfInBounds_toArray, List.set_cons_zero, List.set_cons_succ, i64_w, i32_w]
    rfl
  refine pure_ (i := 8) (N := some 43) (v := ?_) (a' := ?_) #[true, true, true, true, true, true, true, true, true] rfl rfl (by kernel_rfl) (fun _ _ _ h => h) (Or.inl ⟨by rfl, ?_⟩) ?_ ?_
  rotate_left
  · intro w'
    go_simp
    with_reducible rfl
  rotate_left
  · simp only [Act.put, List.setIfInBounds_toArray, List.set_cons_zero, List.set_cons_succ, i64_w, i32_w]
    rfl
  refine done_ (by kernel_rfl) ?_
  refine onlyN_mk ?_
  exact hK _ _ _ _ _ _ _ _
def tailC : Nat → Code → Option Code
  | 0, c => some c
  | n + 1, .seq _ b => tailC n b
  | _ + 1, _ => none
theorem scan_step {a b : Int} {xs l : List SE} {j : Nat} (h : j < l.length) (hne : ∀ x ∈ l, x.f0 ≠ a) : scanF a b xs (l.drop j) = (if (entryF a xs (rd_T78 l j).f0).2 = false then (0, l.drop j, true) else if ((entryF a xs (rd_T78 l j).f0).1.f1 == (rd_T78 l j).f1) = false then ((rd_T78 l j).f0, l.drop j, true) else scanF a b xs (l.drop (j + 1))) := by
  rw [drop_rd h]
  have hm : rd_T78 l j ∈ l := List.mem_of_mem_drop (by rw [drop_rd h]; exact List.mem_cons_self)
  have h1 := hne _ hm
  generalize rd_T78 l j = x at *
  show (if (termF a b xs x.f0).2 = false then _ else _) = _
  unfold termF entryF
  rw [if_neg h1]
  by_cases c : hasE a xs x.f0
  · rw [if_pos c, if_pos c]
  · rw [if_neg c, if_neg c]
    rfl
theorem pl_drop (l : List SE) (n : Nat) : (pl l).drop n = pl (l.drop n) := by unfold pl; rw [List.map_drop]
set_option maxHeartbeats 16000000 in
set_option maxRecDepth 100000 in
theorem rjoin_tail {Q : Exit → Act → World → Prop} {cd : Code} (hcd : tailC 3 ((Try.f40.body).getD .skip) = some cd) {W : World} {dfs : List Deferred} {gB : Nat} (a b : Int) (A : Option Addr) (c : Nat) (xs : List SE) (hrow : Row a xs)
    (hbk : W.heap[gB]? = some (.cells #[.int .u64 a, .int .u64 b, .slice none 0 0, .slice A (pl xs).length c] 66 (0, 0))) (hC : k63.C W A (pl xs).length (pl xs)) (hc : (pl xs).length ≤ c)
    (i t : Int) (A2 : Option Addr) (c2 : Nat) (l : List SE) (hC2 : k63.C W A2 (pl l).length (pl l)) (hc2 : (pl l).length ≤ c2) (hl : l.length ≤ 100000) (hne : ∀ x ∈ l, x.f0 ≠ a) (r : Int × List SE × Bool) (hr : joinG a b xs i t l true = r)
    {T0 T5 T6 T7 T8 T9 T10 T11 T12 T13 T14 T15 T16 T17 T18 T19 T20 T21 T22 T23 T24 T25 T26 T27 T28 T29 T30 T31 T32 T33 T34 T35 T36 T37 T38 T39 T40 T41 T42 T43 T44 T45 T46 T47 T48 T49 T50 T51 T52 T53 T54 T55 T56 T57 T58 T59 T60 T61 T62 T63 T64 T65 T66 T67 T68 T69 T70 T71 T72 T73 T74 T75 T76 T77 T78 T79 T80 T81 T82 T83 T84 T85 T86 T87 T88 T89 T90 T91 T92 T93 T94 T95 T96 T97 T98 T99 T100 T101 T102 T103 T104 T105 T106 T107 T108 T109 T110 T111 T112 : Value}
    (hK : ∀ (act : Act) (w' : World) (A' : Option Addr) (c' : Nat), Below W.heap.size W w' → act.defers = dfs → act.eval (.tmp 8) = .int .u64 r.1 → act.eval (.tmp 9) = .slice A' (pl r.2.1).length c' → act.eval (.tmp 10) = .bool r.2.2 → (pl r.2.1).length ≤ c' →
      (∀ w ok, Kd.F k63 w ok A2 (pl l).length (pl l) → Kd.F k63 w ok A' (pl r.2.1).length (pl r.2.1)) → Q .ret act w') :
    cd.wp Try.prog Q { tmps := #[T0, .int .u64 i, .int .u64 t, .slice A2 (pl l).length c2, .pointer (some ⟨gB, 0, none⟩), T5, T6, T7, T8, T9, T10, T11, T12, T13, T14, T15, T16, T17, T18, T19, T20, T21, T22, T23, T24, T25, T26, T27, T28, T29, T30, T31, T32, T33, T34, T35, T36, T37, T38, T39, T40, T41, T42, T43, T44, T45, T46, T47, T48, T49, T50, T51, T52, T53, T54, T55, T56, T57, T58, T59, T60, T61, T62, T63, T64, T65, T66, T67, T68, T69, T70, T71, T72, T73, T74, T75, T76, T77, T78, T79, T80, T81, T82, T83, T84, T85, T86, T87, T88, T89, T90, T91, T92, T93, T94, T95, T96, T97, T98, T99, T100, T101, T102, T103, T104, T105, T106, T107, T108, T109, T110, T111, T112], defers := dfs } W := by
  have hcd' := Option.some.inj (hcd.symm.trans (show tailC 3 ((Try.f40.body).getD .skip) = some _ from rfl))
  subst hcd'
  clear hcd
  have hu := Try.underlying66
  have hu2 := Try.underlying63
  obtain ⟨tr, tb, ht⟩ : ∃ u v, termF a b xs i = (u, v) := ⟨_, _, rfl⟩
  have z0 : W.cell? ⟨gB, 0, none⟩ = some (.int .u64 a) := (blk_cell hbk 0).trans rfl
  have z1 : W.cell? ⟨gB, 1, none⟩ = some (.int .u64 b) := (blk_cell hbk 1).trans rfl
  have z2 : W.cell? ⟨gB, 2, none⟩ = some (.slice none 0 0) := (blk_cell hbk 2).trans rfl
  have z3 : W.cell? ⟨gB, 3, none⟩ = some (.slice A (pl xs).length c) := (blk_cell hbk 3).trans rfl
  have HT : Aside0 (Calls Try.prog 37 #[.agg #[.int .u64 a, .int .u64 b, .slice none 0 0, .slice A (pl xs).length c], .int .u64 i] W fun e w' => e = .returned (.tuple #[.int .u64 tr, .bool tb]) ∧ Below W.heap.size W w') := ⟨jobberref38_Chain_Term.calls (xs.length + 1) a b none 0 [] A c (pl xs) i tr tb W (Kd.C_nil _ _) (Nat.le_refl _) hC hc (by rw [rterm_eval a b xs hrow i [] (by omega), ht])⟩
  have HBK := Aside0.mk hbk
  have HC := Aside0.mk hC
  have HR := Aside0.mk hrow
  have HCC := Aside0.mk hc
  have HC2 := Aside0.mk hC2
  have HL := Aside0.mk (And.intro hl hc2)
  have HNE := Aside0.mk hne
  have HK := Aside0.mk hK
  have hjg : (tb && (tr == t)) = true → scanF a b xs l = r := fun h => by
    rw [← hr]
    unfold joinG
    have h1 : tb = true ∧ tr = t := by simpa using h
    rw [if_neg (by decide), ht, h1.1, h1.2, if_neg (by simp), if_pos rfl]
  have hjb : (tb && (tr == t)) = false → r = (0, [], false) := fun h => by
    rw [← hr]
    unfold joinG
    rw [if_neg (by decide), ht]
    cases tb with
    | false => rw [if_pos rfl]
    | true => rw [if_neg (by simp), if_neg (by simpa using h)]
  have HJG := Aside0.mk hjg
  have HJB := Aside0.mk hjb
  clear hbk hC hrow hc hC2 hl hc2 hne hK hr hjg hjb ht
  have hbad : (tb && (tr == t)) = false → Q .ret { tmps := #[], defers := [] } W → True := fun _ _ => trivial
  clear hbad
  cases hgb : (tb && (tr == t)) with
  | false =>
    have hq : tb = false ∨ tb = true ∧ (tr != t) = true := by
      cases tb with
      | false => exact .inl rfl
      | true => exact .inr ⟨rfl, by simpa using hgb⟩
    obtain rfl := HJB.out hgb
    clear hgb
    rcases hq with rfl | ⟨rfl, hq⟩
    · go_wp2_with (go_at_call 37; refine HT.out.mono ?_; rintro e w1 ⟨rfl, hb⟩; have HB := Aside0.mk hb; clear hb z0 z1 z2 z3)
      exact HK.out _ _ none 0 HB.out rfl rfl rfl rfl (Nat.le_refl _) (fun _ _ _ _ _ => Kd.C_nil _ _)
    · go_wp2_with (go_at_call 37; refine HT.out.mono ?_; rintro e w1 ⟨rfl, hb⟩; have HB := Aside0.mk hb; clear hb z0 z1 z2 z3)
      exact HK.out _ _ none 0 HB.out rfl rfl rfl rfl (Nat.le_refl _) (fun _ _ _ _ _ => Kd.C_nil _ _)
  | true =>
    obtain ⟨rfl, rfl⟩ : tb = true ∧ tr = t := by simpa using hgb
    have HSC := Aside0.mk (HJG.out (by simp))
    clear hgb HJB HJG
    obtain ⟨n, hn⟩ : ∃ n, (pl l).length = n := ⟨_, rfl⟩
    have HN := Aside0.mk (show n = l.length by rw [← hn, pl_len])
    have HC2' := HC2.out
    have HCUT : Aside0 (∀ (j : Int), 0 ≤ j → j < n → ∀ W : World, (Instr.slice 64 (.slice A2 n c2) (some (.int .i64 j)) none none).run Try.prog W = .ok (.slice (if c2 = j.toNat then A2 else A2.map (·.add (j.toNat * 3))) (n - j.toNat) (c2 - j.toNat)) W) := ⟨fun j h0 h1 W => cut_lo3 64 63 3 Try.underlying64 (by kernel_rfl) A2 n c2 j h0 (by omega) W⟩
    rw [hn] at HC2' ⊢
    have HCN := Aside0.mk HC2'
    have HLN := Aside0.mk (show n ≤ c2 by rw [← hn]; exact HL.out.2)
    clear hn HC2'
    go_wp2_with (go_at_call 37; refine HT.out.mono ?_; rintro e w1 ⟨rfl, hb⟩; have HB := Aside0.mk hb; clear hb z0 z1 z2 z3)
    go_loopg [15] n (fun gk v15 wr => ∃ j : Int, v15 = .int .i64 j ∧ Aside0 (0 ≤ j ∧ j + gk = n) ∧ Aside0 (Below W.heap.size W wr) ∧ Aside0 (scanF a b xs (l.drop j.toNat) = r))
    case atStart => exact ⟨0, rfl, ⟨by omega⟩, HB, ⟨HSC.out⟩⟩
    case round =>
      obtain ⟨j, rfl, HJ, HBR, HS⟩ := hrel
      have hj0 : 0 ≤ j := HJ.out.1
      by_cases hlt : j < (n : Int)
      · have hd : decide (j < (n : Int)) = true := decide_eq_true hlt
        have p1 : (0 ≤ j) = True := eq_true hj0
        have p2 : (j < (n : Int)) = True := eq_true hlt
        obtain ⟨ad, A3, c3, e1, x0, x1, _, _, _⟩ := at_T63 (Kd.C_below HCN.out HBR.out) j hj0 hlt
        subst e1
        have hjn : j.toNat < l.length := by have := HN.out; omega
        have hst := scan_step (a := a) (b := b) (xs := xs) hjn HNE.out
        have hrd : rd_T63 (pl l) j = plE (rd_T78 l j) := rd_pl l hj0 (by have := HN.out; omega)
        rw [show ((j.toNat : Nat) : Int) = j by omega, HS.out] at hst
        rw [hrd] at x0 x1
        obtain ⟨x, hx⟩ : ∃ x, rd_T78 l j = x := ⟨_, rfl⟩
        rw [hx] at hst x0 x1
        change wr.cell? _ = some (.int .u64 x.f0) at x0
        change wr.cell? _ = some (.int .u64 x.f1) at x1
        obtain ⟨er, eb, he⟩ : ∃ u v, entryF a xs x.f0 = (u, v) := ⟨_, _, rfl⟩
        rw [he] at hst
        obtain ⟨f0, hf0⟩ : ∃ f0, x.f0 = f0 := ⟨_, rfl⟩
        obtain ⟨f1, hf1⟩ : ∃ f1, x.f1 = f1 := ⟨_, rfl⟩
        rw [hf0] at hst x0 he
        rw [hf1] at hst x1
        have HST := Aside0.mk hst
        have hz : wr.cell? ⟨gB, 0, none⟩ = some (.int .u64 a) ∧ wr.cell? ⟨gB, 1, none⟩ = some (.int .u64 b) ∧ wr.cell? ⟨gB, 2, none⟩ = some (.slice none 0 0) ∧ wr.cell? ⟨gB, 3, none⟩ = some (.slice A (pl xs).length c) := by
          have hb := (HBR.out.block _ (blk_lt HBK.out)).trans HBK.out
          exact ⟨(blk_cell hb 0).trans rfl, (blk_cell hb 1).trans rfl, (blk_cell hb 2).trans rfl, (blk_cell hb 3).trans rfl⟩
        have hE : ∀ w', Below wr.heap.size wr w' → Calls Try.prog 62 #[.agg #[.int .u64 a, .int .u64 b, .slice none 0 0, .slice A (pl xs).length c], .int .u64 f0] w' fun e w'' => ∃ Av cv mv, e = .returned (.tuple #[.agg #[.int .u64 er.f0, .int .u64 er.f1, .slice Av mv cv], .bool eb]) ∧ Below w'.heap.size w' w'' := fun w' hb =>
          (jobberref38_Chain_Entry.calls (xs.length + 1) a b none 0 [] (fun _ => True) A c (pl xs) f0 er.f0 er.f1 er.f2 eb w' (Kd.C_nil _ _) (Nat.le_refl _) (V_all k63_heap (Kd.C_below HC.out (below_step HBR.out hb)) HCC.out) (by rw [rentry_eval a xs HR.out a b f0 [] (by omega), he])).mono (fun e w'' hh => by
            obtain ⟨v, rfl, hV, hb2⟩ := hh
            obtain ⟨Av, cv, rfl⟩ := Kd.V_slice hV
            exact ⟨Av, cv, _, rfl, hb2⟩)
        have HX1 := Aside0.mk x1
        have HX0 := Aside0.mk x0
        clear hst hrd hx he hf0 hf1 hjn
        go_upto_region 21 with (fail)
        refine rj21 (x1 := 0) rfl p1 p2 hz x0 hE ?_
        intro u83 u84 u85 u86 u87 u88 u89 u82 u90 u91 g16 w5 Av cv mv hb5 hg5
        have HB5 := Aside0.mk (below_step HBR.out hb5)
        have hy : w5.cell? ⟨g16, 1, none⟩ = some (.int .u64 er.f1) := (blk_cell hg5 1).trans rfl
        have hx1 := pw_cell_below hb5 x1
        have hx0 := pw_cell_below hb5 x0
        clear hz hE hg5 x0 x1 hb5
        have hcut := HCUT.out j hj0 hlt
        obtain ⟨A9, hA9⟩ : ∃ A9, (if c2 = j.toNat then some ad else (some ad).map (·.add (j.toNat * 3))) = A9 := ⟨_, rfl⟩
        obtain ⟨m9, hm9⟩ : ∃ m9, n - j.toNat = m9 := ⟨_, rfl⟩
        obtain ⟨c9, hc9⟩ : ∃ c9, c2 - j.toNat = c9 := ⟨_, rfl⟩
        rw [hA9, hm9, hc9] at hcut
        have HRET : Aside0 (∀ f, r = (f, l.drop j.toNat, true) → ∀ (act : Act) (w' : World), Below W.heap.size W w' → act.defers = dfs → act.eval (.tmp 8) = .int .u64 f → act.eval (.tmp 9) = .slice A9 m9 c9 → act.eval (.tmp 10) = .bool true → Q .ret act w') := ⟨fun f hr act w' hb hd h8 h9 h10 => by
          subst hr
          rw [← hA9, ← hm9, ← hc9] at h9
          have hlen : (pl (l.drop j.toNat)).length = n - j.toNat := by rw [pl_len, List.length_drop, HN.out]
          refine HK.out act w' _ _ hb hd h8 (by rw [hlen]; exact h9) h10 (by rw [hlen]; have := HLN.out; omega) (fun w ok hF => ?_)
          have := Kd.F_cut hF (m := j.toNat) (c := c2) (by rw [pl_len]; have := HN.out; omega) HL.out.2
          rw [pl_drop] at this
          exact this⟩
        clear hA9 hm9 hc9
        cases eb with
        | false =>
          have hr0 : r = (0, l.drop j.toNat, true) := by rw [HST.out]; rfl
          go_upto_region 23 with (fail)
          refine rj23 (gB := 0) (g16 := 0) (a := 0) (b := 0) (x0 := 0) (x1 := 0) (e1 := 0) (bb := true) rfl p1 p2 hcut ?_
          intros
          go_wp2
          exact HRET.out 0 hr0 _ _ ((below_drew HB5.out)) rfl rfl rfl rfl
        | true =>
          cases hbb : (er.f1 != f1) with
          | true =>
            have hr1 : r = (f0, l.drop j.toNat, true) := by
              rw [HST.out, if_neg (by simp), if_pos]
              simpa using hbb
            go_upto_region 24 with (fail)
            refine rj24 (gB := 0) (a := 0) (b := 0) (x0 := 0) rfl p1 p2 hy hx1 hbb ?_
            intros
            go_upto_region 25 with (fail)
            refine rj25 (wr := w5.drew) (gB := 0) (g16 := 0) (a := 0) (b := 0) (x1 := 0) (e1 := 0) (bb := true) rfl p1 p2 hx0 hcut ?_
            intros
            go_wp2
            exact HRET.out f0 hr1 _ _ ((below_drew (below_drew HB5.out))) rfl rfl rfl rfl
          | false =>
            have hs2 : scanF a b xs (l.drop (j.toNat + 1)) = r := by
              rw [HST.out, if_neg (by simp), if_neg]
              simpa using hbb
            have HS2 := Aside0.mk hs2
            clear hs2
            go_upto_region 24 with (fail)
            refine rj24 (gB := 0) (a := 0) (b := 0) (x0 := 0) rfl p1 p2 hy hx1 hbb ?_
            intros
            go_wp2
            go_roundg (gk - 1)
            case measure => have := HJ.out; omega
            case rel =>
              have hw : wrap64 (j + 1) = j + 1 := by have h1 := HN.out; have h2 := HJ.out; have h3 := HL.out.1; unfold wrap64; omega
              exact ⟨wrap64 (j + 1), by first | rfl | (simp; done), ⟨by rw [hw]; have := HJ.out; omega⟩, ⟨below_drew HB5.out⟩, ⟨by rw [hw, show (j + 1).toNat = j.toNat + 1 by omega]; exact HS2.out⟩⟩
      · have hd : decide (j < (n : Int)) = false := decide_eq_false hlt
        have hr0 : r = (0, [], true) := by
          rw [← HS.out, List.drop_eq_nil_of_le (by have := HN.out; have := HJ.out; omega)]
          rfl
        go_wp2
        subst hr0
        exact HK.out _ _ none 0 HBR.out rfl rfl rfl rfl (Nat.le_refl _) (fun _ _ _ _ _ => Kd.C_nil _ _)
theorem wp_seq3 {P : Program} {A B C D : Code} {Q : Exit → Act → World → Prop} {a : Act} {w : World} (h : ∀ TL, TL = D → (A.seq (B.seq (C.seq TL))).wp P Q a w) : (A.seq (B.seq (C.seq D))).wp P Q a w := h D rfl
theorem stand_range : ∀ (l : List SE) (i t : Int), 0 ≤ i → (∀ x ∈ l, 0 ≤ x.f0 ∧ x.f0 < 18446744073709551616) → standG i t l = true → ∀ (j : Nat) x, l[j]? = some x → x.f0 = i + 1 + j
  | [], _, _, _, _, _, _, _, h => by simp at h
  | y :: l, i, t, hi, hr, hg, j, x, h => by
    obtain ⟨h1, h2, h3, h4⟩ := stand_cons hg
    have h5 := hr y List.mem_cons_self
    have h6 : y.f0 = i + 1 := by rw [IntKind.wrap_u64] at h1; omega
    cases j with
    | zero =>
      simp only [List.getElem?_cons_zero, Option.some.injEq] at h
      subst h
      omega
    | succ j =>
      simp only [List.getElem?_cons_succ] at h
      have := stand_range l y.f0 y.f1 (by omega) (fun z hz => hr z (List.mem_cons_of_mem _ hz)) h4 j x h
      omega
theorem stand_above {l : List SE} {i t : Int} (hi : 0 ≤ i) (hr : ∀ x ∈ l, 0 ≤ x.f0 ∧ x.f0 < 18446744073709551616) (hg : standG i t l = true) : ∀ x ∈ l, i < x.f0 := fun x hx => by
  obtain ⟨j, hj⟩ := List.mem_iff_getElem?.1 hx
  have := stand_range l i t hi hr hg j x hj
  omega
theorem ret3_of {P : Program} {fn : Func} {p q u : Tmp} {a : Act} {w : World} {v1 v2 v3 : Value} (h : fn.results = #[.tmp p, .tmp q, .tmp u]) (h1 : a.eval (.tmp p) = v1) (h2 : a.eval (.tmp q) = v2) (h3 : a.eval (.tmp u) = v3) : (results fn a.tmps).run P w = .ok (.tuple #[v1, v2, v3]) w := by
  have e1 : a.tmps[p]?.getD undef = v1 := by simpa [Act.eval] using h1
  have e2 : a.tmps[q]?.getD undef = v2 := by simpa [Act.eval] using h2
  have e3 : a.tmps[u]?.getD undef = v3 := by simpa [Act.eval] using h3
  simp [results, h, e1, e2, e3]
theorem row_to {W w' : World} {ok : Nat → Prop} {A : Option Addr} {n : Nat} {ys : List S63} (h : Kd.F k63 W ok A n ys) (hb : Below W.heap.size W w') : Kd.F k63 w' (fun k => ok k ∨ W.heap.size ≤ k) A n ys :=
  Kd.F_mono (Kd.F_step h (fun k _ hk => hb.block k hk)) (fun _ hk => .inl hk)
theorem take_drop_in {l : List SE} {j d : Nat} (h : j < l.length) (hd : d ≤ j) : pl ((l.take (j + 1)).drop d) = pl ((l.take j).drop d) ++ [plE (rd_T78 l j)] := by
  have h1 : l.take (j + 1) = l.take j ++ [rd_T78 l j] := by
    rw [List.take_add_one, List.getElem?_eq_getElem h]
    show _ = _ ++ [l.getD ((j : Nat) : Int).toNat _]
    rw [Int.toNat_natCast, List.getD_eq_getElem?_getD, List.getElem?_eq_getElem h]
    rfl
  rw [h1, List.drop_append_of_le_length (by rw [List.length_take]; omega)]
  simp [pl]
theorem take_drop_out {l : List SE} {j d : Nat} (hd : j < d) : pl ((l.take (j + 1)).drop d) = [] ∧ pl ((l.take j).drop d) = [] := by
  rw [List.drop_eq_nil_of_le (by rw [List.length_take]; omega), List.drop_eq_nil_of_le (by rw [List.length_take]; omega)]
  exact ⟨rfl, rfl⟩
/-- What is told of the row that comes in, of the row that goes out. -/
def RowTo (W w' : World) (ok : Nat → Prop) (A' : Option Addr) (ys : List S63) : Prop := Kd.F k63 w' (fun k => ok k ∨ W.heap.size ≤ k) A' ys.length ys
set_option maxHeartbeats 16000000 in
set_option maxRecDepth 100000 in
theorem rjoin (W : World) (ok : Nat → Prop) (a b i t : Int) (A : Option Addr) (c : Nat) (xs : List SE) (hC : k63.C W A (pl xs).length (pl xs)) (hc : (pl xs).length ≤ c) (hrow : Row a xs) (hi : 0 ≤ i ∧ i < 18446744073709551616)
    (A2 : Option Addr) (c2 : Nat) (l : List SE) (hF : Kd.F k63 W ok A2 (pl l).length (pl l)) (hc2 : (pl l).length ≤ c2) (hl : l.length ≤ 100000) (hrg : ∀ x ∈ l, 0 ≤ x.f0 ∧ x.f0 < 18446744073709551616) :
    Calls Try.prog 40 #[.agg #[.int .u64 a, .int .u64 b, .slice none 0 0, .slice A (pl xs).length c], .int .u64 i, .int .u64 t, .slice A2 (pl l).length c2] W fun e w' => ∃ A' c', e = .returned (.tuple #[.int .u64 (joinA a b xs i t l).1, .slice A' (pl (joinA a b xs i t l).2.1).length c', .bool (joinA a b xs i t l).2.2]) ∧ (pl (joinA a b xs i t l).2.1).length ≤ c' ∧ RowTo W w' ok A' (pl (joinA a b xs i t l).2.1) ∧ Below W.heap.size W w' := by
  have hu := Try.underlying66
  have hu2 := Try.underlying63
  have S0 := St.start W (fun _ => False)
  have hlo := hrow.lo
  have HC := Aside0.mk hC
  have HF := Aside0.mk hF
  have HS1 : Aside0 (∀ w, Below W.heap.size W w → Calls Try.prog 43 #[.agg #[.int .u64 i, .int .u64 t, .slice none 0 0], .slice A2 (pl l).length c2] w fun e w' => e = .returned (.bool (standG i t l)) ∧ Below w.heap.size w w') := ⟨fun w hb =>
    jobberref38_Stands.calls (l.length + 1) i t (fun _ => True) none 0 [] (fun _ => True) A2 c2 (pl l) (standG i t l) w (Kd.V_nil _ _ _ _ _) (V_all k63_heap (Kd.C_below (Kd.F_now hF) hb) hc2) (rstands_eval l hl i t [] (by omega))⟩
  cases hg : standG i t l with
  | false =>
    have hj : joinA a b xs i t l = (0, [], false) := by unfold joinA; rw [hg, if_pos rfl]
    rw [hj]
    rw [hg] at HS1
    clear hC hF hc hrow hi hl hrg hg hj
    go_enter Try.func40, Try.ntmps40
    go_wp2_with (first
      | ((with_reducible refine gate_dst (N := 4) rfl ?_); refine box_event ?hg (N := 4) ?hd (cs := #[.int .u64 a, .int .u64 b, .slice none 0 0, .slice A (pl xs).length c]) (t := 66) ?hr ?_; (case hd => rfl); (case hg => rfl); (case hr => first | (go_simp; done) | (go_simp; rfl)); intro gB hg_ w1 hbB hb; have S1 := S0.box hg_ hb hbB; clear S0 hg_ hbB hb)
      | (go_at_call 43; refine (HS1.out w1 S1.below).mono ?_; rintro e w2 ⟨rfl, hb⟩; have S2 := S1.call hb; clear S1 hb))
    go_ret3
    exact ⟨none, 0, rfl, Nat.le_refl _, fun _ _ => Kd.C_nil _ _, S2.below⟩
  | true =>
    rw [hg] at HS1
    by_cases hlt : i < a
    · obtain ⟨d, hd⟩ : ∃ d : Nat, (a - i).toNat = d := ⟨_, rfl⟩
      have hj : joinA a b xs i t l = (if standG a b (l.drop d) = false then (0, [], false) else scanF a b xs (l.drop d)) := by
        unfold joinA
        rw [hg, if_neg (by simp), if_pos hlt, hd]
      obtain ⟨r, hr⟩ : ∃ r, joinA a b xs i t l = r := ⟨_, rfl⟩
      rw [hr] at hj ⊢
      have d1 : decide (i < a) = true := decide_eq_true hlt
      obtain ⟨n, hn⟩ : ∃ n, (pl l).length = n := ⟨_, rfl⟩
      have hnl : n = l.length := by rw [← hn, pl_len]
      have HX := Aside0.mk (And.intro hc (And.intro hrow (And.intro hc2 (And.intro hl hj))))
      have HN := Aside0.mk hnl
      have HD : Aside0 ((d : Int) = a - i ∧ ∀ (j : Nat) x, l[j]? = some x → x.f0 = i + 1 + j) := ⟨by omega, stand_range l i t hi.1 hrg hg⟩
      have HFN := HF.out
      rw [hn] at HFN HS1 ⊢
      have HFN := Aside0.mk HFN
      clear hC hF hc hrow hi hl hrg hg hj hlt hr hc2 hlo hd hn hnl
      go_enter Try.func40, Try.ntmps40
      refine wp_seq3 ?_
      intro TL hTL
      have HTL := Aside0.mk hTL
      clear hTL
      go_wp2_with (first
        | ((with_reducible refine gate_dst (N := 4) rfl ?_); refine box_event ?hg (N := 4) ?hd (cs := #[.int .u64 a, .int .u64 b, .slice none 0 0, .slice A (pl xs).length c]) (t := 66) ?hr ?_; (case hd => rfl); (case hg => rfl); (case hr => first | (go_simp; done) | (go_simp; rfl)); intro gB hg_ w1 hbB hb; have S1 := S0.box hg_ hb hbB; clear S0 hg_ hbB hb)
        | (go_at_call 43; refine (HS1.out w1 S1.below).mono ?_; rintro e w2 ⟨rfl, hb⟩; have S2 := S1.call hb; clear S1 hb; have z0 : w2.cell? ⟨gB, 0, none⟩ = some (.int .u64 a) := (blk_cell (S2.blk 0 rfl) 0).trans rfl; have z1 : w2.cell? ⟨gB, 1, none⟩ = some (.int .u64 b) := (blk_cell (S2.blk 0 rfl) 1).trans rfl; have z2 : w2.cell? ⟨gB, 2, none⟩ = some (.slice none 0 0) := (blk_cell (S2.blk 0 rfl) 2).trans rfl; have z3 : w2.cell? ⟨gB, 3, none⟩ = some (.slice A (pl xs).length c) := (blk_cell (S2.blk 0 rfl) 3).trans rfl))
      have HS2 := Aside0.mk S2
      clear S2 HS1 z0 z1 z2 z3
      go_loopg [11, 12] n (fun gk v11 v12 wr => ∃ (j : Int) (A1 : Option Addr) (c1 : Nat) (ys : List S63), v12 = .int .i64 j ∧ v11 = .slice A1 ys.length c1 ∧ Aside0 (ys = pl ((l.take j.toNat).drop d)) ∧ Aside0 (0 ≤ j ∧ j + gk = n) ∧ Aside0 (Below w2.heap.size w2 wr) ∧ Aside0 (Kd.N k63 63 wr w2.heap.size (fun k => (ok k ∧ k < w2.heap.size) ∨ w2.heap.size ≤ k) (.slice A1 ys.length c1) ys))
      case atStart => exact ⟨0, none, 0, [], rfl, rfl, ⟨by simp [pl]⟩, ⟨by omega⟩, ⟨Below.refl _ _⟩, ⟨Kd.N_nil _ _ _ _ _⟩⟩
      case round =>
        obtain ⟨j, A1, c1, ys, rfl, rfl, HYS, HJ, HBR, HNN⟩ := hrel
        have hj0 : 0 ≤ j := HJ.out.1
        have hbB := (HBR.out.block _ (blk_lt (HS2.out.blk 0 rfl))).trans (HS2.out.blk 0 rfl)
        have hz : wr.cell? ⟨gB, 0, none⟩ = some (.int .u64 a) := (blk_cell hbB 0).trans rfl
        by_cases hlt : j < (n : Int)
        · have hd : decide (j < (n : Int)) = true := decide_eq_true hlt
          have p1 : (0 ≤ j) = True := eq_true hj0
          have p2 : (j < (n : Int)) = True := eq_true hlt
          have hFr : Kd.F k63 wr (fun k => ok k ∧ k < w2.heap.size) A2 n (pl l) := Kd.F_mono (Kd.F_step (Kd.F_bound HFN.out) (fun k hk _ => (HBR.out.block k (Nat.lt_of_lt_of_le hk.2 HS2.out.below.size)).trans (HS2.out.below.block k hk.2))) (fun k hk => ⟨hk.1, Nat.lt_of_lt_of_le hk.2 HS2.out.below.size⟩)
          obtain ⟨ad, cs, e1, hcl, hFK, hcc, _⟩ := Kd.F_get hFr z63 j hj0 hlt
          subst e1
          have hjn : j.toNat < l.length := by have := HN.out; omega
          have hrd : (pl l).getD j.toNat z63 = plE (rd_T78 l j) := rd_pl l hj0 (by omega)
          rw [hrd] at hFK
          have hf0 : (plE (rd_T78 l j)).f0 = i + 1 + j := by
            have := HD.out.2 j.toNat (rd_T78 l j) (by unfold rd_T78; rw [List.getD_eq_getElem?_getD, List.getElem?_eq_getElem hjn]; rfl)
            show (rd_T78 l j).f0 = _
            omega
          obtain ⟨y, hy⟩ : ∃ y, plE (rd_T78 l j) = y := ⟨_, rfl⟩
          rw [hy] at hFK hf0
          obtain ⟨A3, c3, rfl, l3, g3⟩ := k63_openF hFK
          have x0 : wr.cell? (ad.add (j.toNat * 3)) = some (.int .u64 y.f0) := hcc 0 _ rfl
          have x1 : wr.cell? ⟨(ad.add (j.toNat * 3)).block, (ad.add (j.toNat * 3)).off + 1, none⟩ = some (.int .u64 y.f1) := by rw [← add_field _ _ 1 (by omega)]; exact hcc 1 _ rfl
          have x2 : wr.cell? ⟨(ad.add (j.toNat * 3)).block, (ad.add (j.toNat * 3)).off + 2, none⟩ = some (.slice A3 y.f2.length c3) := by rw [← add_field _ _ 2 (by omega)]; exact hcc 2 _ rfl
          have HFK := Aside0.mk hFK
          have HY := Aside0.mk (And.intro hy (And.intro hf0 hjn))
          have hw : wrap64 (j + 1) = j + 1 := by have h1 := HN.out; have h2 := HJ.out; have h3 := HX.out.2.2.2.1; unfold wrap64; omega
          have HW := Aside0.mk hw
          obtain ⟨m3, hm3⟩ : ∃ m3, y.f2.length = m3 := ⟨_, rfl⟩
          obtain ⟨m1, hm1⟩ : ∃ m1, ys.length = m1 := ⟨_, rfl⟩
          rw [hm3] at HFK x2
          have HM1 := Aside0.mk hm1
          have HYL : Aside0 (ys.length ≤ 100000) := ⟨by rw [HYS.out, pl_len, List.length_drop, List.length_take]; have := HX.out.2.2.2.1; omega⟩
          clear hFr hcl hFK hcc hrd hf0 hjn hy l3 g3 hw hbB hm3
          by_cases hab : a < y.f0
          · have hbb : decide (a < y.f0) = true := decide_eq_true hab
            have hys : pl ((l.take (j + 1).toNat).drop d) = ys ++ [y] := by
              have h1 := take_drop_in (l := l) (j := j.toNat) (d := d) HY.out.2.2 (by have := HY.out.2.1; have := HD.out.1; omega)
              rw [show ((j.toNat : Nat) : Int) = j by omega, HY.out.1, ← HYS.out] at h1
              rw [show (j + 1).toNat = j.toNat + 1 by omega]
              exact h1
            have HYY := Aside0.mk hys
            clear hys hab
            rw [hm1] at HNN ⊢
            clear hm1
            go_upto_region 8 with (fail)
            refine rj8 (g16 := 0) (b := 0) (x1 := 0) (e1 := 0) rfl p1 p2 hz x0 hbb ?_
            intros
            go_wp2_with ((with_reducible refine gate_builtin (b := .append) (xs := #[.tmp 44, .tmp 49]) rfl ?_); (try (refine gate_guard (by rfl) ?_; dsimp only)); at_builtin; refine Kd.N_append k63 (w0 := w2) (W := wr.drew) w2.heap.size rfl (.tmp 44) (.tmp 49) 64 63 (.agg #[.int .u64 0, .int .u64 0, .slice none 0 0]) 40 rfl Try.underlying64 info63 rfl (by decide) (by decide) (.slice A1 m1 c1) ys y [.int .u64 y.f0, .int .u64 y.f1, .slice A3 m3 c3] (fun k => (ok k ∧ k < w2.heap.size) ∨ w2.heap.size ≤ k) (fun k => ok k ∧ k < w2.heap.size) rfl rfl HFK.out (fun k hk => ⟨.inl hk, fun q => by have := Kd.N_base HNN.out k q.symm; omega⟩) (fun k hk => .inr (Nat.le_trans HBR.out.size hk)) HNN.out (below_drew HBR.out) HBR.out.size (by have := HYL.out; omega) ?_; intro v1 w5 hN hb _ _; obtain ⟨A5, c5, e5⟩ := Kd.N_slice hN; subst e5; have HN5 := Aside0.mk hN; have HB5 := Aside0.mk hb; clear hN hb)
            go_roundg (gk - 1)
            case measure => have := HJ.out; omega
            case rel => exact ⟨wrap64 (j + 1), A5, c5, ys ++ [y], by first | rfl | (simp; done), by first | rfl | (rw [List.length_append]; rfl), ⟨by rw [HW.out]; exact HYY.out.symm⟩, ⟨by rw [HW.out]; have := HJ.out; omega⟩, HB5, HN5⟩
          · have hbb : decide (a < y.f0) = false := decide_eq_false hab
            have hys : pl ((l.take (j + 1).toNat).drop d) = ys := by
              have h1 := take_drop_out (l := l) (j := j.toNat) (d := d) (by have := HY.out.2.1; have := HD.out.1; omega)
              rw [show (j + 1).toNat = j.toNat + 1 by omega, h1.1, HYS.out, h1.2]
            have HYY := Aside0.mk hys
            clear hys hab hm1
            go_upto_region 8 with (fail)
            refine rj8 (g16 := 0) (b := 0) (x1 := 0) (e1 := 0) rfl p1 p2 hz x0 hbb ?_
            intros
            go_wp2
            go_roundg (gk - 1)
            case measure => have := HJ.out; omega
            case rel => exact ⟨wrap64 (j + 1), A1, c1, ys, by first | rfl | (simp; done), rfl, ⟨by rw [HW.out]; exact HYY.out.symm⟩, ⟨by rw [HW.out]; have := HJ.out; omega⟩, ⟨below_drew HBR.out⟩, ⟨Kd.N_drew HNN.out⟩⟩
        · have hd : decide (j < (n : Int)) = false := decide_eq_false hlt
          have hz1 : wr.cell? ⟨gB, 1, none⟩ = some (.int .u64 b) := (blk_cell hbB 1).trans rfl
          have hz2 : wr.cell? ⟨gB, 2, none⟩ = some (.slice none 0 0) := (blk_cell hbB 2).trans rfl
          have HBK := Aside0.mk hbB
          have hys : ys = pl (l.drop d) := by rw [HYS.out, List.take_of_length_le (by have := HN.out; have := HJ.out; omega)]
          subst hys
          have HLE : Aside0 ((l.drop d).length ≤ 100000) := ⟨by rw [List.length_drop]; have := HX.out.2.2.2.1; omega⟩
          have HNS : Aside0 (Calls Try.prog 43 #[.agg #[.int .u64 a, .int .u64 b, .slice none 0 0], .slice A1 (pl (l.drop d)).length c1] wr fun e w' => e = .returned (.bool (standG a b (l.drop d))) ∧ Below wr.heap.size wr w') := ⟨
            jobberref38_Stands.calls ((l.drop d).length + 1) a b (fun _ => True) none 0 [] _ A1 c1 (pl (l.drop d)) (standG a b (l.drop d)) wr (Kd.V_nil _ _ _ _ _) (Kd.N_V HNN.out) (rstands_eval (l.drop d) HLE.out a b [] (by omega))⟩
          have HBW : Aside0 (Below W.heap.size W wr) := ⟨below_step HS2.out.below HBR.out⟩
          have HN1 := Aside0.mk (Kd.N_reads' HNN.out).2
          have HRT : Aside0 (∀ w', Below wr.heap.size wr w' → Kd.F k63 w' (fun k => ok k ∨ W.heap.size ≤ k) A1 (pl (l.drop d)).length (pl (l.drop d))) := ⟨fun w' hb => Kd.F_mono (Kd.F_step (Kd.N_F HNN.out) (fun k _ hk => hb.block k hk)) (fun k hk => hk.elim (fun h => .inl h.1) (fun h => .inr (Nat.le_trans HS2.out.below.size h)))⟩
          clear hbB
          obtain ⟨l2, hl2⟩ : ∃ l2, l.drop d = l2 := ⟨_, rfl⟩
          have hj := HX.out.2.2.2.2
          rw [hl2] at HNS hj HN1 HRT HLE ⊢
          have HJ2 := Aside0.mk hj
          have hne : ∀ x ∈ l2, x.f0 ≠ a := fun x hx => by
            rw [← hl2] at hx
            obtain ⟨q, hq⟩ := List.mem_iff_getElem?.1 hx
            rw [List.getElem?_drop] at hq
            have h1 := HD.out.2 _ x hq
            have h2 := HD.out.1
            omega
          have HNE := Aside0.mk hne
          clear hj hl2 hne HNN HYS
          cases hg2 : standG a b l2 with
          | false =>
            rw [hg2] at HNS
            have hr0 : r = (0, [], false) := by rw [HJ2.out, hg2, if_pos rfl]
            clear hg2
            go_wp2_with (go_at_call 43; refine HNS.out.mono ?_; rintro e w6 ⟨rfl, hb⟩; have HB6 := Aside0.mk (below_step HBW.out hb); clear hb)
            subst hr0
            go_ret3
            exact ⟨none, 0, rfl, Nat.le_refl _, fun _ _ => Kd.C_nil _ _, HB6.out⟩
          | true =>
            rw [hg2] at HNS
            have hr0 : joinG a b xs a b l2 true = r := by
              rw [HJ2.out, hg2, if_neg (by simp)]
              unfold joinG
              have h1 : termF a b xs a = (b, true) := by unfold termF; rw [if_pos rfl]
              rw [if_neg (by decide), h1, if_neg (by simp), if_pos rfl]
            have HR0 := Aside0.mk hr0
            clear hg2 hr0
            go_wp2_with (go_at_call 43; refine HNS.out.mono ?_; rintro e w6 ⟨rfl, hb⟩; have HB6 := Aside0.mk hb; clear hb)
            have hbw := below_step HBW.out HB6.out
            refine rjoin_tail (gB := gB) (by rw [HTL.out]; rfl) a b A c xs HX.out.2.1 ((HB6.out.block _ (blk_lt HBK.out)).trans HBK.out) (Kd.C_below HC.out hbw) HX.out.1 a b A1 c1 l2 (Kd.C_below HN1.out.2 HB6.out) HN1.out.1 HLE.out HNE.out r HR0.out (fun act w' A' c' hb hd h8 h9 h10 hlc hff => ?_)
            refine bodyPost_ret (v := .tuple #[.int .u64 r.1, .slice A' (pl r.2.1).length c', .bool r.2.2]) (ret3_of rfl h8 h9 h10) hd ?_
            exact ⟨A', c', rfl, hlc, hff w' _ (HRT.out w' (below_step HB6.out hb)), below_step hbw hb⟩
    · have hne : ∀ x ∈ l, x.f0 ≠ a := fun x hx => by have := stand_above hi.1 hrg hg x hx; omega
      have hj : joinA a b xs i t l = joinG a b xs i t l true := by
        unfold joinA
        rw [hg, if_neg (by simp), if_neg hlt]
      obtain ⟨r, hr⟩ : ∃ r, joinG a b xs i t l true = r := ⟨_, rfl⟩
      rw [hj, hr]
      have d1 : decide (i < a) = false := decide_eq_false hlt
      have HX := Aside0.mk (And.intro hc (And.intro hrow (And.intro hc2 (And.intro hl (And.intro hne hr)))))
      clear hC hF hc hrow hi hl hrg hg hj hlt hne hr hc2 hlo
      go_enter Try.func40, Try.ntmps40
      refine wp_seq3 ?_
      intro TL hTL
      have HTL := Aside0.mk hTL
      clear hTL
      go_wp2_with (first
        | ((with_reducible refine gate_dst (N := 4) rfl ?_); refine box_event ?hg (N := 4) ?hd (cs := #[.int .u64 a, .int .u64 b, .slice none 0 0, .slice A (pl xs).length c]) (t := 66) ?hr ?_; (case hd => rfl); (case hg => rfl); (case hr => first | (go_simp; done) | (go_simp; rfl)); intro gB hg_ w1 hbB hb; have S1 := S0.box hg_ hb hbB; clear S0 hg_ hbB hb)
        | (go_at_call 43; refine (HS1.out w1 S1.below).mono ?_; rintro e w2 ⟨rfl, hb⟩; have S2 := S1.call hb; clear S1 hb; have z0 : w2.cell? ⟨gB, 0, none⟩ = some (.int .u64 a) := (blk_cell (S2.blk 0 rfl) 0).trans rfl; have z1 : w2.cell? ⟨gB, 1, none⟩ = some (.int .u64 b) := (blk_cell (S2.blk 0 rfl) 1).trans rfl; have z2 : w2.cell? ⟨gB, 2, none⟩ = some (.slice none 0 0) := (blk_cell (S2.blk 0 rfl) 2).trans rfl; have z3 : w2.cell? ⟨gB, 3, none⟩ = some (.slice A (pl xs).length c) := (blk_cell (S2.blk 0 rfl) 3).trans rfl))
      refine rjoin_tail (gB := gB) (by rw [HTL.out]; rfl) a b A c xs HX.out.2.1 (S2.blk 0 rfl) (Kd.C_below HC.out S2.below) HX.out.1 i t A2 c2 l (Kd.C_below (Kd.F_now HF.out) S2.below) HX.out.2.2.1 HX.out.2.2.2.1 HX.out.2.2.2.2.1 r HX.out.2.2.2.2.2 (fun act w' A' c' hb hd h8 h9 h10 hlc hff => ?_)
      refine bodyPost_ret (v := .tuple #[.int .u64 r.1, .slice A' (pl r.2.1).length c', .bool r.2.2]) (ret3_of rfl h8 h9 h10) hd ?_
      have hbw := below_step S2.below hb
      exact ⟨A', c', rfl, hlc, hff w' _ (row_to HF.out hbw), hbw⟩

end Go.Proofs.Ythkhfhhbldjdlaa.Chp
