/- Printed by this session's wip/drive.py over the translation; some functions by hand. -/
import Derived.Test.YthkhfhhbldjdlaaChjx0
import Derived.Test.YthkhfhhbldjdlaaChjx1
import Derived.Test.YthkhfhhbldjdlaaChjx2
import Derived.Test.YthkhfhhbldjdlaaChjx5
namespace Go.Proofs.Ythkhfhhbldjdlaa.Chj
open Go.RowKit Go.Proofs.YthkhfhhbldjdlaaW.PrintWords Go.Proofs.YthkhfhhbldjdlaaW.PrintLast Go.Proofs.YthkhfhhbldjdlaaW.PrintMore
attribute [local go_sem] max2_int min2_int max_two min_two max_three min_three max_four min_four   -- for this text's walks alone
set_option linter.unusedVariables false
set_option linter.unusedSimpArgs false

/-! ### jobberlaw38_ChainJoins: function 8 (by hand) -/
theorem Row.take {ix : Int} {xs : List SE} (h : Row ix xs) (n : Nat) : Row ix (xs.take n) :=
  ⟨fun j x hx => (by rw [List.getElem?_take] at hx; split at hx; (exact h.at_ j x hx); (cases hx)), h.lo, by have := h.hi; rw [List.length_take]; omega, by have := h.few; rw [List.length_take]; omega, fun x hx => h.small x (List.mem_of_mem_take hx)⟩
set_option maxHeartbeats 8000000 in
set_option maxRecDepth 100000 in
theorem chain_cut (W : World) (F : Nat → Prop) (g : Nat) (a b : Int) (xs : List SE) (h : ChP g a b xs W F) (i : Int) (hi : 0 ≤ i ∧ i < 18446744073709551616) (h1 : a < i) (h2 : i - 1 ≤ a + xs.length) :
    Calls Try.prog 32 #[.pointer (some ⟨g, 0, none⟩), .int .u64 i] W fun e w' => e = .returned (.int .i64 0) ∧ St W F w' [ChP g a b (xs.take (i - 1 - a).toNat)] := by
  have hu := Try.underlying121
  have S0 := St.start1 ChP.loc h
  have HCH := Aside0.mk h.now
  obtain ⟨hr, A, c, S1⟩ := S0.chOpen
  have HR := Aside0.mk hr
  have hlo := hr.lo
  obtain ⟨n, hn⟩ : ∃ n : Int, i - 1 - a = n := ⟨_, rfl⟩
  have hw1 : IntKind.u64.wrap (i - 1) = i - 1 := by rw [IntKind.wrap_u64]; omega
  have hw2 : IntKind.u64.wrap (i - 1 - a) = n := by rw [IntKind.wrap_u64]; omega
  have d1 : decide (i ≤ a) = false := decide_eq_false (by omega)
  have d2 : decide (i - 1 > a + (xs.length : Int)) = false := decide_eq_false (by omega)
  have HN : Aside0 (0 ≤ n ∧ n ≤ xs.length) := ⟨by omega⟩
  rw [hn]
  obtain ⟨ys, hys⟩ : ∃ ys, xs.take n.toNat = ys := ⟨_, rfl⟩
  rw [hys]
  have HYS := Aside0.mk hys
  clear hys
  clear h S0 hi h1 h2 hr hlo hn
  go_enter Try.func32, Try.ntmps32
  go_wp2_with (go_at_call 45; refine (chain_last _ g a b xs HCH.out).mono ?_; rintro e w1 ⟨rfl, hb⟩; have S2 := S1.call hb; clear S1 hb; have z0 : w1.cell? ⟨g, 0, none⟩ = some (.int .u64 a) := (blk_cell (S2.blk 0 rfl) 0).trans rfl; have fz0 : w1.frozen? ⟨g, 0, none⟩ = false := blk_frozen (S2.blk 0 rfl) 0; have z1 : w1.cell? ⟨g, 1, none⟩ = some (.int .u64 b) := (blk_cell (S2.blk 0 rfl) 1).trans rfl; have fz1 : w1.frozen? ⟨g, 1, none⟩ = false := blk_frozen (S2.blk 0 rfl) 1; have z2 : w1.cell? ⟨g, 2, none⟩ = some (.slice A xs.length c) := (blk_cell (S2.blk 0 rfl) 2).trans rfl; have fz2 : w1.frozen? ⟨g, 2, none⟩ = false := blk_frozen (S2.blk 0 rfl) 2)
  have hlc := (S2.nrd 1 rfl).2.1
  have hyl : ys.length = n.toNat := by have := HN.out; rw [← HYS.out, List.length_take]; omega
  have hcut : ∀ W : World, (Instr.slice 72 (.slice A xs.length c) none (some (.int .u64 n)) none).run Try.prog W = .ok (.slice A ys.length c) W := fun W => by
    rw [cut_h' 72 78 .u64 3 Try.underlying72 (by kernel_rfl) A xs.length c n HN.out.1 (by have := HN.out; omega) W, hyl]
  have HCC : Aside0 (∀ W', Below w1.heap.size w1 W' → KE.C W' A ys.length ys) := ⟨fun W' hb => by have := Kd.C_take (S2.nrd 1 rfl).2.2 (m := n.toNat) (by have := HN.out; omega); rw [HYS.out] at this; exact Kd.C_below this hb⟩
  have HRY : Aside0 (Row a ys) := ⟨by rw [← HYS.out]; exact HR.out.take _⟩
  have HLC : Aside0 (ys.length ≤ c) := ⟨by have := HN.out; omega⟩
  clear hlc hyl
  go_region_with (first | (go_at_call 66; refine Calls.named ?_; intro w2 hw2; have hB2 : Below w1.heap.size w1 w2 := (by rw [hw2]; repeat (first | exact Below.refl _ _ | apply below_drew1)); have S3 := S2.call hB2; clear hw2; (with_reducible refine (chain_copied.calls A c ys w2 (HCC.out _ hB2) HLC.out HRY.out.few HRY.out.small).mono ?_); rintro e w3 ⟨v, rfl, hR, hb⟩; obtain ⟨A3, c3, e3⟩ := Kd.R_slice hR; subst e3; have S4 := S3.row hb hR; clear S3 hb hR hB2 z0 z1 z2 fz0 fz1 fz2; have z0 : w3.cell? ⟨g, 0, none⟩ = some (.int .u64 a) := (blk_cell (S4.blk 1 rfl) 0).trans rfl; have fz0 : w3.frozen? ⟨g, 0, none⟩ = false := blk_frozen (S4.blk 1 rfl) 0; have z1 : w3.cell? ⟨g, 1, none⟩ = some (.int .u64 b) := (blk_cell (S4.blk 1 rfl) 1).trans rfl; have fz1 : w3.frozen? ⟨g, 1, none⟩ = false := blk_frozen (S4.blk 1 rfl) 1; have z2 : w3.cell? ⟨g, 2, none⟩ = some (.slice A xs.length c) := (blk_cell (S4.blk 1 rfl) 2).trans rfl; have fz2 : w3.frozen? ⟨g, 2, none⟩ = false := blk_frozen (S4.blk 1 rfl) 2))
  all_goals
    go_wp2
    go_ret
    exact ⟨rfl, (St.chShut HRY.out ((((S4.front 1 rfl).put 2 (.slice A3 ys.length c3) rfl).front 1 rfl).rw_nw.front 1 rfl)).take 1⟩
set_option maxHeartbeats 8000000 in
set_option maxRecDepth 100000 in
theorem chain_cut_bad (W : World) (g : Nat) (a b : Int) (xs : List SE) (h : Ch W g a b xs) (i : Int) (hi : 0 ≤ i ∧ i < 18446744073709551616) (h1 : ¬ (a < i ∧ i - 1 ≤ a + xs.length)) :
    Calls Try.prog 32 #[.pointer (some ⟨g, 0, none⟩), .int .u64 i] W fun e w' => e = .returned (.int .i64 2) ∧ Below W.heap.size W w' := by
  have hu := Try.underlying121
  have HCH := Aside0.mk h
  have hlo := h.row.lo
  by_cases c1 : i ≤ a
  · have d1 : decide (i ≤ a) = true := decide_eq_true c1
    clear h hi h1 hlo c1
    go_enter Try.func32, Try.ntmps32
    go_wp2_with (go_at_call 45; refine (chain_last _ g a b xs HCH.out).mono ?_; rintro e w1 ⟨rfl, hb⟩; have HB1 := Aside0.mk hb; obtain ⟨A, c, z0, _, _, _, _⟩ := (HCH.out.below hb).blk; clear hb)
    repeat (go_quiet (fail); try go_wp2)
    go_ret
    exact ⟨rfl, by repeat (first | (with_reducible first | exact HB1.out | apply below_alloc | apply pw_below_drewN | apply below_drew1) | exact HB1.out)⟩
  · have d1 : decide (i ≤ a) = false := decide_eq_false c1
    have hw1 : IntKind.u64.wrap (i - 1) = i - 1 := by rw [IntKind.wrap_u64]; omega
    have d2 : decide (i - 1 > a + (xs.length : Int)) = true := decide_eq_true (by omega)
    clear h hi h1 hlo c1
    go_enter Try.func32, Try.ntmps32
    go_wp2_with (go_at_call 45; refine (chain_last _ g a b xs HCH.out).mono ?_; rintro e w1 ⟨rfl, hb⟩; have HB1 := Aside0.mk hb; obtain ⟨A, c, z0, _, _, _, _⟩ := (HCH.out.below hb).blk; clear hb)
    repeat (go_quiet (fail); try go_wp2)
    go_ret
    exact ⟨rfl, by repeat (first | (with_reducible first | exact HB1.out | apply below_alloc | apply pw_below_drewN | apply below_drew1) | exact HB1.out)⟩
set_option maxHeartbeats 8000000 in
set_option maxRecDepth 100000 in
theorem chain_append_bad (W : World) (g : Nat) (a b : Int) (xs : List SE) (h : Ch W g a b xs) (A1 : Option Addr) (c1 : Nat) (l : List SE) (hC : KE.C W A1 l.length l) (hc : l.length ≤ c1) (k : Nat) (hst : chain_stands.f k (a + xs.length) (lastT b xs) l = some false) :
    Calls Try.prog 33 #[.pointer (some ⟨g, 0, none⟩), .slice A1 l.length c1] W fun e w' => e = .returned (.int .i64 2) ∧ Below W.heap.size W w' := by
  have hu := Try.underlying121
  have HCH := Aside0.mk h
  have HC := Aside0.mk hC
  have Hc := Aside0.mk hc
  have HS := Aside0.mk hst
  clear h hC hc hst
  go_enter Try.func33, Try.ntmps33
  go_wp2_with (first
    | (go_at_call 45; refine (chain_last _ g a b xs HCH.out).mono ?_; rintro e w1 ⟨rfl, hb⟩; have HB1 := Aside0.mk hb; clear hb)
    | (go_at_call 64; refine (chain_stands.calls k _ _ A1 c1 l false _ (Kd.C_below HC.out HB1.out) Hc.out HS.out).mono ?_; rintro e w2 ⟨rfl, hb⟩; have HB2 := Aside0.mk (below_step HB1.out hb); clear hb))
  go_ret
  exact ⟨rfl, HB2.out⟩
theorem Row.append {ix : Int} {xs l : List SE} (h : Row ix xs) (k : Row (ix + xs.length) l) (hf : xs.length + l.length ≤ 100000) : Row ix (xs ++ l) :=
  ⟨fun j x hx => (by
    rcases Nat.lt_or_ge j xs.length with hj | hj
    · rw [List.getElem?_append_left hj] at hx; exact h.at_ j x hx
    · rw [List.getElem?_append_right hj] at hx; have := k.at_ _ x hx; omega), h.lo, (by have := k.hi; rw [List.length_append]; omega), (by rw [List.length_append]; exact hf), fun x hx => (by rcases List.mem_append.1 hx with h1 | h1; exact h.small x h1; exact k.small x h1)⟩
set_option maxHeartbeats 8000000 in
set_option maxRecDepth 100000 in
theorem chain_append (W : World) (F : Nat → Prop) (g : Nat) (a b : Int) (xs : List SE) (h : ChP g a b xs W F) (A1 : Option Addr) (c1 : Nat) (l : List SE) (hC : ∀ W', (Fr F W W') → KE.C W' A1 l.length l) (hc : l.length ≤ c1) (k : Nat) (hst : chain_stands.f k (a + xs.length) (lastT b xs) l = some true) (hrow : Row (a + xs.length) l) (hfew : xs.length + l.length ≤ 100000) :
    Calls Try.prog 33 #[.pointer (some ⟨g, 0, none⟩), .slice A1 l.length c1] W fun e w' => e = .returned (.int .i64 0) ∧ St W F w' [ChP g a b (xs ++ l)] := by
  have hu := Try.underlying121
  have S0 := St.start1 ChP.loc h
  have HCH := Aside0.mk h.now
  have HC := Aside0.mk hC
  have Hc := Aside0.mk hc
  have HS := Aside0.mk hst
  have HL := Aside0.mk hrow
  have HF := Aside0.mk hfew
  obtain ⟨hr, A, c, S1⟩ := S0.chOpen
  have HZR := Aside0.mk (hr.append hrow hfew)
  obtain ⟨zs, hzs⟩ : ∃ zs, xs ++ l = zs := ⟨_, rfl⟩
  rw [hzs] at HZR ⊢
  have HZ := Aside0.mk hzs
  clear h S0 hC hc hst hrow hfew hr hzs
  go_enter Try.func33, Try.ntmps33
  go_wp2_with (first
    | (go_at_call 45; refine (chain_last _ g a b xs HCH.out).mono ?_; rintro e w1 ⟨rfl, hb⟩; have S2 := S1.call hb; clear S1 hb)
    | (go_at_call 64; refine (chain_stands.calls k _ _ A1 c1 l true _ (HC.out _ S2.fr) Hc.out HS.out).mono ?_; rintro e w2 ⟨rfl, hb⟩; have S3 := S2.call hb; clear S2 hb; have z0 : w2.cell? ⟨g, 0, none⟩ = some (.int .u64 a) := (blk_cell (S3.blk 0 rfl) 0).trans rfl; have fz0 : w2.frozen? ⟨g, 0, none⟩ = false := blk_frozen (S3.blk 0 rfl) 0; have z1 : w2.cell? ⟨g, 1, none⟩ = some (.int .u64 b) := (blk_cell (S3.blk 0 rfl) 1).trans rfl; have fz1 : w2.frozen? ⟨g, 1, none⟩ = false := blk_frozen (S3.blk 0 rfl) 1; have z2 : w2.cell? ⟨g, 2, none⟩ = some (.slice A xs.length c) := (blk_cell (S3.blk 0 rfl) 2).trans rfl; have fz2 : w2.frozen? ⟨g, 2, none⟩ = false := blk_frozen (S3.blk 0 rfl) 2))
  go_region_law (first
    | (go_simp; go_at_call 66; refine Calls.named ?_; intro w3 hw3; have hB3 : Below w2.heap.size w2 w3 := (by rw [hw3]; repeat (first | exact Below.refl _ _ | apply below_drew1)); have S4 := S3.call hB3; clear hw3; (with_reducible refine (chain_copied.calls A1 c1 l w3 (HC.out _ S4.fr) Hc.out HL.out.few HL.out.small).mono ?_); rintro e w4 ⟨v, rfl, hR, hb⟩; obtain ⟨A3, c3, e3⟩ := Kd.R_slice hR; subst e3; have S5 := S4.row hb hR; clear S4 hb hR hB3 z0 z1 z2 fz0 fz1 fz2; have z0 : w4.cell? ⟨g, 0, none⟩ = some (.int .u64 a) := (blk_cell (S5.blk 1 rfl) 0).trans rfl; have fz0 : w4.frozen? ⟨g, 0, none⟩ = false := blk_frozen (S5.blk 1 rfl) 0; have z1 : w4.cell? ⟨g, 1, none⟩ = some (.int .u64 b) := (blk_cell (S5.blk 1 rfl) 1).trans rfl; have fz1 : w4.frozen? ⟨g, 1, none⟩ = false := blk_frozen (S5.blk 1 rfl) 1; have z2 : w4.cell? ⟨g, 2, none⟩ = some (.slice A xs.length c) := (blk_cell (S5.blk 1 rfl) 2).trans rfl; have fz2 : w4.frozen? ⟨g, 2, none⟩ = false := blk_frozen (S5.blk 1 rfl) 2)
    | (obtain ⟨ok, okp, p1, p2, p3, p4, p5⟩ := (S5.rw_vw.front 2 rfl).append_rows; refine Kd.N_append_rows_step KE (w0 := w4) 0 (by rfl) (.tmp 25) (.tmp 27) 72 78 (.agg #[.int .u64 0, .int .u64 0, .slice none 0 0]) 40 rfl Try.underlying72 info78 rfl (by decide) (by decide) (.slice A xs.length c) xs l A3 l.length c3 ok okp rfl rfl p1 p2 p3 p4 (Below.refl _ _) (Nat.zero_le _) (by have := HF.out; omega) ?_; intro v1 w5 hN _ hg _; simp only [HZ.out] at hN p5; obtain ⟨A5, c5, e5⟩ := Kd.N_slice hN; subst e5; have S6 := p5 _ _ hN hg; clear p1 p2 p3 p4 p5 hN hg S5 z0 z1 z2 fz0 fz1 fz2; have z0 : w5.cell? ⟨g, 0, none⟩ = some (.int .u64 a) := (blk_cell (S6.blk 1 rfl) 0).trans rfl; have fz0 : w5.frozen? ⟨g, 0, none⟩ = false := blk_frozen (S6.blk 1 rfl) 0; have z1 : w5.cell? ⟨g, 1, none⟩ = some (.int .u64 b) := (blk_cell (S6.blk 1 rfl) 1).trans rfl; have fz1 : w5.frozen? ⟨g, 1, none⟩ = false := blk_frozen (S6.blk 1 rfl) 1; have z2 : w5.cell? ⟨g, 2, none⟩ = some (.slice A xs.length c) := (blk_cell (S6.blk 1 rfl) 2).trans rfl; have fz2 : w5.frozen? ⟨g, 2, none⟩ = false := blk_frozen (S6.blk 1 rfl) 2))
  all_goals
    go_wp2
    go_ret
    exact ⟨rfl, St.chShut HZR.out ((S6.front 1 rfl).put 2 (.slice A5 zs.length c5) rfl)⟩
theorem Row.drop {ix : Int} {xs : List SE} (h : Row ix xs) {i : Int} (h0 : ix ≤ i) (h1 : i ≤ ix + xs.length) : Row i (xs.drop (i - ix).toNat) :=
  ⟨fun j x hx => (by rw [List.getElem?_drop] at hx; have := h.at_ _ x hx; omega), by have := h.lo; omega, (by have := h.hi; rw [List.length_drop]; omega), (by have := h.few; rw [List.length_drop]; omega), fun x hx => h.small x (List.mem_of_mem_drop hx)⟩
set_option maxHeartbeats 8000000 in
set_option maxRecDepth 100000 in
theorem chain_raise_stay (W : World) (F : Nat → Prop) (g : Nat) (a b : Int) (xs : List SE) (h : ChP g a b xs W F) (i t : Int) (hi : 0 ≤ i ∧ i < 18446744073709551616) (ht : termF a b xs i = (t, true)) :
    Calls Try.prog 39 #[.pointer (some ⟨g, 0, none⟩), .int .u64 i, .int .u64 t] W fun e w' => e = .returned (.bool true) ∧ St W F w' [ChP g i t (xs.drop (i - a).toNat)] := by
  have hu := Try.underlying121
  have S0 := St.start1 ChP.loc h
  have HCH := Aside0.mk h.now
  obtain ⟨hr, A, c, S1⟩ := S0.chOpen
  have HR := Aside0.mk hr
  have HI := Aside0.mk hi
  have HT := Aside0.mk ht
  have hlo := hr.lo
  have hin : a ≤ i ∧ i ≤ a + xs.length := by
    unfold termF at ht
    by_cases c1 : i = a
    · omega
    · rw [if_neg c1] at ht
      by_cases c2 : hasE a xs i
      · unfold hasE at c2; omega
      · rw [if_neg c2] at ht; injection ht with _ h2; cases h2
  have HRW : Aside0 (Row i (xs.drop (i - a).toNat)) := ⟨hr.drop hin.1 hin.2⟩
  obtain ⟨n, hn⟩ : ∃ n : Int, i - a = n := ⟨_, rfl⟩
  have hw2 : IntKind.u64.wrap (i - a) = n := by rw [IntKind.wrap_u64]; omega
  have HN : Aside0 (0 ≤ n ∧ n ≤ xs.length) := ⟨by omega⟩
  rw [hn] at HRW ⊢
  obtain ⟨ys, hys⟩ : ∃ ys, xs.drop n.toNat = ys := ⟨_, rfl⟩
  rw [hys] at HRW ⊢
  have HYS := Aside0.mk hys
  clear h S0 hi ht hr hlo hin hn hys
  have tt : (t == t) = true := by simp
  go_enter Try.func39, Try.ntmps39
  go_wp2_with (go_at_call 46; refine (chain_term _ g a b xs HCH.out i HI.out t true HT.out).mono ?_; rintro e w1 ⟨rfl, hb⟩; have S2 := S1.call hb; clear S1 hb; have z0 : w1.cell? ⟨g, 0, none⟩ = some (.int .u64 a) := (blk_cell (S2.blk 0 rfl) 0).trans rfl; have fz0 : w1.frozen? ⟨g, 0, none⟩ = false := blk_frozen (S2.blk 0 rfl) 0; have z1 : w1.cell? ⟨g, 1, none⟩ = some (.int .u64 b) := (blk_cell (S2.blk 0 rfl) 1).trans rfl; have fz1 : w1.frozen? ⟨g, 1, none⟩ = false := blk_frozen (S2.blk 0 rfl) 1; have z2 : w1.cell? ⟨g, 2, none⟩ = some (.slice A xs.length c) := (blk_cell (S2.blk 0 rfl) 2).trans rfl; have fz2 : w1.frozen? ⟨g, 2, none⟩ = false := blk_frozen (S2.blk 0 rfl) 2)
  have hlc := (S2.nrd 1 rfl).2.1
  have hyl : ys.length = xs.length - n.toNat := by rw [← HYS.out, List.length_drop]
  obtain ⟨A', hA'⟩ : ∃ A', (if c = n.toNat then A else A.map (·.add (n.toNat * 3))) = A' := ⟨_, rfl⟩
  have hcut : ∀ W : World, (Instr.slice 72 (.slice A xs.length c) (some (.int .u64 n)) none none).run Try.prog W = .ok (.slice A' ys.length (c - n.toNat)) W := fun W => by
    rw [cut_l' 72 78 .u64 3 Try.underlying72 (by kernel_rfl) A xs.length c n HN.out.1 (by have := HN.out; omega) W, hyl, hA']
  have HCC : Aside0 (∀ W', Below w1.heap.size w1 W' → KE.C W' A' ys.length ys) := ⟨fun W' hb => by
    have := C_cut (l := n.toNat) (h := xs.length) (S2.nrd 1 rfl).2.2 hlc (by have := HN.out; omega) (Nat.le_refl _)
    rw [List.take_of_length_le (Nat.le_refl _), HYS.out, hA'] at this
    exact Kd.C_below this hb⟩
  have HLC : Aside0 (ys.length ≤ c - n.toNat) := ⟨by have := HN.out; omega⟩
  clear hlc hyl hA'
  go_region_with (first | (go_at_call 66; refine Calls.named ?_; intro w2 hw2; have hB2 : Below w1.heap.size w1 w2 := (by rw [hw2]; repeat (first | exact Below.refl _ _ | apply below_drew1)); have S3 := S2.call hB2; clear hw2; (with_reducible refine (chain_copied.calls A' (c - n.toNat) ys w2 (HCC.out _ hB2) HLC.out HRW.out.few HRW.out.small).mono ?_); rintro e w3 ⟨v, rfl, hR, hb⟩; obtain ⟨A3, c3, e3⟩ := Kd.R_slice hR; subst e3; have S4 := S3.row hb hR; clear S3 hb hR hB2 z0 z1 z2 fz0 fz1 fz2; have z0 : w3.cell? ⟨g, 0, none⟩ = some (.int .u64 a) := (blk_cell (S4.blk 1 rfl) 0).trans rfl; have fz0 : w3.frozen? ⟨g, 0, none⟩ = false := blk_frozen (S4.blk 1 rfl) 0; have z1 : w3.cell? ⟨g, 1, none⟩ = some (.int .u64 b) := (blk_cell (S4.blk 1 rfl) 1).trans rfl; have fz1 : w3.frozen? ⟨g, 1, none⟩ = false := blk_frozen (S4.blk 1 rfl) 1; have z2 : w3.cell? ⟨g, 2, none⟩ = some (.slice A xs.length c) := (blk_cell (S4.blk 1 rfl) 2).trans rfl; have fz2 : w3.frozen? ⟨g, 2, none⟩ = false := blk_frozen (S4.blk 1 rfl) 2))
  all_goals
    go_wp2
    go_ret
    exact ⟨rfl, (St.chShut HRW.out ((((((S4.front 1 rfl).put 0 (.int .u64 i) rfl).put 1 (.int .u64 t) rfl).put 2 (.slice A3 ys.length c3) rfl).front 1 rfl).rw_nw.front 1 rfl)).take 1⟩
set_option maxHeartbeats 8000000 in
set_option maxRecDepth 100000 in
theorem chain_raise_not (W : World) (F : Nat → Prop) (g : Nat) (a b : Int) (xs : List SE) (h : ChP g a b xs W F) (i t r : Int) (bo : Bool) (hi : 0 ≤ i ∧ i < 18446744073709551616) (ht : termF a b xs i = (r, bo)) (hne : (bo && (r == t)) = false) :
    Calls Try.prog 39 #[.pointer (some ⟨g, 0, none⟩), .int .u64 i, .int .u64 t] W fun e w' => e = .returned (.bool false) ∧ St W F w' [ChP g i t []] := by
  have hu := Try.underlying121
  have S0 := St.start1 ChP.loc h
  have HCH := Aside0.mk h.now
  obtain ⟨hr, A, c, S1⟩ := S0.chOpen
  have HI := Aside0.mk hi
  have HT := Aside0.mk ht
  have HRW : Aside0 (Row i []) := ⟨⟨fun j x hx => by simp at hx, hi.1, by simp; exact hi.2, by simp, fun x hx => by simp at hx⟩⟩
  clear h S0 hi ht hr
  cases bo with
  | false =>
    clear hne
    go_enter Try.func39, Try.ntmps39
    go_wp2_with (go_at_call 46; refine (chain_term _ g a b xs HCH.out i HI.out r false HT.out).mono ?_; rintro e w1 ⟨rfl, hb⟩; have S2 := S1.call hb; clear S1 hb; have z0 : w1.cell? ⟨g, 0, none⟩ = some (.int .u64 a) := (blk_cell (S2.blk 0 rfl) 0).trans rfl; have fz0 : w1.frozen? ⟨g, 0, none⟩ = false := blk_frozen (S2.blk 0 rfl) 0; have z1 : w1.cell? ⟨g, 1, none⟩ = some (.int .u64 b) := (blk_cell (S2.blk 0 rfl) 1).trans rfl; have fz1 : w1.frozen? ⟨g, 1, none⟩ = false := blk_frozen (S2.blk 0 rfl) 1; have z2 : w1.cell? ⟨g, 2, none⟩ = some (.slice A xs.length c) := (blk_cell (S2.blk 0 rfl) 2).trans rfl; have fz2 : w1.frozen? ⟨g, 2, none⟩ = false := blk_frozen (S2.blk 0 rfl) 2)
    go_ret
    exact ⟨rfl, (St.chShut (A := none) (c := 0) HRW.out ((((((S2.put 0 (.int .u64 i) rfl).put 1 (.int .u64 t) rfl).put 2 (.slice none 0 0) rfl).front 1 rfl).imp Nw.loc (A' := Nw KE 78 (.slice none 0 0) []) (fun F _ => Kd.N_nil _ _ _ _ _)).front 1 rfl)).take 1⟩
  | true =>
    have tt : (r == t) = false := by simpa using hne
    clear hne
    go_enter Try.func39, Try.ntmps39
    go_wp2_with (go_at_call 46; refine (chain_term _ g a b xs HCH.out i HI.out r true HT.out).mono ?_; rintro e w1 ⟨rfl, hb⟩; have S2 := S1.call hb; clear S1 hb; have z0 : w1.cell? ⟨g, 0, none⟩ = some (.int .u64 a) := (blk_cell (S2.blk 0 rfl) 0).trans rfl; have fz0 : w1.frozen? ⟨g, 0, none⟩ = false := blk_frozen (S2.blk 0 rfl) 0; have z1 : w1.cell? ⟨g, 1, none⟩ = some (.int .u64 b) := (blk_cell (S2.blk 0 rfl) 1).trans rfl; have fz1 : w1.frozen? ⟨g, 1, none⟩ = false := blk_frozen (S2.blk 0 rfl) 1; have z2 : w1.cell? ⟨g, 2, none⟩ = some (.slice A xs.length c) := (blk_cell (S2.blk 0 rfl) 2).trans rfl; have fz2 : w1.frozen? ⟨g, 2, none⟩ = false := blk_frozen (S2.blk 0 rfl) 2)
    go_ret
    exact ⟨rfl, (St.chShut (A := none) (c := 0) HRW.out ((((((S2.put 0 (.int .u64 i) rfl).put 1 (.int .u64 t) rfl).put 2 (.slice none 0 0) rfl).front 1 rfl).imp Nw.loc (A' := Nw KE 78 (.slice none 0 0) []) (fun F _ => Kd.N_nil _ _ _ _ _)).front 1 rfl)).take 1⟩
set_option maxHeartbeats 8000000 in
set_option maxRecDepth 100000 in
theorem chain_join1 (W : World) (g : Nat) (ix tm : Int) (xs : List SE) (h : Ch W g ix tm xs) (i t : Int) (hi : 0 ≤ i ∧ i < 18446744073709551616) (A0 : Option Addr) (c0 : Nat) (l0 : List SE) (hC0 : KE.C W A0 l0.length l0) (hc0 : l0.length ≤ c0) (hl0 : l0.length ≤ 100000) (hsm0 : ∀ x ∈ l0, x.f2.length ≤ 1000000) (hrg0 : ∀ x ∈ l0, 0 ≤ x.f0 ∧ x.f0 < 18446744073709551616)
    (k : Nat) (hst0 : chain_stands.f k i t l0 = some true) (hlt : i < ix) (b2 : Bool) (hst : chain_stands.f k ix tm (l0.drop (ix - i).toNat) = some b2) (r : Int × List SE × Bool) (hr : (if b2 = false then (0, [], false) else scanF ix tm xs (l0.drop (ix - i).toNat)) = r) :
    Calls Try.prog 31 #[.pointer (some ⟨g, 0, none⟩), .int .u64 i, .int .u64 t, .slice A0 l0.length c0] W fun e w' => ∃ v, e = .returned (.tuple #[.int .u64 r.1, v, .bool r.2.2]) ∧ KE.R 78 w' W.heap.size (fun _ => True) v r.2.1 ∧ Below W.heap.size W w' := by
  have hu := Try.underlying121
  have hu2 := Try.underlying78
  have H := Aside0.mk h
  have hrow := h.row
  have hlo := hrow.lo
  have hhi := hrow.hi
  obtain ⟨m, hm⟩ : ∃ m : Int, mn (l0.length : Int) (ix - i) = m := ⟨_, rfl⟩
  have hm' : m = if ix - i < (l0.length : Int) then ix - i else (l0.length : Int) := by rw [← hm]; rfl
  have hmb : 0 ≤ m ∧ m ≤ l0.length := by rw [hm']; split <;> omega
  have hdm : l0.drop (ix - i).toNat = l0.drop m.toNat := by
    rw [hm']
    split
    · rfl
    · rw [List.drop_of_length_le (by omega), List.drop_of_length_le (by omega)]
  rw [hdm] at hst hr
  obtain ⟨A, hA⟩ : ∃ A, (if c0 = m.toNat then A0 else A0.map (·.add (m.toNat * 3))) = A := ⟨_, rfl⟩
  obtain ⟨c, hcE⟩ : ∃ c, c0 - m.toNat = c := ⟨_, rfl⟩
  obtain ⟨l, hlE⟩ : ∃ l, l0.drop m.toNat = l := ⟨_, rfl⟩
  have hll : l.length = l0.length - m.toNat := by rw [← hlE, List.length_drop]
  have hC : KE.C W A l.length l := by
    have := Kd.C_drop (m := m.toNat) (c := c0) hC0 (by omega) hc0
    rw [← hlE, ← hA]
    exact this
  have hc : l.length ≤ c := by omega
  have hl : l.length ≤ 100000 := by omega
  have hsm : ∀ x ∈ l, x.f2.length ≤ 1000000 := fun x hx => hsm0 x (by rw [← hlE] at hx; exact List.mem_of_mem_drop hx)
  have hrg : ∀ x ∈ l, 0 ≤ x.f0 ∧ x.f0 < 18446744073709551616 := fun x hx => hrg0 x (by rw [← hlE] at hx; exact List.mem_of_mem_drop hx)
  rw [hlE] at hst hr
  have hcut0 : ∀ W : World, (Instr.slice 72 (.slice A0 l0.length c0) (some (.int .u64 m)) none none).run Try.prog W = .ok (.slice A l.length c) W := fun W => by
    rw [cut_l' 72 78 .u64 3 Try.underlying72 (by kernel_rfl) A0 l0.length c0 m hmb.1 hmb.2 W, hA, hcE, hll]
  have hw1 : IntKind.u64.wrap (l0.length : Int) = (l0.length : Int) := by rw [IntKind.wrap_u64]; omega
  have hw2 : IntKind.u64.wrap (ix - i) = ix - i := by rw [IntKind.wrap_u64]; omega
  have hmn : (if ix - i < (l0.length : Int) then ix - i else (l0.length : Int)) = m := hm'.symm
  have HL := Aside0.mk hl
  have HSM := Aside0.mk hsm
  have HRG := Aside0.mk hrg
  have HCc := Aside0.mk hc
  have HC := Aside0.mk hC
  have HST0 : Aside0 (∀ W', Below W.heap.size W W' → Calls Try.prog 64 #[.int .u64 i, .int .u64 t, .slice A0 l0.length c0] W' fun e w' => e = .returned (.bool true) ∧ Below W'.heap.size W' w') := ⟨fun W' hb => chain_stands.calls k i t A0 c0 l0 true W' (Kd.C_below hC0 hb) hc0 hst0⟩
  have HST : Aside0 (∀ W', Below W.heap.size W W' → Calls Try.prog 64 #[.int .u64 ix, .int .u64 tm, .slice A l.length c] W' fun e w' => e = .returned (.bool b2) ∧ Below W'.heap.size W' w') := ⟨fun W' hb => chain_stands.calls k ix tm A c l b2 W' (Kd.C_below hC hb) hc hst⟩
  have HT : Aside0 (∀ W', Below W.heap.size W W' → Calls Try.prog 46 #[.pointer (some ⟨g, 0, none⟩), .int .u64 ix] W' fun e w' => e = .returned (.tuple #[.int .u64 tm, .bool true]) ∧ Below W'.heap.size W' w') := ⟨fun W' hb => chain_term W' g ix tm xs (h.below hb) ix ⟨by omega, by omega⟩ tm true (by unfold termF; rw [if_pos rfl])⟩
  have d1 : decide (i < ix) = true := decide_eq_true hlt
  have dq : (tm == tm) = true := by simp
  have dq' : (tm != tm) = false := by simp
  clear h hrow hlo hhi hm hm' hmb hdm hA hcE hlE hll hC0 hc0 hl0 hsm0 hrg0 hst0 hlt hl hsm hrg hc hC hst hi
  cases b2 with
  | false =>
    rw [if_pos rfl] at hr
    subst hr
    go_enter Try.func31, Try.ntmps31
    go_wp2_with (first
      | ((with_reducible refine gate_dst (N := 4) rfl ?_); refine box_event ?hg (N := 4) ?hd (cs := #[.pointer (some ⟨g, 0, none⟩)]) (t := 61) ?hr ?_; (case hd => rfl); (case hg => rfl); (case hr => first | (go_simp; done) | (go_simp; rfl)); intro gB hgB w1 hbB hb; have BB := Aside0.mk hbB; have HB1 := Aside0.mk hb; have zB : w1.cell? ⟨gB, 0, none⟩ = some (.pointer (some ⟨g, 0, none⟩)) := (blk_cell hbB 0).trans rfl; clear hbB hgB hb)
      | (go_at_call 64; refine (HST0.out w1 HB1.out).mono ?_; rintro e w2 ⟨rfl, hb⟩; have HB2 := Aside0.mk (below_step HB1.out hb); have BB2 := Aside0.mk (blk_below BB.out hb); have zB2 : w2.cell? ⟨gB, 0, none⟩ = some (.pointer (some ⟨g, 0, none⟩)) := (blk_cell BB2.out 0).trans rfl; obtain ⟨Ac, cc, z0, z1, _, _, _⟩ := (H.out.below HB2.out).blk; clear hb zB))
    go_quiet (fail)
    go_wp2_with fail
    refine Calls.named ?_
    intro w3 hw3
    have HB3 : Aside0 (Below W.heap.size W w3) := ⟨by rw [hw3]; exact pw_below_drewN HB2.out _⟩
    have BB3 : Aside0 (w3.heap[gB]? = some (.cells #[.pointer (some ⟨g, 0, none⟩)] 61 (0, 0))) := ⟨by rw [hw3]; exact BB2.out⟩
    clear hw3 HB2 BB2 zB2 z0 z1
    have zB3 : w3.cell? ⟨gB, 0, none⟩ = some (.pointer (some ⟨g, 0, none⟩)) := (blk_cell BB3.out 0).trans rfl
    refine (HT.out _ HB3.out).mono ?_
    rintro e w3b ⟨rfl, hb⟩
    have HB3b := Aside0.mk (below_step HB3.out hb)
    have BB3b := Aside0.mk (blk_below BB3.out hb)
    clear hb zB3
    go_wp2_with (first
      | (go_at_call 64; refine (HST.out w3b HB3b.out).mono ?_; rintro e w4 ⟨rfl, hb⟩; have HB4 := Aside0.mk (below_step HB3b.out hb); have BB4 := Aside0.mk (blk_below BB3b.out hb); have zB4 : w4.cell? ⟨gB, 0, none⟩ = some (.pointer (some ⟨g, 0, none⟩)) := (blk_cell BB4.out 0).trans rfl; clear hb))
    go_ret3
    exact ⟨_, rfl, Kd.R_nil _ _ _ _ _, HB4.out⟩
  | true =>
    rw [if_neg (fun h => Bool.noConfusion h)] at hr
    go_enter Try.func31, Try.ntmps31
    go_wp2_with (first
      | ((with_reducible refine gate_dst (N := 4) rfl ?_); refine box_event ?hg (N := 4) ?hd (cs := #[.pointer (some ⟨g, 0, none⟩)]) (t := 61) ?hr ?_; (case hd => rfl); (case hg => rfl); (case hr => first | (go_simp; done) | (go_simp; rfl)); intro gB hgB w1 hbB hb; have BB := Aside0.mk hbB; have HB1 := Aside0.mk hb; have zB : w1.cell? ⟨gB, 0, none⟩ = some (.pointer (some ⟨g, 0, none⟩)) := (blk_cell hbB 0).trans rfl; clear hbB hgB hb)
      | (go_at_call 64; refine (HST0.out w1 HB1.out).mono ?_; rintro e w2 ⟨rfl, hb⟩; have HB2 := Aside0.mk (below_step HB1.out hb); have BB2 := Aside0.mk (blk_below BB.out hb); have zB2 : w2.cell? ⟨gB, 0, none⟩ = some (.pointer (some ⟨g, 0, none⟩)) := (blk_cell BB2.out 0).trans rfl; obtain ⟨Ac, cc, z0, z1, _, _, _⟩ := (H.out.below HB2.out).blk; clear hb zB))
    go_quiet (fail)
    go_wp2_with fail
    refine Calls.named ?_
    intro w3 hw3
    have HB3 : Aside0 (Below W.heap.size W w3) := ⟨by rw [hw3]; exact pw_below_drewN HB2.out _⟩
    have BB3 : Aside0 (w3.heap[gB]? = some (.cells #[.pointer (some ⟨g, 0, none⟩)] 61 (0, 0))) := ⟨by rw [hw3]; exact BB2.out⟩
    clear hw3 HB2 BB2 zB2 z0 z1
    have zB3 : w3.cell? ⟨gB, 0, none⟩ = some (.pointer (some ⟨g, 0, none⟩)) := (blk_cell BB3.out 0).trans rfl
    refine (HT.out _ HB3.out).mono ?_
    rintro e w3b ⟨rfl, hb⟩
    have HB3b := Aside0.mk (below_step HB3.out hb)
    have BB3b := Aside0.mk (blk_below BB3.out hb)
    clear hb zB3
    go_wp2_with (first
      | (go_at_call 64; refine (HST.out w3b HB3b.out).mono ?_; rintro e w4 ⟨rfl, hb⟩; have HB4 := Aside0.mk (below_step HB3b.out hb); have BB4 := Aside0.mk (blk_below BB3b.out hb); have zB4 : w4.cell? ⟨gB, 0, none⟩ = some (.pointer (some ⟨g, 0, none⟩)) := (blk_cell BB4.out 0).trans rfl; clear hb))
    go_loopg [76] l.length (fun kq v76 wr => ∃ j : Int, v76 = .int .i64 j ∧ Aside0 (0 ≤ j ∧ j + kq = l.length) ∧ Aside0 (scanF ix tm xs (l.drop j.toNat) = r) ∧ Aside0 (wr.heap[gB]? = some (.cells #[.pointer (some ⟨g, 0, none⟩)] 61 (0, 0))) ∧ Aside0 (Below W.heap.size W wr))
    case atStart => exact ⟨0, rfl, ⟨by omega⟩, ⟨hr⟩, BB4, HB4⟩
    case round =>
      clear hr zB4 HB1 HB3 HB3b HB4 BB BB3 BB3b BB4
      obtain ⟨j, rfl, HJ, HSC, BB, HB⟩ := hrel
      by_cases hlt : j < (l.length : Int)
      · have hd : decide (j < (l.length : Int)) = true := decide_eq_true hlt
        have hj0 : 0 ≤ j := HJ.out.1
        have HLT := Aside0.mk hlt
        obtain ⟨x, hx⟩ : ∃ x, rd_T78 l j = x := ⟨_, rfl⟩
        have hmem : x ∈ l := by rw [← hx]; exact List.mem_of_getElem? (rd_some hj0 hlt)
        have HRX := Aside0.mk (HRG.out x hmem)
        obtain ⟨ad, A2, c2, e1, x0, x1, x2, hl2, hC2⟩ := at_T78 HC.out j hj0 hlt
        rw [hx] at x0 x1 x2 hl2 hC2
        replace x0 := (HB.out.cell (World.block_lt_of_cell? W _ x0)).trans x0
        replace x1 := (HB.out.cell (World.block_lt_of_cell? W _ x1)).trans x1
        replace x2 := (HB.out.cell (World.block_lt_of_cell? W _ x2)).trans x2
        have hdr := drop_at hj0 hlt
        rw [hx] at hdr
        have hsc := HSC.out
        rw [hdr, scanF] at hsc
        obtain ⟨q2, b2, hq2⟩ : ∃ q b, termF ix tm xs x.f0 = (q, b) := ⟨_, _, rfl⟩
        obtain ⟨s2, hs2⟩ : ∃ s2, (q2 == x.f1) = s2 := ⟨_, rfl⟩
        rw [hq2] at hsc
        simp only [hs2] at hsc
        have HK : Aside0 (∀ W', Below W.heap.size W W' → W'.heap[gB]? = some (.cells #[.pointer (some ⟨g, 0, none⟩)] 61 (0, 0)) → Calls Try.prog 65 #[.agg #[.int .u64 x.f0, .int .u64 x.f1, .slice A2 x.f2.length c2], .pointer (some ⟨gB, 0, none⟩)] W' fun e w' => e = .returned (.tuple #[.bool b2, .bool s2]) ∧ Below W'.heap.size W' w') := ⟨fun W' hb hB => chain_known W' g ix tm xs (H.out.below hb) gB ((blk_cell hB 0).trans rfl) x.f0 x.f1 A2 x.f2.length c2 HRX.out q2 b2 hq2 s2 hs2⟩
        obtain ⟨A', hA'⟩ : ∃ A', (if c = j.toNat then A else A.map (·.add (j.toNat * 3))) = A' := ⟨_, rfl⟩
        obtain ⟨ys, hys⟩ : ∃ ys, l.drop j.toNat = ys := ⟨_, rfl⟩
        subst e1
        have HY : Aside0 (ys.length = l.length - j.toNat ∧ (∀ x ∈ ys, x.f2.length ≤ 1000000) ∧ ys.length ≤ 100000 ∧ ys.length ≤ c - j.toNat ∧ KE.C W A' ys.length ys) := ⟨by
          have := HL.out; have := HCc.out
          rw [← hys, ← hA', List.length_drop]
          refine ⟨rfl, fun x hx => HSM.out x (List.mem_of_mem_drop hx), by omega, by omega, ?_⟩
          have h9 := Kd.C_drop (m := j.toNat) (c := c) HC.out (by omega) HCc.out
          rw [List.length_drop] at h9
          exact h9⟩
        have hcut : ∀ W : World, (Instr.slice 72 (.slice (some ad) l.length c) (some (.int .i64 j)) none none).run Try.prog W = .ok (.slice A' ys.length (c - j.toNat)) W := fun W => by rw [cut_lo3 72 78 3 Try.underlying72 (by kernel_rfl) (some ad) l.length c j HJ.out.1 (by have := HLT.out; omega) W, hA', HY.out.1]
        rw [← hdr, hys] at hsc
        have HSC2 := Aside0.mk hsc
        have p1 := eq_true hj0
        have p2 := eq_true hlt
        have HNXT : Aside0 (l.drop (j.toNat + 1) = ys.tail) := ⟨by rw [← hys, hdr]; rfl⟩
        clear hlt hj0 hx hmem hl2 hC2 hdr hsc hq2 hs2 hA' hys
        cases b2 with
        | false =>
          have hsc := HSC2.out
          rw [if_pos rfl] at hsc
          subst hsc
          go_wp2_with (first
            | ((with_reducible refine gate_dst (N := 15) rfl ?_); refine box_event ?hg (N := 15) ?hd (cs := #[.int .u64 0, .int .u64 0, .slice none 0 0]) (t := 78) ?hr ?_; (case hd => rfl); (case hg => rfl); (case hr => first | (go_simp; done) | (go_simp; rfl)); intro gX hgX w5 hbX hb; have BX := Aside0.mk hbX; have GX : Aside0 (W.heap.size ≤ gX) := ⟨by rw [hgX]; exact below_size HB.out⟩; have HB5 := Aside0.mk (below_step HB.out hb); have NX : Aside0 (gB ≠ gX) := ⟨by have := blk_lt BB.out; rw [hgX]; omega⟩; have BB5 := Aside0.mk (blk_below BB.out hb); have f0 := blk_frozen hbX 0; have f1 := blk_frozen hbX 1; have f2 := blk_frozen hbX 2; have y0 : w5.cell? ⟨gX, 0, none⟩ = some (.int .u64 0) := (blk_cell hbX 0).trans rfl; have y1 : w5.cell? ⟨gX, 1, none⟩ = some (.int .u64 0) := (blk_cell hbX 1).trans rfl; have y2 : w5.cell? ⟨gX, 2, none⟩ = some (.slice none 0 0) := (blk_cell hbX 2).trans rfl; clear hbX hgX hb)
            | (go_at_call 65; refine (HK.out _ (below_set (below_set (below_set HB5.out GX.out) GX.out) GX.out) (blk_far (blk_far (blk_far BB5.out NX.out _) NX.out _) NX.out _)).mono ?_; rintro e w6 ⟨rfl, hb⟩; have HB6 := Aside0.mk (below_step (below_set (below_set (below_set HB5.out GX.out) GX.out) GX.out) hb); have BB6 := Aside0.mk (blk_below (blk_far (blk_far (blk_far BB5.out NX.out _) NX.out _) NX.out _) hb); have BX6 : Aside0 (w6.heap[gX]? = some (.cells #[.int .u64 x.f0, .int .u64 x.f1, .slice A2 x.f2.length c2] 78 (0, 0))) := ⟨blk_below (blk_put (blk_put (blk_put BX.out 0 _ rfl) 1 _ rfl) 2 _ rfl) hb⟩; have u0 : w6.cell? ⟨gX, 0, none⟩ = some (.int .u64 x.f0) := (blk_cell BX6.out 0).trans rfl; clear hb f0 f1 f2 y0 y1 y2)
            | (go_at_call 66; refine (chain_copied.calls A' (c - j.toNat) ys w6 (Kd.C_below HY.out.2.2.2.2 HB6.out) HY.out.2.2.2.1 HY.out.2.2.1 HY.out.2.1).mono ?_; rintro e w7 ⟨v, rfl, hR, hb⟩; have HB7 := Aside0.mk (below_step HB6.out hb); have HR7 := Aside0.mk (Kd.R_lower hR (below_size HB6.out)); clear hR hb))
          go_ret3
          exact ⟨_, rfl, HR7.out, HB7.out⟩
        | true =>
          have hsc := HSC2.out
          rw [if_neg (fun h => Bool.noConfusion h)] at hsc
          cases s2 with
          | false =>
            rw [if_pos rfl] at hsc
            subst hsc
            go_wp2_with (first
              | ((with_reducible refine gate_dst (N := 15) rfl ?_); refine box_event ?hg (N := 15) ?hd (cs := #[.int .u64 0, .int .u64 0, .slice none 0 0]) (t := 78) ?hr ?_; (case hd => rfl); (case hg => rfl); (case hr => first | (go_simp; done) | (go_simp; rfl)); intro gX hgX w5 hbX hb; have BX := Aside0.mk hbX; have GX : Aside0 (W.heap.size ≤ gX) := ⟨by rw [hgX]; exact below_size HB.out⟩; have HB5 := Aside0.mk (below_step HB.out hb); have NX : Aside0 (gB ≠ gX) := ⟨by have := blk_lt BB.out; rw [hgX]; omega⟩; have BB5 := Aside0.mk (blk_below BB.out hb); have f0 := blk_frozen hbX 0; have f1 := blk_frozen hbX 1; have f2 := blk_frozen hbX 2; have y0 : w5.cell? ⟨gX, 0, none⟩ = some (.int .u64 0) := (blk_cell hbX 0).trans rfl; have y1 : w5.cell? ⟨gX, 1, none⟩ = some (.int .u64 0) := (blk_cell hbX 1).trans rfl; have y2 : w5.cell? ⟨gX, 2, none⟩ = some (.slice none 0 0) := (blk_cell hbX 2).trans rfl; clear hbX hgX hb)
              | (go_at_call 65; refine (HK.out _ (below_set (below_set (below_set HB5.out GX.out) GX.out) GX.out) (blk_far (blk_far (blk_far BB5.out NX.out _) NX.out _) NX.out _)).mono ?_; rintro e w6 ⟨rfl, hb⟩; have HB6 := Aside0.mk (below_step (below_set (below_set (below_set HB5.out GX.out) GX.out) GX.out) hb); have BB6 := Aside0.mk (blk_below (blk_far (blk_far (blk_far BB5.out NX.out _) NX.out _) NX.out _) hb); have BX6 : Aside0 (w6.heap[gX]? = some (.cells #[.int .u64 x.f0, .int .u64 x.f1, .slice A2 x.f2.length c2] 78 (0, 0))) := ⟨blk_below (blk_put (blk_put (blk_put BX.out 0 _ rfl) 1 _ rfl) 2 _ rfl) hb⟩; have u0 : w6.cell? ⟨gX, 0, none⟩ = some (.int .u64 x.f0) := (blk_cell BX6.out 0).trans rfl; clear hb f0 f1 f2 y0 y1 y2))
            have U0 := Aside0.mk u0
            go_region_held3 (fun w' => w'.cell? ⟨gX, 0, none⟩ = some (.int .u64 x.f0)) (first | exact Y5 | go_keep) (first | (go_at_call 66; (with_reducible refine (chain_copied.calls A' (c - j.toNat) ys w6.drew (show KE.C w6.drew A' ys.length ys from Kd.C_below HY.out.2.2.2.2 (below_drew1 HB6.out)) HY.out.2.2.2.1 HY.out.2.2.1 HY.out.2.1).mono ?_); rintro e w7 ⟨v, rfl, hR, hb⟩; have HB7 := Aside0.mk (below_step (below_drew1 HB6.out) hb); have HR7 := Aside0.mk (Kd.R_lower hR (below_size (below_drew1 HB6.out))); have Y5 : w7.cell? ⟨gX, 0, none⟩ = some (.int .u64 x.f0) := (hb.cell (World.block_lt_of_cell? _ _ U0.out)).trans U0.out; clear hR hb))
            go_wp2
            go_ret3
            exact ⟨_, rfl, HR7.out, HB7.out⟩
          | true =>
            rw [if_neg (fun h => Bool.noConfusion h)] at hsc
            have HSC3 := Aside0.mk hsc
            clear hsc
            go_wp2_with (first
              | ((with_reducible refine gate_dst (N := 15) rfl ?_); refine box_event ?hg (N := 15) ?hd (cs := #[.int .u64 0, .int .u64 0, .slice none 0 0]) (t := 78) ?hr ?_; (case hd => rfl); (case hg => rfl); (case hr => first | (go_simp; done) | (go_simp; rfl)); intro gX hgX w5 hbX hb; have BX := Aside0.mk hbX; have GX : Aside0 (W.heap.size ≤ gX) := ⟨by rw [hgX]; exact below_size HB.out⟩; have HB5 := Aside0.mk (below_step HB.out hb); have NX : Aside0 (gB ≠ gX) := ⟨by have := blk_lt BB.out; rw [hgX]; omega⟩; have BB5 := Aside0.mk (blk_below BB.out hb); have f0 := blk_frozen hbX 0; have f1 := blk_frozen hbX 1; have f2 := blk_frozen hbX 2; have y0 : w5.cell? ⟨gX, 0, none⟩ = some (.int .u64 0) := (blk_cell hbX 0).trans rfl; have y1 : w5.cell? ⟨gX, 1, none⟩ = some (.int .u64 0) := (blk_cell hbX 1).trans rfl; have y2 : w5.cell? ⟨gX, 2, none⟩ = some (.slice none 0 0) := (blk_cell hbX 2).trans rfl; clear hbX hgX hb)
              | (go_at_call 65; refine (HK.out _ (below_set (below_set (below_set HB5.out GX.out) GX.out) GX.out) (blk_far (blk_far (blk_far BB5.out NX.out _) NX.out _) NX.out _)).mono ?_; rintro e w6 ⟨rfl, hb⟩; have HB6 := Aside0.mk (below_step (below_set (below_set (below_set HB5.out GX.out) GX.out) GX.out) hb); have BB6 := Aside0.mk (blk_below (blk_far (blk_far (blk_far BB5.out NX.out _) NX.out _) NX.out _) hb); have BX6 : Aside0 (w6.heap[gX]? = some (.cells #[.int .u64 x.f0, .int .u64 x.f1, .slice A2 x.f2.length c2] 78 (0, 0))) := ⟨blk_below (blk_put (blk_put (blk_put BX.out 0 _ rfl) 1 _ rfl) 2 _ rfl) hb⟩; have u0 : w6.cell? ⟨gX, 0, none⟩ = some (.int .u64 x.f0) := (blk_cell BX6.out 0).trans rfl; clear hb f0 f1 f2 y0 y1 y2))
            go_roundg (gk - 1)
            case measure => have := HJ.out; have := HLT.out; omega
            case rel =>
              have hw : wrap64 (j + 1) = j + 1 := by have := HL.out; have := HJ.out; have := HLT.out; unfold wrap64; omega
              refine ⟨wrap64 (j + 1), by first | rfl | (simp; done), ⟨by have := HJ.out; have := HLT.out; omega⟩, ⟨?_⟩, BB6, HB6⟩
              rw [hw, show (j + 1).toNat = j.toNat + 1 by have := HJ.out; omega]
              exact HSC3.out
      · have hd : decide (j < (l.length : Int)) = false := decide_eq_false hlt
        have hsc := HSC.out
        rw [List.drop_eq_nil_of_le (by have := HJ.out; omega), scanF] at hsc
        subst hsc
        clear hlt HSC
        go_wp2
        go_ret3
        exact ⟨_, rfl, Kd.R_nil _ _ _ _ _, HB.out⟩
/-! ### The plain law of joining -/
def joinA (a b : Int) (xs : List SE) (i t : Int) (l : List SE) : Int × List SE × Bool :=
  if standG i t l = false then (0, [], false) else if i < a then (if standG a b (l.drop (a - i).toNat) = false then (0, [], false) else scanF a b xs (l.drop (a - i).toNat)) else joinG a b xs i t l true
/-- Index p is known to a chain, with this term. -/
def KnowT (a b : Int) (xs : List SE) (p T : Int) : Prop := termF a b xs p = (T, true)
theorem know_rng {a b : Int} {xs : List SE} {p T : Int} (h : KnowT a b xs p T) : a ≤ p ∧ p ≤ a + xs.length := by
  unfold KnowT termF at h
  by_cases c1 : p = a
  · omega
  · rw [if_neg c1] at h
    by_cases c2 : hasE a xs p
    · unfold hasE at c2; omega
    · rw [if_neg c2] at h; injection h with _ h2; cases h2
theorem rd_take {xs : List SE} {n : Nat} {i : Int} (h0 : 0 ≤ i) (h1 : i < n) (h2 : i < (xs.length : Int)) : rd_T78 (xs.take n) i = rd_T78 xs i := by
  unfold rd_T78
  rw [List.getD_eq_getElem?_getD, List.getD_eq_getElem?_getD, List.getElem?_take, if_pos (by omega)]
theorem rd_append_l {xs l : List SE} {i : Int} (h0 : 0 ≤ i) (h1 : i < (xs.length : Int)) : rd_T78 (xs ++ l) i = rd_T78 xs i := by
  unfold rd_T78
  rw [List.getD_eq_getElem?_getD, List.getD_eq_getElem?_getD, List.getElem?_append_left (by omega)]
theorem rd_append_r {xs l : List SE} {i : Int} (h1 : (xs.length : Int) ≤ i) : rd_T78 (xs ++ l) i = rd_T78 l (i - xs.length) := by
  unfold rd_T78
  rw [List.getD_eq_getElem?_getD, List.getD_eq_getElem?_getD, List.getElem?_append_right (by omega)]
  congr 2
  omega
theorem know_lastT {a b : Int} {xs : List SE} {p T : Int} (h : KnowT a b xs p T) : lastT b (xs.take (p - a).toNat) = T := by
  have hr := know_rng h
  unfold KnowT termF at h
  unfold lastT
  by_cases c1 : p = a
  · rw [if_pos c1] at h
    injection h with h1 _
    rw [if_pos (by rw [List.length_take]; omega), h1]
  · rw [if_neg c1] at h
    rw [if_pos (show hasE a xs p from ⟨by omega, by omega⟩)] at h
    injection h with h1 _
    rw [if_neg (by rw [List.length_take]; omega), rd_take (by rw [List.length_take]; omega) (by rw [List.length_take]; omega) (by rw [List.length_take]; omega), ← h1]
    congr 2
    rw [List.length_take]; omega
/-- What is known below a cut is known behind it, whatever was added. -/
theorem know_keep {a b : Int} {xs l : List SE} {p q T : Int} (h : KnowT a b xs q T) (hq : q ≤ p) (hp : p ≤ a + xs.length) : KnowT a b (xs.take (p - a).toNat ++ l) q T := by
  have hr := know_rng h
  unfold KnowT termF at h ⊢
  by_cases c1 : q = a
  · rw [if_pos c1] at h ⊢; exact h
  · rw [if_neg c1] at h ⊢
    rw [if_pos (show hasE a xs q from ⟨by omega, by omega⟩)] at h
    rw [if_pos (show hasE a _ q from ⟨by omega, by rw [List.length_append, List.length_take]; omega⟩), rd_append_l (by omega) (by rw [List.length_take]; omega), rd_take (by omega) (by omega) (by omega)]
    exact h
theorem know_new {a b : Int} {xs l : List SE} {p : Int} (ha : a ≤ p) (hp : p ≤ a + xs.length) {j : Int} (h0 : 0 ≤ j) (h1 : j < (l.length : Int)) : KnowT a b (xs.take (p - a).toNat ++ l) (p + 1 + j) (rd_T78 l j).f1 := by
  unfold KnowT termF
  rw [if_neg (by omega), if_pos (show hasE a _ (p + 1 + j) from ⟨by omega, by rw [List.length_append, List.length_take]; omega⟩), rd_append_r (by rw [List.length_take]; omega), show p + 1 + j - a - 1 - ((xs.take (p - a).toNat).length : Int) = j by rw [List.length_take]; omega]
theorem stand_cons {i t : Int} {x : SE} {l : List SE} (h : standG i t (x :: l) = true) : IntKind.u64.wrap (x.f0 - 1) = i ∧ x.f0 ≠ 0 ∧ ¬ x.f1 < t ∧ standG x.f0 x.f1 l = true := by
  rw [standG] at h
  by_cases c0 : x.f0 = 0
  · rw [if_pos c0] at h; cases h
  rw [if_neg c0] at h
  by_cases c1 : IntKind.u64.wrap (x.f0 - 1) = i
  · rw [if_pos c1] at h
    by_cases c2 : x.f1 < t
    · rw [if_pos c2] at h; cases h
    rw [if_neg c2] at h
    exact ⟨c1, c0, c2, h⟩
  · rw [if_neg c1] at h; cases h
/-- What a scan comes to: up to p all was known; from there on it is to be added, and p + 1 is either beyond the end, or it is cut there. -/
structure Scan (a b : Int) (xs : List SE) (i T : Int) (l : List SE) (r : Int × List SE × Bool) (k : Nat) (T' : Int) : Prop where
  good : r.2.2 = true
  add : r.2.1 = l.drop k
  le : k ≤ l.length
  know : KnowT a b xs (i + k) T'
  stand : standG (i + k) T' (l.drop k) = true
  all : ∀ j : Nat, j < k → KnowT a b xs (i + 1 + j) (rd_T78 l j).f1
  cut : r.1 = 0 ∧ (k < l.length → i + k = a + xs.length) ∨ r.1 = i + k + 1 ∧ i + k + 1 ≤ a + xs.length ∧ k < l.length
theorem scan_ex (a b : Int) (xs : List SE) : ∀ (l : List SE) (i T : Int), 0 ≤ i → (∀ x ∈ l, 0 ≤ x.f0 ∧ x.f0 < 18446744073709551616) → standG i T l = true → KnowT a b xs i T → ∃ k T', Scan a b xs i T l (scanF a b xs l) k T' := by
  intro l
  induction l with
  | nil =>
    intro i T h0 _ hs hk
    exact ⟨0, T, rfl, rfl, Nat.le_refl _, by simpa using hk, by simpa using hs, fun j hj => by omega, .inl ⟨rfl, fun h => by simp at h⟩⟩
  | cons x l ih =>
    intro i T h0 hrg hs hk
    obtain ⟨s1, s2, s3, s4⟩ := stand_cons hs
    have hx := hrg x (by simp)
    have hx0 : x.f0 = i + 1 := by rw [IntKind.wrap_u64] at s1; omega
    have hr := know_rng hk
    rw [scanF]
    by_cases c1 : (termF a b xs x.f0).2 = false
    · rw [if_pos c1]
      refine ⟨0, T, rfl, rfl, by simp, by simpa using hk, by simpa using hs, fun j hj => by omega, .inl ⟨rfl, fun _ => ?_⟩⟩
      unfold termF at c1
      rw [if_neg (by omega)] at c1
      by_cases c2 : hasE a xs x.f0
      · rw [if_pos c2] at c1; cases c1
      · unfold hasE at c2; simp; omega
    · rw [if_neg c1]
      have hkx : termF a b xs x.f0 = ((termF a b xs x.f0).1, true) := by
        cases hq : termF a b xs x.f0 with
        | mk u v => rw [hq] at c1; cases v with
          | true => rfl
          | false => exact absurd rfl c1
      have hrx := know_rng (show KnowT a b xs x.f0 _ from hkx)
      by_cases c2 : ((termF a b xs x.f0).1 == x.f1) = false
      · rw [if_pos c2]
        exact ⟨0, T, rfl, rfl, by simp, by simpa using hk, by simpa using hs, fun j hj => by omega, .inr ⟨by simp; omega, by simp; omega, by simp⟩⟩
      · rw [if_neg c2]
        have hk' : KnowT a b xs x.f0 x.f1 := by
          unfold KnowT
          rw [hkx]
          have : (termF a b xs x.f0).1 = x.f1 := by simpa using c2
          rw [this]
        obtain ⟨k, T', z⟩ := ih x.f0 x.f1 (by omega) (fun y hy => hrg y (by simp [hy])) s4 hk'
        refine ⟨k + 1, T', z.good, by rw [z.add]; rfl, by have := z.le; simp; omega, ?_, ?_, fun j hj => ?_, ?_⟩
        · have := z.know; rw [hx0] at this; rw [show i + ((k + 1 : Nat) : Int) = i + 1 + k by omega]; exact this
        · have := z.stand; rw [hx0] at this; rw [show i + ((k + 1 : Nat) : Int) = i + 1 + k by omega]; exact this
        · cases j with
          | zero => rw [show i + 1 + ((0 : Nat) : Int) = x.f0 by simp; omega]; exact hk'
          | succ j =>
            have := z.all j (by omega)
            rw [hx0] at this
            rw [show i + 1 + ((j + 1 : Nat) : Int) = i + 1 + 1 + j by omega]
            have e : rd_T78 (x :: l) ((j + 1 : Nat) : Int) = rd_T78 l j := by unfold rd_T78; rw [show (((j + 1 : Nat) : Int)).toNat = j + 1 by omega, Int.toNat_natCast]; rfl
            rw [e]; exact this
        · have := z.cut
          rw [hx0] at this
          simp only [List.length_cons]
          rcases this with ⟨h1, h2⟩ | ⟨h1, h2, h3⟩
          · exact .inl ⟨h1, fun h => by have := h2 (by omega); omega⟩
          · exact .inr ⟨by rw [h1]; omega, by omega, by omega⟩
/-- A good join: from where on, and what the law says of it. -/
structure Joined (a b : Int) (xs : List SE) (i t : Int) (l : List SE) (r : Int × List SE × Bool) (i' T : Int) (l' : List SE) (k : Nat) (T' : Int) : Prop where
  scan : Scan a b xs i' T l' r k T'
  ge : a ≤ i'
  start : KnowT a b xs i' T
  part : l' = l.drop (i' - i).toNat
  le : i ≤ i'
  low : i < i' → i' = a
  same : ∀ ys, KnowT a b ys i' T → joinA a b ys i t l = scanF a b ys l'
theorem joined_ex (a b : Int) (xs : List SE) (ha : 0 ≤ a) (i t : Int) (l : List SE) (hi : 0 ≤ i) (hrg : ∀ x ∈ l, 0 ≤ x.f0 ∧ x.f0 < 18446744073709551616) (hg : (joinA a b xs i t l).2.2 = true) : ∃ i' T l' k T', Joined a b xs i t l (joinA a b xs i t l) i' T l' k T' := by
  unfold joinA at hg ⊢
  by_cases c0 : standG i t l = false
  · rw [if_pos c0] at hg; cases hg
  rw [if_neg c0] at hg ⊢
  have c0' : standG i t l = true := by simpa using c0
  by_cases c1 : i < a
  · rw [if_pos c1] at hg ⊢
    by_cases c2 : standG a b (l.drop (a - i).toNat) = false
    · rw [if_pos c2] at hg; cases hg
    rw [if_neg c2] at hg ⊢
    have c2' : standG a b (l.drop (a - i).toNat) = true := by simpa using c2
    have hk : ∀ ys, KnowT a b ys a b := fun ys => by unfold KnowT termF; rw [if_pos rfl]
    obtain ⟨k, T', z⟩ := scan_ex a b xs _ a b ha (fun x hx => hrg x (List.mem_of_mem_drop hx)) c2' (hk xs)
    exact ⟨a, b, _, k, T', z, Int.le_refl _, hk xs, rfl, by omega, fun _ => rfl, fun ys _ => by unfold joinA; rw [if_neg c0, if_pos c1, if_neg c2]⟩
  · rw [if_neg c1] at hg ⊢
    unfold joinG at hg ⊢
    rw [if_neg (by decide)] at hg ⊢
    by_cases c2 : (termF a b xs i).2 = false
    · rw [if_pos c2] at hg; cases hg
    rw [if_neg c2] at hg ⊢
    by_cases c3 : (termF a b xs i).1 = t
    · rw [if_pos c3] at hg ⊢
      have hk : KnowT a b xs i t := by
        unfold KnowT
        cases hq : termF a b xs i with
        | mk u v => rw [hq] at c2 c3; cases v with
          | true => exact congrArg (·, true) c3
          | false => exact absurd rfl c2
      obtain ⟨k, T', z⟩ := scan_ex a b xs l i t hi hrg c0' hk
      refine ⟨i, t, l, k, T', z, by omega, hk, by simp, Int.le_refl _, fun h => absurd h (by omega), fun ys hy => ?_⟩
      unfold joinA joinG
      unfold KnowT at hy
      rw [if_neg c0, if_neg c1, if_neg (by decide), hy, if_neg (fun h => Bool.noConfusion h), if_pos rfl]
    · rw [if_neg c3] at hg; cases hg
theorem scan_all (a b : Int) (ys : List SE) : ∀ (l : List SE), (∀ x ∈ l, KnowT a b ys x.f0 x.f1) → scanF a b ys l = (0, [], true) := by
  intro l
  induction l with
  | nil => intro _; rfl
  | cons x l ih =>
    intro h
    have hx := h x (by simp)
    unfold KnowT at hx
    rw [scanF, hx, if_neg (fun h => Bool.noConfusion h), if_neg (by simp)]
    exact ih (fun y hy => h y (by simp [hy]))
section
variable {a b i t i' T T' : Int} {xs l l' : List SE} {r : Int × List SE × Bool} {k : Nat}
/-- Behind the join: the chain's entries. -/
def after (a i' : Int) (xs l' : List SE) (k : Nat) : List SE := if k < l'.length then xs.take (i' + k - a).toNat ++ l'.drop k else xs
theorem Joined.cutok (h : Joined a b xs i t l r i' T l' k T') (hc : r.1 ≠ 0) : a < r.1 ∧ r.1 ≤ a + xs.length ∧ xs.take (r.1 - 1 - a).toNat = xs.take (i' + k - a).toNat := by
  rcases h.scan.cut with ⟨h1, _⟩ | ⟨h1, h2, h3⟩
  · exact absurd h1 hc
  · have := h.ge
    exact ⟨by omega, by omega, by rw [show r.1 - 1 - a = i' + k - a by omega]⟩
theorem Joined.nocut (h : Joined a b xs i t l r i' T l' k T') (ha : 0 ≤ a) (hc : r.1 = 0) : (k < l'.length → xs.take (i' + k - a).toNat = xs) := by
  intro hk
  rcases h.scan.cut with ⟨_, h2⟩ | ⟨h1, h2, h3⟩
  · have := h2 hk
    rw [List.take_of_length_le (by omega)]
  · have := h.ge; omega
theorem Joined.appendok (h : Joined a b xs i t l r i' T l' k T') : standG (a + (xs.take (i' + k - a).toNat).length) (lastT b (xs.take (i' + k - a).toNat)) r.2.1 = true := by
  have hk := know_rng h.scan.know
  rw [know_lastT h.scan.know, h.scan.add, List.length_take, show a + ((min (i' + (k : Int) - a).toNat xs.length : Nat) : Int) = i' + k by omega]
  exact h.scan.stand
theorem Joined.known (h : Joined a b xs i t l r i' T l' k T') (hrow : Row i' l') : ∀ x ∈ l', KnowT a b (after a i' xs l' k) x.f0 x.f1 := by
  intro x hx
  obtain ⟨j, hj, rfl⟩ := List.mem_iff_getElem.1 hx
  have hk := know_rng h.scan.know
  have hf := hrow.at_ j _ (List.getElem?_eq_getElem hj)
  have hrd : rd_T78 l' (j : Int) = l'[j] := by unfold rd_T78; rw [List.getD_eq_getElem?_getD, Int.toNat_natCast, List.getElem?_eq_getElem hj]; rfl
  unfold after
  by_cases cl : k < l'.length
  case neg =>
    rw [if_neg cl]
    have h1 := h.scan.all j (by omega)
    rw [hrd, ← hf] at h1
    exact h1
  rw [if_pos cl]
  by_cases c : j < k
  · have h1 := h.scan.all j c
    rw [hrd, ← hf] at h1
    exact know_keep h1 (by omega) hk.2
  · have h2 := know_new (b := b) (xs := xs) (l := l'.drop k) hk.1 hk.2 (j := ((j - k : Nat) : Int)) (by omega) (by rw [List.length_drop]; omega)
    have e : rd_T78 (l'.drop k) ((j - k : Nat) : Int) = l'[j] := by
      rw [← hrd]
      unfold rd_T78
      rw [List.getD_eq_getElem?_getD, List.getD_eq_getElem?_getD, List.getElem?_drop, Int.toNat_natCast, Int.toNat_natCast, show k + (j - k) = j by omega]
    rw [e, show i' + (k : Int) + 1 + ((j - k : Nat) : Int) = l'[j].f0 by omega] at h2
    exact h2
theorem Joined.again (h : Joined a b xs i t l r i' T l' k T') (hrow : Row i' l') : joinA a b (after a i' xs l' k) i t l = (0, [], true) := by
  have hk := know_rng h.scan.know
  have hs : KnowT a b (after a i' xs l' k) i' T := by
    unfold after
    split
    · exact know_keep h.start (by omega) hk.2
    · exact h.start
  rw [h.same _ hs]
  exact scan_all a b _ l' (h.known hrow)
/-- Each of the joined ones above the floor is there. -/
theorem Joined.there (h : Joined a b xs i t l r i' T l' k T') (hrow : Row i l) (hrow' : Row i' l') : ∀ x ∈ l, x.f0 > a → (entryF a (after a i' xs l' k) x.f0).2 = true ∧ (entryF a (after a i' xs l' k) x.f0).1.f1 = x.f1 := by
  intro x hx hgt
  have hm : x ∈ l' := by
    obtain ⟨j, hj, rfl⟩ := List.mem_iff_getElem.1 hx
    have hf := hrow.at_ j _ (List.getElem?_eq_getElem hj)
    have hle := h.le
    have hlow : i' - i ≤ j := by
      by_cases c : i < i'
      · have := h.low c; omega
      · omega
    rw [h.part]
    rw [List.mem_iff_getElem?]
    exact ⟨j - (i' - i).toNat, by rw [List.getElem?_drop, show (i' - i).toNat + (j - (i' - i).toNat) = j by omega]; exact List.getElem?_eq_getElem hj⟩
  have hk := h.known hrow' x hm
  have hr := know_rng hk
  unfold KnowT termF at hk
  rw [if_neg (by omega), if_pos (show hasE a _ x.f0 from ⟨by omega, by omega⟩)] at hk
  injection hk with h1 _
  unfold entryF
  rw [if_pos (show hasE a _ x.f0 from ⟨by omega, by omega⟩)]
  exact ⟨rfl, h1⟩
/-- Each of the elder ones up to where the joined ones begin is there as it was. -/
theorem Joined.stays (h : Joined a b xs i t l r i' T l' k T') (hrow : Row a xs) : ∀ x ∈ xs, x.f0 ≤ i → entryF a (after a i' xs l' k) x.f0 = (x, true) := by
  intro x hx hle
  obtain ⟨j, hj, rfl⟩ := List.mem_iff_getElem.1 hx
  have hf := hrow.at_ j _ (List.getElem?_eq_getElem hj)
  have hk := know_rng h.scan.know
  have hi := h.le
  have hrd : rd_T78 xs ((xs[j]).f0 - a - 1) = xs[j] := by
    unfold rd_T78
    rw [show ((xs[j]).f0 - a - 1).toNat = j by omega, List.getD_eq_getElem?_getD, List.getElem?_eq_getElem hj]
    rfl
  unfold entryF after
  split
  · rw [if_pos (show hasE a _ (xs[j]).f0 from ⟨by omega, by rw [List.length_append, List.length_take]; omega⟩), rd_append_l (by omega) (by rw [List.length_take]; omega), rd_take (by omega) (by omega) (by omega), hrd]
  · rw [if_pos (show hasE a _ (xs[j]).f0 from ⟨by omega, by omega⟩), hrd]
theorem Joined.len (h : Joined a b xs i t l r i' T l' k T') : (after a i' xs l' k).length ≤ xs.length + l.length := by
  unfold after
  split
  · rw [List.length_append, List.length_take, List.length_drop, h.part, List.length_drop]
    omega
  · omega
/-- Nothing to be added: the chain stays. -/
theorem Joined.none (h : Joined a b xs i t l r i' T l' k T') (hk : ¬ k < l'.length) : r.2.1 = [] ∧ r.1 = 0 := by
  refine ⟨by rw [h.scan.add, List.drop_of_length_le (by omega)], ?_⟩
  rcases h.scan.cut with ⟨h1, _⟩ | ⟨_, _, h3⟩
  · exact h1
  · exact absurd h3 hk
end
set_option maxHeartbeats 16000000 in
set_option maxRecDepth 100000 in
theorem chain_join (W : World) (g : Nat) (a b : Int) (xs : List SE) (h : Ch W g a b xs) (i t : Int) (hi : 0 ≤ i ∧ i < 18446744073709551616) (A : Option Addr) (c : Nat) (l : List SE) (hC : KE.C W A l.length l) (hc : l.length ≤ c) (hl : l.length ≤ 100000) (hsm : ∀ x ∈ l, x.f2.length ≤ 1000000) (hrg : ∀ x ∈ l, 0 ≤ x.f0 ∧ x.f0 < 18446744073709551616) :
    Calls Try.prog 31 #[.pointer (some ⟨g, 0, none⟩), .int .u64 i, .int .u64 t, .slice A l.length c] W fun e w' => ∃ v, e = .returned (.tuple #[.int .u64 (joinA a b xs i t l).1, v, .bool (joinA a b xs i t l).2.2]) ∧ KE.R 78 w' W.heap.size (fun _ => True) v (joinA a b xs i t l).2.1 ∧ Below W.heap.size W w' := by
  have hs := stands_eval l hl i t (k := 100001) (by omega)
  by_cases hlt : i < a
  · cases hg : standG i t l with
    | true =>
      rw [hg] at hs
      refine chain_join1 W g a b xs h i t hi A c l hC hc hl hsm hrg 100001 hs hlt (standG a b (l.drop (a - i).toNat)) (stands_eval _ (by rw [List.length_drop]; omega) a b (by rw [List.length_drop]; omega)) _ ?_
      have hj : joinA a b xs i t l = (if standG a b (l.drop (a - i).toNat) = false then (0, [], false) else scanF a b xs (l.drop (a - i).toNat)) := by
        unfold joinA
        rw [hg]
        rw [if_neg (fun h => Bool.noConfusion h), if_pos hlt]
      exact hj.symm
    | false =>
      rw [hg] at hs
      have hj : joinA a b xs i t l = (0, [], false) := by unfold joinA; rw [hg, if_pos rfl]
      rw [hj]
      have H := Aside0.mk h
      have HST : Aside0 (∀ W', Below W.heap.size W W' → Calls Try.prog 64 #[.int .u64 i, .int .u64 t, .slice A l.length c] W' fun e w' => e = .returned (.bool false) ∧ Below W'.heap.size W' w') := ⟨fun W' hb => chain_stands.calls 100001 i t A c l false W' (Kd.C_below hC hb) hc hs⟩
      have S0 := St.start W (fun _ => False)
      clear h hC hc hl hsm hrg hs hlt hg hj hi
      go_enter Try.func31, Try.ntmps31
      go_wp2_with (first
        | ((with_reducible refine gate_dst (N := 4) rfl ?_); refine box_event ?hg (N := 4) ?hd (cs := #[.pointer (some ⟨g, 0, none⟩)]) (t := 61) ?hr ?_; (case hd => rfl); (case hg => rfl); (case hr => first | (go_simp; done) | (go_simp; rfl)); intro gB hg_ w1 hbB hb; have S1 := S0.box hg_ hb hbB; clear S0 hg_ hbB hb; have z0 : w1.cell? ⟨gB, 0, none⟩ = some (.pointer (some ⟨g, 0, none⟩)) := (blk_cell (S1.blk 0 rfl) 0).trans rfl)
        | (go_at_call 64; refine (HST.out w1 S1.below).mono ?_; rintro e w2 ⟨rfl, hb⟩; have S2 := S1.call hb; clear S1 hb))
      repeat (go_quiet (fail); try go_wp2)
      go_ret3
      exact ⟨_, rfl, Kd.R_nil _ _ _ _ _, by repeat (first | (with_reducible first | exact S2.below | apply below_alloc | apply pw_below_drewN | apply below_drew1) | exact S2.below)⟩
  · refine chain_join0 W g a b xs h i t hi A c l hC hc hl hsm hrg 100001 (standG i t l) hs hlt _ ?_
    unfold joinA
    cases hg : standG i t l with
    | true => rw [if_neg (by decide), if_neg hlt]
    | false => rw [if_pos rfl]; unfold joinG; rw [if_pos rfl]
theorem joinA_bad {a b i t : Int} {xs l : List SE} (h : (joinA a b xs i t l).2.2 = false) (ha : 0 ≤ a) (hi : 0 ≤ i) (hrg : ∀ x ∈ l, 0 ≤ x.f0 ∧ x.f0 < 18446744073709551616) : joinA a b xs i t l = (0, [], false) := by
  unfold joinA at h ⊢
  by_cases c0 : standG i t l = false
  · rw [if_pos c0]
  rw [if_neg c0] at h ⊢
  have c0' : standG i t l = true := by simpa using c0
  by_cases c1 : i < a
  · rw [if_pos c1] at h ⊢
    by_cases c2 : standG a b (l.drop (a - i).toNat) = false
    · rw [if_pos c2]
    rw [if_neg c2] at h
    obtain ⟨k, T', z⟩ := scan_ex a b xs _ a b ha (fun x hx => hrg x (List.mem_of_mem_drop hx)) (by simpa using c2) (by unfold KnowT termF; rw [if_pos rfl])
    rw [z.good] at h
    cases h
  · rw [if_neg c1] at h ⊢
    unfold joinG at h ⊢
    rw [if_neg (by decide)] at h ⊢
    by_cases c2 : (termF a b xs i).2 = false
    · rw [if_pos c2]
    rw [if_neg c2] at h ⊢
    by_cases c3 : (termF a b xs i).1 = t
    · rw [if_pos c3] at h
      have hk : KnowT a b xs i t := by
        unfold KnowT
        cases hq : termF a b xs i with
        | mk u v => rw [hq] at c2 c3; cases v with
          | true => exact congrArg (·, true) c3
          | false => exact absurd rfl c2
      obtain ⟨k, T', z⟩ := scan_ex a b xs l i t hi hrg c0' hk
      rw [z.good] at h
      cases h
    · rw [if_neg c3]

set_option maxHeartbeats 16000000 in
set_option maxRecDepth 100000 in
theorem joins_many1 (W : World) (a b o i t o2 : Int) (A : Option Addr) (c : Nat) (By : List Int) (A2 : Option Addr) (c2 : Nat) (By2 : List Int) (hC : (Kd.int .u8).C W A By.length By) (hc : By.length ≤ c) (hC2 : (Kd.int .u8).C W A2 By2.length By2) (hc2 : By2.length ≤ c2) (h60 : ¬ By.length ≤ 60) :
    Calls Try.prog 8 #[.agg #[.int .u64 a, .int .u64 b, .slice A By.length c, .int .u8 o], .agg #[.int .u64 i, .int .u64 t, .slice A2 By2.length c2, .int .u8 o2]] W fun e w' => e = .returned (.bool true) ∧ Below W.heap.size W w' := by
  have hu := Try.underlying60
  have hu2 := Try.underlying66
  have hu3 := Try.underlying78
  have hu4 := Try.underlying63
  have S0 := St.start W (fun _ => False)
  have HL1 : Aside0 (∀ W', Below W.heap.size W W' → Calls Try.prog 24 #[.agg #[.int .u64 a, .int .u64 b, .slice A By.length c, .int .u8 o]] W' fun e w' => e = .returned (.bool false) ∧ Below W'.heap.size W' w') := ⟨fun W' hb => jobberlaw38_Run_light.calls a b A c By o false W' (Kd.C_below hC hb) hc (by unfold jobberlaw38_Run_light.f; rw [decide_eq_false (by omega)])⟩
  clear hC hc hC2 hc2 h60
  go_enter Try.func8, Try.ntmps8
  go_wp2_with (first
    | ((with_reducible refine gate_dst (N := 2) rfl ?_); refine box_event ?hg (N := 2) ?hd (cs := #[.int .u64 a, .int .u64 b, .slice A By.length c, .int .u8 o]) (t := 60) ?hr ?_; (case hd => rfl); (case hg => rfl); (case hr => first | (go_simp; done) | (go_simp; rfl)); intro gR hg_ w1 hbB hb; have S1 := S0.box hg_ hb hbB; clear S0 hg_ hbB hb)
    | ((with_reducible refine gate_dst (N := 3) rfl ?_); refine box_event ?hg (N := 3) ?hd (cs := #[.int .u64 i, .int .u64 t, .slice A2 By2.length c2, .int .u8 o2]) (t := 60) ?hr ?_; (case hd => rfl); (case hg => rfl); (case hr => first | (go_simp; done) | (go_simp; rfl)); intro gM hg_ w2 hbB hb; have S2 := S1.box hg_ hb hbB; clear S1 hg_ hbB hb; have z0 : w2.cell? ⟨gR, 0, none⟩ = some (.int .u64 a) := (blk_cell (S2.blk 1 rfl) 0).trans rfl; have z1 : w2.cell? ⟨gR, 1, none⟩ = some (.int .u64 b) := (blk_cell (S2.blk 1 rfl) 1).trans rfl; have z2 : w2.cell? ⟨gR, 2, none⟩ = some (.slice A By.length c) := (blk_cell (S2.blk 1 rfl) 2).trans rfl; have z3 : w2.cell? ⟨gR, 3, none⟩ = some (.int .u8 o) := (blk_cell (S2.blk 1 rfl) 3).trans rfl)
    | (go_at_call 24; refine (HL1.out _ S2.below).mono ?_; rintro e w3 ⟨rfl, hb⟩; have S3 := S2.call hb; clear S2 hb z0 z1 z2 z3; have z0 : w3.cell? ⟨gM, 0, none⟩ = some (.int .u64 i) := (blk_cell (S3.blk 0 rfl) 0).trans rfl; have z1 : w3.cell? ⟨gM, 1, none⟩ = some (.int .u64 t) := (blk_cell (S3.blk 0 rfl) 1).trans rfl; have z2 : w3.cell? ⟨gM, 2, none⟩ = some (.slice A2 By2.length c2) := (blk_cell (S3.blk 0 rfl) 2).trans rfl; have z3 : w3.cell? ⟨gM, 3, none⟩ = some (.int .u8 o2) := (blk_cell (S3.blk 0 rfl) 3).trans rfl)
    | (go_at_call 25; refine (chain_lives _).mono ?_; rintro e w4 ⟨rfl, hb⟩; have S4 := S3.call hb; clear S3 hb))
  go_ret
  exact ⟨rfl, S4.below⟩
set_option maxHeartbeats 16000000 in
set_option maxRecDepth 100000 in
theorem joins_many2 (W : World) (a b o i t o2 : Int) (A : Option Addr) (c : Nat) (By : List Int) (A2 : Option Addr) (c2 : Nat) (By2 : List Int) (hC : (Kd.int .u8).C W A By.length By) (hc : By.length ≤ c) (hC2 : (Kd.int .u8).C W A2 By2.length By2) (hc2 : By2.length ≤ c2) (h60 : By.length ≤ 60) (h61 : ¬ By2.length ≤ 60) :
    Calls Try.prog 8 #[.agg #[.int .u64 a, .int .u64 b, .slice A By.length c, .int .u8 o], .agg #[.int .u64 i, .int .u64 t, .slice A2 By2.length c2, .int .u8 o2]] W fun e w' => e = .returned (.bool true) ∧ Below W.heap.size W w' := by
  have hu := Try.underlying60
  have hu2 := Try.underlying66
  have hu3 := Try.underlying78
  have hu4 := Try.underlying63
  have S0 := St.start W (fun _ => False)
  have HL1 : Aside0 (∀ W', Below W.heap.size W W' → Calls Try.prog 24 #[.agg #[.int .u64 a, .int .u64 b, .slice A By.length c, .int .u8 o]] W' fun e w' => e = .returned (.bool true) ∧ Below W'.heap.size W' w') := ⟨fun W' hb => jobberlaw38_Run_light.calls a b A c By o true W' (Kd.C_below hC hb) hc (by unfold jobberlaw38_Run_light.f; rw [decide_eq_true (by omega)])⟩
  have HL2 : Aside0 (∀ W', Below W.heap.size W W' → Calls Try.prog 24 #[.agg #[.int .u64 i, .int .u64 t, .slice A2 By2.length c2, .int .u8 o2]] W' fun e w' => e = .returned (.bool false) ∧ Below W'.heap.size W' w') := ⟨fun W' hb => jobberlaw38_Run_light.calls i t A2 c2 By2 o2 false W' (Kd.C_below hC2 hb) hc2 (by unfold jobberlaw38_Run_light.f; rw [decide_eq_false (by omega)])⟩
  clear hC hc hC2 hc2 h60 h61
  go_enter Try.func8, Try.ntmps8
  go_wp2_with (first
    | ((with_reducible refine gate_dst (N := 2) rfl ?_); refine box_event ?hg (N := 2) ?hd (cs := #[.int .u64 a, .int .u64 b, .slice A By.length c, .int .u8 o]) (t := 60) ?hr ?_; (case hd => rfl); (case hg => rfl); (case hr => first | (go_simp; done) | (go_simp; rfl)); intro gR hg_ w1 hbB hb; have S1 := S0.box hg_ hb hbB; clear S0 hg_ hbB hb)
    | ((with_reducible refine gate_dst (N := 3) rfl ?_); refine box_event ?hg (N := 3) ?hd (cs := #[.int .u64 i, .int .u64 t, .slice A2 By2.length c2, .int .u8 o2]) (t := 60) ?hr ?_; (case hd => rfl); (case hg => rfl); (case hr => first | (go_simp; done) | (go_simp; rfl)); intro gM hg_ w2 hbB hb; have S2 := S1.box hg_ hb hbB; clear S1 hg_ hbB hb; have z0 : w2.cell? ⟨gR, 0, none⟩ = some (.int .u64 a) := (blk_cell (S2.blk 1 rfl) 0).trans rfl; have z1 : w2.cell? ⟨gR, 1, none⟩ = some (.int .u64 b) := (blk_cell (S2.blk 1 rfl) 1).trans rfl; have z2 : w2.cell? ⟨gR, 2, none⟩ = some (.slice A By.length c) := (blk_cell (S2.blk 1 rfl) 2).trans rfl; have z3 : w2.cell? ⟨gR, 3, none⟩ = some (.int .u8 o) := (blk_cell (S2.blk 1 rfl) 3).trans rfl)
    | (go_at_call 24; refine (HL1.out _ S2.below).mono ?_; rintro e w3 ⟨rfl, hb⟩; have S3 := S2.call hb; clear S2 hb z0 z1 z2 z3; have z0 : w3.cell? ⟨gM, 0, none⟩ = some (.int .u64 i) := (blk_cell (S3.blk 0 rfl) 0).trans rfl; have z1 : w3.cell? ⟨gM, 1, none⟩ = some (.int .u64 t) := (blk_cell (S3.blk 0 rfl) 1).trans rfl; have z2 : w3.cell? ⟨gM, 2, none⟩ = some (.slice A2 By2.length c2) := (blk_cell (S3.blk 0 rfl) 2).trans rfl; have z3 : w3.cell? ⟨gM, 3, none⟩ = some (.int .u8 o2) := (blk_cell (S3.blk 0 rfl) 3).trans rfl)
    | (go_at_call 24; refine (HL2.out _ S3.below).mono ?_; rintro e w4 ⟨rfl, hb⟩; have S4 := S3.call hb; clear S3 hb z0 z1 z2 z3; have z0 : w4.cell? ⟨gR, 0, none⟩ = some (.int .u64 a) := (blk_cell (S4.blk 1 rfl) 0).trans rfl; have z1 : w4.cell? ⟨gR, 1, none⟩ = some (.int .u64 b) := (blk_cell (S4.blk 1 rfl) 1).trans rfl; have z2 : w4.cell? ⟨gR, 2, none⟩ = some (.slice A By.length c) := (blk_cell (S4.blk 1 rfl) 2).trans rfl; have z3 : w4.cell? ⟨gR, 3, none⟩ = some (.int .u8 o) := (blk_cell (S4.blk 1 rfl) 3).trans rfl)
    | (go_at_call 25; refine (chain_lives _).mono ?_; rintro e w5 ⟨rfl, hb⟩; have S5 := S4.call hb; clear S4 hb))
  go_ret
  exact ⟨rfl, S5.below⟩
set_option maxHeartbeats 16000000 in
set_option maxRecDepth 100000 in
theorem joins_bad (W : World) (a b o i t o2 : Int) (A : Option Addr) (c : Nat) (By : List Int) (A2 : Option Addr) (c2 : Nat) (By2 : List Int) (hC : (Kd.int .u8).C W A By.length By) (hc : By.length ≤ c) (hC2 : (Kd.int .u8).C W A2 By2.length By2) (hc2 : By2.length ≤ c2) (h60 : By.length ≤ 60) (h61 : By2.length ≤ 60) (xs : List SE) (hxs : jobberlaw38_Run_entries.f 61 a b By o = some xs) (hx : Ents xs By.length) (hg : standG a b xs = false) :
    Calls Try.prog 8 #[.agg #[.int .u64 a, .int .u64 b, .slice A By.length c, .int .u8 o], .agg #[.int .u64 i, .int .u64 t, .slice A2 By2.length c2, .int .u8 o2]] W fun e w' => e = .returned (.bool true) ∧ Below W.heap.size W w' := by
  have hu := Try.underlying60
  have hu2 := Try.underlying66
  have hu3 := Try.underlying78
  have hu4 := Try.underlying63
  have S0 := St.start W (fun _ => False)
  have HL1 : Aside0 (∀ W', Below W.heap.size W W' → Calls Try.prog 24 #[.agg #[.int .u64 a, .int .u64 b, .slice A By.length c, .int .u8 o]] W' fun e w' => e = .returned (.bool true) ∧ Below W'.heap.size W' w') := ⟨fun W' hb => jobberlaw38_Run_light.calls a b A c By o true W' (Kd.C_below hC hb) hc (by unfold jobberlaw38_Run_light.f; rw [decide_eq_true (by omega)])⟩
  have HL2 : Aside0 (∀ W', Below W.heap.size W W' → Calls Try.prog 24 #[.agg #[.int .u64 i, .int .u64 t, .slice A2 By2.length c2, .int .u8 o2]] W' fun e w' => e = .returned (.bool true) ∧ Below W'.heap.size W' w') := ⟨fun W' hb => jobberlaw38_Run_light.calls i t A2 c2 By2 o2 true W' (Kd.C_below hC2 hb) hc2 (by unfold jobberlaw38_Run_light.f; rw [decide_eq_true (by omega)])⟩
  have HB : Aside0 (∀ W', Below W.heap.size W W' → Calls Try.prog 26 #[.agg #[.int .u64 a, .int .u64 b, .slice A By.length c, .int .u8 o]] W' fun e w' => ∃ A5 c5, e = .returned (.tuple #[.pointer none, .agg #[.int .u64 a, .int .u64 b, .slice none 0 0, .slice A5 (pl xs).length c5], .bool true]) ∧ Below W'.heap.size W' w') := ⟨fun W' hb => both_bad W' a b o A c By (Kd.C_below hC hb) hc h60 xs hxs hx hg⟩
  clear hC hc hC2 hc2 h60 h61 hxs hx hg
  go_enter Try.func8, Try.ntmps8
  go_wp2_with (first
    | ((with_reducible refine gate_dst (N := 2) rfl ?_); refine box_event ?hg (N := 2) ?hd (cs := #[.int .u64 a, .int .u64 b, .slice A By.length c, .int .u8 o]) (t := 60) ?hr ?_; (case hd => rfl); (case hg => rfl); (case hr => first | (go_simp; done) | (go_simp; rfl)); intro gR hg_ w1 hbB hb; have S1 := S0.box hg_ hb hbB; clear S0 hg_ hbB hb)
    | ((with_reducible refine gate_dst (N := 3) rfl ?_); refine box_event ?hg (N := 3) ?hd (cs := #[.int .u64 i, .int .u64 t, .slice A2 By2.length c2, .int .u8 o2]) (t := 60) ?hr ?_; (case hd => rfl); (case hg => rfl); (case hr => first | (go_simp; done) | (go_simp; rfl)); intro gM hg_ w2 hbB hb; have S2 := S1.box hg_ hb hbB; clear S1 hg_ hbB hb; have z0 : w2.cell? ⟨gR, 0, none⟩ = some (.int .u64 a) := (blk_cell (S2.blk 1 rfl) 0).trans rfl; have z1 : w2.cell? ⟨gR, 1, none⟩ = some (.int .u64 b) := (blk_cell (S2.blk 1 rfl) 1).trans rfl; have z2 : w2.cell? ⟨gR, 2, none⟩ = some (.slice A By.length c) := (blk_cell (S2.blk 1 rfl) 2).trans rfl; have z3 : w2.cell? ⟨gR, 3, none⟩ = some (.int .u8 o) := (blk_cell (S2.blk 1 rfl) 3).trans rfl)
    | (go_at_call 24; refine (HL1.out _ S2.below).mono ?_; rintro e w3 ⟨rfl, hb⟩; have S3 := S2.call hb; clear S2 hb z0 z1 z2 z3; have z0 : w3.cell? ⟨gM, 0, none⟩ = some (.int .u64 i) := (blk_cell (S3.blk 0 rfl) 0).trans rfl; have z1 : w3.cell? ⟨gM, 1, none⟩ = some (.int .u64 t) := (blk_cell (S3.blk 0 rfl) 1).trans rfl; have z2 : w3.cell? ⟨gM, 2, none⟩ = some (.slice A2 By2.length c2) := (blk_cell (S3.blk 0 rfl) 2).trans rfl; have z3 : w3.cell? ⟨gM, 3, none⟩ = some (.int .u8 o2) := (blk_cell (S3.blk 0 rfl) 3).trans rfl)
    | (go_at_call 24; refine (HL2.out _ S3.below).mono ?_; rintro e w4 ⟨rfl, hb⟩; have S4 := S3.call hb; clear S3 hb z0 z1 z2 z3; have z0 : w4.cell? ⟨gR, 0, none⟩ = some (.int .u64 a) := (blk_cell (S4.blk 1 rfl) 0).trans rfl; have z1 : w4.cell? ⟨gR, 1, none⟩ = some (.int .u64 b) := (blk_cell (S4.blk 1 rfl) 1).trans rfl; have z2 : w4.cell? ⟨gR, 2, none⟩ = some (.slice A By.length c) := (blk_cell (S4.blk 1 rfl) 2).trans rfl; have z3 : w4.cell? ⟨gR, 3, none⟩ = some (.int .u8 o) := (blk_cell (S4.blk 1 rfl) 3).trans rfl)
    | (go_at_call 26; refine (HB.out _ S4.below).mono ?_; rintro e w5 ⟨A5, c5, rfl, hb⟩; have S5 := S4.call hb; clear S4 hb z0 z1 z2 z3)
    | ((with_reducible refine gate_dst (N := 6) rfl ?_); refine box_event ?hg (N := 6) ?hd (cs := #[.int .u64 0, .int .u64 0, .slice none 0 0, .slice none 0 0]) (t := 66) ?hr ?_; (case hd => rfl); (case hg => rfl); (case hr => first | (go_simp; done) | (go_simp; rfl)); intro gW hg_ w6 hbB hb; have S6 := S5.box hg_ hb hbB; clear S5 hg_ hbB hb; have z0 : w6.cell? ⟨gW, 0, none⟩ = some (.int .u64 0) := (blk_cell (S6.blk 0 rfl) 0).trans rfl; have fz0 : w6.frozen? ⟨gW, 0, none⟩ = false := blk_frozen (S6.blk 0 rfl) 0; have z1 : w6.cell? ⟨gW, 1, none⟩ = some (.int .u64 0) := (blk_cell (S6.blk 0 rfl) 1).trans rfl; have fz1 : w6.frozen? ⟨gW, 1, none⟩ = false := blk_frozen (S6.blk 0 rfl) 1; have z2 : w6.cell? ⟨gW, 2, none⟩ = some (.slice none 0 0) := (blk_cell (S6.blk 0 rfl) 2).trans rfl; have fz2 : w6.frozen? ⟨gW, 2, none⟩ = false := blk_frozen (S6.blk 0 rfl) 2; have z3 : w6.cell? ⟨gW, 3, none⟩ = some (.slice none 0 0) := (blk_cell (S6.blk 0 rfl) 3).trans rfl; have fz3 : w6.frozen? ⟨gW, 3, none⟩ = false := blk_frozen (S6.blk 0 rfl) 3)
    | (go_at_call 25; refine Calls.named ?_; intro w7 hw7; have S7 : St W (fun _ => False) w7 [Pt gW #[.int .u64 a, .int .u64 b, .slice none 0 0, .slice A5 (pl xs).length c5] 66, Pt gM #[.int .u64 i, .int .u64 t, .slice A2 By2.length c2, .int .u8 o2] 60, Pt gR #[.int .u64 a, .int .u64 b, .slice A By.length c, .int .u8 o] 60] := (by rw [hw7]; exact (((S6.put 0 _ rfl).put 1 _ rfl).put 2 _ rfl).put 3 _ rfl); clear hw7 S6; refine (chain_lives w7).mono ?_; rintro e w8 ⟨rfl, hb⟩; have S8 := S7.call hb; clear S7 hb))
  go_ret
  exact ⟨rfl, S8.below⟩
set_option maxHeartbeats 16000000 in
set_option maxRecDepth 100000 in
theorem joins_not (W : World) (a b o i t o2 : Int) (A : Option Addr) (c : Nat) (By : List Int) (A2 : Option Addr) (c2 : Nat) (By2 : List Int) (hC : (Kd.int .u8).C W A By.length By) (hc : By.length ≤ c) (hC2 : (Kd.int .u8).C W A2 By2.length By2) (hc2 : By2.length ≤ c2) (h60 : By.length ≤ 60) (h61 : By2.length ≤ 60) (xs : List SE) (hxs : jobberlaw38_Run_entries.f 61 a b By o = some xs) (hx : Ents xs By.length) (hg : standG a b xs = true) (ha : 0 ≤ a ∧ a < 18446744073709551616) (l : List SE) (hls : jobberlaw38_Run_entries.f 61 i t By2 o2 = some l) (hl : Ents l By2.length) (hi : 0 ≤ i ∧ i < 18446744073709551616) (hj : (joinA a b xs i t l).2.2 = false) :
    Calls Try.prog 8 #[.agg #[.int .u64 a, .int .u64 b, .slice A By.length c, .int .u8 o], .agg #[.int .u64 i, .int .u64 t, .slice A2 By2.length c2, .int .u8 o2]] W fun e w' => e = .returned (.bool true) ∧ Below W.heap.size W w' := by
  have hu := Try.underlying60
  have hu2 := Try.underlying66
  have hu3 := Try.underlying78
  have hu4 := Try.underlying63
  have S0 := St.start W (fun _ => False)
  have HL1 : Aside0 (∀ W', Below W.heap.size W W' → Calls Try.prog 24 #[.agg #[.int .u64 a, .int .u64 b, .slice A By.length c, .int .u8 o]] W' fun e w' => e = .returned (.bool true) ∧ Below W'.heap.size W' w') := ⟨fun W' hb => jobberlaw38_Run_light.calls a b A c By o true W' (Kd.C_below hC hb) hc (by unfold jobberlaw38_Run_light.f; rw [decide_eq_true (by omega)])⟩
  have HL2 : Aside0 (∀ W', Below W.heap.size W W' → Calls Try.prog 24 #[.agg #[.int .u64 i, .int .u64 t, .slice A2 By2.length c2, .int .u8 o2]] W' fun e w' => e = .returned (.bool true) ∧ Below W'.heap.size W' w') := ⟨fun W' hb => jobberlaw38_Run_light.calls i t A2 c2 By2 o2 true W' (Kd.C_below hC2 hb) hc2 (by unfold jobberlaw38_Run_light.f; rw [decide_eq_true (by omega)])⟩
  have HB : Aside0 (∀ W', Below W.heap.size W W' → Calls Try.prog 26 #[.agg #[.int .u64 a, .int .u64 b, .slice A By.length c, .int .u8 o]] W' fun e w' => ∃ g A5 c5, e = .returned (.tuple #[.pointer (some ⟨g, 0, none⟩), .agg #[.int .u64 a, .int .u64 b, .slice none 0 0, .slice A5 (pl xs).length c5], .bool true]) ∧ (pl xs).length ≤ c5 ∧ St W' (fun _ => False) w' [ChP g a b xs, Vw k63 A5 (pl xs).length (pl xs)]) := ⟨fun W' hb => both_good W' a b o A c By (Kd.C_below hC hb) hc h60 xs hxs hx hg ha⟩
  have HE : Aside0 (∀ W', Below W.heap.size W W' → Calls Try.prog 30 #[.agg #[.int .u64 i, .int .u64 t, .slice A2 By2.length c2, .int .u8 o2]] W' fun e w' => ∃ v0_ : Value, e = .returned (v0_) ∧ Kd.S KE 78 w' W'.heap.size (fun _ => True) v0_ l ∧ Below W'.heap.size W' w') := ⟨fun W' hb => jobberlaw38_Run_entries.calls 61 i t A2 c2 By2 o2 l W' (Kd.C_below hC2 hb) hc2 hls⟩
  have HRW : Aside0 (Row a xs) := ⟨stand_row xs a b ha.1 ha.2 (by rw [hx.len]; omega) (fun x hm => by rw [hx.bod x hm]; omega) (fun x hm => (hx.rng x hm).1) hg⟩
  have HLN : Aside0 (l.length ≤ 60 ∧ xs.length ≤ 60) := ⟨by rw [hl.len]; exact h61, by rw [hx.len]; exact h60⟩
  have HSM : Aside0 (∀ x ∈ l, x.f2.length ≤ 1000000) := ⟨fun x hm => by rw [hl.bod x hm]; omega⟩
  have HRG : Aside0 (∀ x ∈ l, 0 ≤ x.f0 ∧ x.f0 < 18446744073709551616) := ⟨fun x hm => (hl.rng x hm).1⟩
  have HI := Aside0.mk hi
  have HA := Aside0.mk ha
  have HJ : Aside0 (joinA a b xs i t l = (0, [], false)) := ⟨joinA_bad hj ha.1 hi.1 (fun x hm => (hl.rng x hm).1)⟩
  clear hC hc hC2 hc2 h60 h61 hxs hx hg ha hls hl hi hj
  go_enter Try.func8, Try.ntmps8
  go_wp2_with (first
    | ((with_reducible refine gate_dst (N := 2) rfl ?_); refine box_event ?hg (N := 2) ?hd (cs := #[.int .u64 a, .int .u64 b, .slice A By.length c, .int .u8 o]) (t := 60) ?hr ?_; (case hd => rfl); (case hg => rfl); (case hr => first | (go_simp; done) | (go_simp; rfl)); intro gR hg_ w1 hbB hb; have S1 := S0.box hg_ hb hbB; clear S0 hg_ hbB hb)
    | ((with_reducible refine gate_dst (N := 3) rfl ?_); refine box_event ?hg (N := 3) ?hd (cs := #[.int .u64 i, .int .u64 t, .slice A2 By2.length c2, .int .u8 o2]) (t := 60) ?hr ?_; (case hd => rfl); (case hg => rfl); (case hr => first | (go_simp; done) | (go_simp; rfl)); intro gM hg_ w2 hbB hb; have S2 := S1.box hg_ hb hbB; clear S1 hg_ hbB hb; have z0 : w2.cell? ⟨gR, 0, none⟩ = some (.int .u64 a) := (blk_cell (S2.blk 1 rfl) 0).trans rfl; have z1 : w2.cell? ⟨gR, 1, none⟩ = some (.int .u64 b) := (blk_cell (S2.blk 1 rfl) 1).trans rfl; have z2 : w2.cell? ⟨gR, 2, none⟩ = some (.slice A By.length c) := (blk_cell (S2.blk 1 rfl) 2).trans rfl; have z3 : w2.cell? ⟨gR, 3, none⟩ = some (.int .u8 o) := (blk_cell (S2.blk 1 rfl) 3).trans rfl)
    | (go_at_call 24; refine (HL1.out _ S2.below).mono ?_; rintro e w3 ⟨rfl, hb⟩; have S3 := S2.call hb; clear S2 hb z0 z1 z2 z3; have z0 : w3.cell? ⟨gM, 0, none⟩ = some (.int .u64 i) := (blk_cell (S3.blk 0 rfl) 0).trans rfl; have z1 : w3.cell? ⟨gM, 1, none⟩ = some (.int .u64 t) := (blk_cell (S3.blk 0 rfl) 1).trans rfl; have z2 : w3.cell? ⟨gM, 2, none⟩ = some (.slice A2 By2.length c2) := (blk_cell (S3.blk 0 rfl) 2).trans rfl; have z3 : w3.cell? ⟨gM, 3, none⟩ = some (.int .u8 o2) := (blk_cell (S3.blk 0 rfl) 3).trans rfl)
    | (go_at_call 24; refine (HL2.out _ S3.below).mono ?_; rintro e w4 ⟨rfl, hb⟩; have S4 := S3.call hb; clear S3 hb z0 z1 z2 z3; have z0 : w4.cell? ⟨gR, 0, none⟩ = some (.int .u64 a) := (blk_cell (S4.blk 1 rfl) 0).trans rfl; have z1 : w4.cell? ⟨gR, 1, none⟩ = some (.int .u64 b) := (blk_cell (S4.blk 1 rfl) 1).trans rfl; have z2 : w4.cell? ⟨gR, 2, none⟩ = some (.slice A By.length c) := (blk_cell (S4.blk 1 rfl) 2).trans rfl; have z3 : w4.cell? ⟨gR, 3, none⟩ = some (.int .u8 o) := (blk_cell (S4.blk 1 rfl) 3).trans rfl)
    | (go_at_call 26; refine (HB.out _ S4.below).mono ?_; rintro e w5 ⟨g, A5, c5, rfl, hc5, hs⟩; have S5 := S4.join0 hs; have HC5 := Aside0.mk hc5; clear S4 hs hc5 z0 z1 z2 z3)
    | ((with_reducible refine gate_dst (N := 6) rfl ?_); refine box_event ?hg (N := 6) ?hd (cs := #[.int .u64 0, .int .u64 0, .slice none 0 0, .slice none 0 0]) (t := 66) ?hr ?_; (case hd => rfl); (case hg => rfl); (case hr => first | (go_simp; done) | (go_simp; rfl)); intro gW hg_ w6 hbB hb; have S6 := S5.box hg_ hb hbB; clear S5 hg_ hbB hb; have z0 : w6.cell? ⟨gW, 0, none⟩ = some (.int .u64 0) := (blk_cell (S6.blk 0 rfl) 0).trans rfl; have fz0 : w6.frozen? ⟨gW, 0, none⟩ = false := blk_frozen (S6.blk 0 rfl) 0; have z1 : w6.cell? ⟨gW, 1, none⟩ = some (.int .u64 0) := (blk_cell (S6.blk 0 rfl) 1).trans rfl; have fz1 : w6.frozen? ⟨gW, 1, none⟩ = false := blk_frozen (S6.blk 0 rfl) 1; have z2 : w6.cell? ⟨gW, 2, none⟩ = some (.slice none 0 0) := (blk_cell (S6.blk 0 rfl) 2).trans rfl; have fz2 : w6.frozen? ⟨gW, 2, none⟩ = false := blk_frozen (S6.blk 0 rfl) 2; have z3 : w6.cell? ⟨gW, 3, none⟩ = some (.slice none 0 0) := (blk_cell (S6.blk 0 rfl) 3).trans rfl; have fz3 : w6.frozen? ⟨gW, 3, none⟩ = false := blk_frozen (S6.blk 0 rfl) 3; have m0 : w6.cell? ⟨gM, 0, none⟩ = some (.int .u64 i) := (blk_cell (S6.blk 3 rfl) 0).trans rfl; have m1 : w6.cell? ⟨gM, 1, none⟩ = some (.int .u64 t) := (blk_cell (S6.blk 3 rfl) 1).trans rfl; have m2 : w6.cell? ⟨gM, 2, none⟩ = some (.slice A2 By2.length c2) := (blk_cell (S6.blk 3 rfl) 2).trans rfl; have m3 : w6.cell? ⟨gM, 3, none⟩ = some (.int .u8 o2) := (blk_cell (S6.blk 3 rfl) 3).trans rfl; have nwm : gW ≠ gM := S6.ne 0 3 rfl rfl (by decide); have nwm' := Ne.symm nwm)
    | (go_at_call 30; refine Calls.named ?_; intro w7 hw7; have S7 : St W (fun _ => False) w7 [Pt gW #[.int .u64 a, .int .u64 b, .slice none 0 0, .slice A5 (pl xs).length c5] 66, ChP g a b xs, Vw k63 A5 (pl xs).length (pl xs), Pt gM #[.int .u64 i, .int .u64 t, .slice A2 By2.length c2, .int .u8 o2] 60, Pt gR #[.int .u64 a, .int .u64 b, .slice A By.length c, .int .u8 o] 60] := (by rw [hw7]; exact (((S6.put 0 _ rfl).put 1 _ rfl).put 2 _ rfl).put 3 _ rfl); clear hw7 S6 z0 z1 z2 z3 fz0 fz1 fz2 fz3 m0 m1 m2 m3 nwm nwm'; refine (HE.out _ S7.below).mono ?_; rintro e w8 ⟨v, rfl, hR, hb⟩; obtain ⟨A8, c8, e8⟩ := Kd.R_slice (Kd.S_R hR); subst e8; have S8 := S7.row hb (Kd.S_R hR); clear S7 hR hb; have m0 : w8.cell? ⟨gM, 0, none⟩ = some (.int .u64 i) := (blk_cell (S8.blk 4 rfl) 0).trans rfl; have m1 : w8.cell? ⟨gM, 1, none⟩ = some (.int .u64 t) := (blk_cell (S8.blk 4 rfl) 1).trans rfl; have m2 : w8.cell? ⟨gM, 2, none⟩ = some (.slice A2 By2.length c2) := (blk_cell (S8.blk 4 rfl) 2).trans rfl; have m3 : w8.cell? ⟨gM, 3, none⟩ = some (.int .u8 o2) := (blk_cell (S8.blk 4 rfl) 3).trans rfl)
    | (go_at_call 31; obtain ⟨ok8, hR8⟩ := S8.rd 0 rfl; have hR8' := Kd.R_reads' hR8; refine (chain_join w8 g a b xs (S8.ch 2 rfl) i t HI.out A8 c8 l hR8'.2.2 hR8'.2.1 (by have := HLN.out; omega) HSM.out HRG.out).mono ?_; rintro e w9 ⟨v, rfl, hR, hb⟩; obtain ⟨A9, c9, e9⟩ := Kd.R_slice hR; subst e9; rw [HJ.out] at hR; rw [HJ.out]; have S9 := S8.row hb hR; clear S8 hb hR hR8 hR8' m0 m1 m2 m3)
    | (go_at_call 25; refine (chain_lives _).mono ?_; rintro e w10 ⟨rfl, hb⟩; have S10 := S9.call hb; clear S9 hb))
  go_ret
  exact ⟨rfl, S10.below⟩
set_option maxHeartbeats 16000000 in
set_option maxRecDepth 100000 in
theorem joins_cut (W : World) (a b o i t o2 : Int) (A : Option Addr) (c : Nat) (By : List Int) (A2 : Option Addr) (c2 : Nat) (By2 : List Int) (hC : (Kd.int .u8).C W A By.length By) (hc : By.length ≤ c) (hC2 : (Kd.int .u8).C W A2 By2.length By2) (hc2 : By2.length ≤ c2) (h60 : By.length ≤ 60) (h61 : By2.length ≤ 60) (xs : List SE) (hxs : jobberlaw38_Run_entries.f 61 a b By o = some xs) (hx : Ents xs By.length) (hg : standG a b xs = true) (ha : 0 ≤ a ∧ a < 18446744073709551616) (l : List SE) (hls : jobberlaw38_Run_entries.f 61 i t By2 o2 = some l) (hl : Ents l By2.length) (hi : 0 ≤ i ∧ i < 18446744073709551616) (hj : (joinA a b xs i t l).2.2 = true) (hne : (joinA a b xs i t l).1 ≠ 0) :
    Calls Try.prog 8 #[.agg #[.int .u64 a, .int .u64 b, .slice A By.length c, .int .u8 o], .agg #[.int .u64 i, .int .u64 t, .slice A2 By2.length c2, .int .u8 o2]] W fun e w' => e = .returned (.bool true) ∧ Below W.heap.size W w' := by
  have hu := Try.underlying60
  have hu2 := Try.underlying66
  have hu3 := Try.underlying78
  have hu4 := Try.underlying63
  have S0 := St.start W (fun _ => False)
  have HL1 : Aside0 (∀ W', Below W.heap.size W W' → Calls Try.prog 24 #[.agg #[.int .u64 a, .int .u64 b, .slice A By.length c, .int .u8 o]] W' fun e w' => e = .returned (.bool true) ∧ Below W'.heap.size W' w') := ⟨fun W' hb => jobberlaw38_Run_light.calls a b A c By o true W' (Kd.C_below hC hb) hc (by unfold jobberlaw38_Run_light.f; rw [decide_eq_true (by omega)])⟩
  have HL2 : Aside0 (∀ W', Below W.heap.size W W' → Calls Try.prog 24 #[.agg #[.int .u64 i, .int .u64 t, .slice A2 By2.length c2, .int .u8 o2]] W' fun e w' => e = .returned (.bool true) ∧ Below W'.heap.size W' w') := ⟨fun W' hb => jobberlaw38_Run_light.calls i t A2 c2 By2 o2 true W' (Kd.C_below hC2 hb) hc2 (by unfold jobberlaw38_Run_light.f; rw [decide_eq_true (by omega)])⟩
  have HB : Aside0 (∀ W', Below W.heap.size W W' → Calls Try.prog 26 #[.agg #[.int .u64 a, .int .u64 b, .slice A By.length c, .int .u8 o]] W' fun e w' => ∃ g A5 c5, e = .returned (.tuple #[.pointer (some ⟨g, 0, none⟩), .agg #[.int .u64 a, .int .u64 b, .slice none 0 0, .slice A5 (pl xs).length c5], .bool true]) ∧ (pl xs).length ≤ c5 ∧ St W' (fun _ => False) w' [ChP g a b xs, Vw k63 A5 (pl xs).length (pl xs)]) := ⟨fun W' hb => both_good W' a b o A c By (Kd.C_below hC hb) hc h60 xs hxs hx hg ha⟩
  have HE : Aside0 (∀ W', Below W.heap.size W W' → Calls Try.prog 30 #[.agg #[.int .u64 i, .int .u64 t, .slice A2 By2.length c2, .int .u8 o2]] W' fun e w' => ∃ v0_ : Value, e = .returned (v0_) ∧ Kd.S KE 78 w' W'.heap.size (fun _ => True) v0_ l ∧ Below W'.heap.size W' w') := ⟨fun W' hb => jobberlaw38_Run_entries.calls 61 i t A2 c2 By2 o2 l W' (Kd.C_below hC2 hb) hc2 hls⟩
  have HRW : Aside0 (Row a xs) := ⟨stand_row xs a b ha.1 ha.2 (by rw [hx.len]; omega) (fun x hm => by rw [hx.bod x hm]; omega) (fun x hm => (hx.rng x hm).1) hg⟩
  have HLN : Aside0 (l.length ≤ 60 ∧ xs.length ≤ 60) := ⟨by rw [hl.len]; exact h61, by rw [hx.len]; exact h60⟩
  have HSM : Aside0 (∀ x ∈ l, x.f2.length ≤ 1000000) := ⟨fun x hm => by rw [hl.bod x hm]; omega⟩
  have HRG : Aside0 (∀ x ∈ l, 0 ≤ x.f0 ∧ x.f0 < 18446744073709551616) := ⟨fun x hm => (hl.rng x hm).1⟩
  have HI := Aside0.mk hi
  have HA := Aside0.mk ha
  obtain ⟨i', T, l', k, T', J⟩ := joined_ex a b xs ha.1 i t l hi.1 (fun x hm => (hl.rng x hm).1) hj
  have hrl : Row i l := stand_row l i t hi.1 hi.2 (by rw [hl.len]; omega) (fun x hm => by rw [hl.bod x hm]; omega) (fun x hm => (hl.rng x hm).1) (by
    unfold joinA at hj
    by_cases c0 : standG i t l = false
    · rw [if_pos c0] at hj; cases hj
    · simpa using c0)
  have hrl' : Row i' l' := by
    rw [J.part]
    by_cases c : i' ≤ i + l.length
    · exact hrl.drop J.le c
    · rw [List.drop_of_length_le (by have := J.le; omega)]
      have hlow := J.low (by omega)
      exact ⟨fun j x hx => by simp at hx, by omega, by simp; omega, by simp, fun x hx => by simp at hx⟩
  have hrx : Row a xs := stand_row xs a b ha.1 ha.2 (by rw [hx.len]; omega) (fun x hm => by rw [hx.bod x hm]; omega) (fun x hm => (hx.rng x hm).1) hg
  have HTH : Aside0 (∀ x ∈ l, x.f0 > a → (entryF a (after a i' xs l' k) x.f0).2 = true ∧ (entryF a (after a i' xs l' k) x.f0).1.f1 = x.f1) := ⟨J.there hrl hrl'⟩
  have HTS : Aside0 (∀ x ∈ xs, x.f0 ≤ i → entryF a (after a i' xs l' k) x.f0 = (x, true)) := ⟨J.stays hrx⟩
  have HAG : Aside0 (joinA a b (after a i' xs l' k) i t l = (0, [], true)) := ⟨J.again hrl'⟩
  have hgood := J.scan.good
  have hladd : (joinA a b xs i t l).2.1.length ≤ 60 ∧ ∀ x ∈ (joinA a b xs i t l).2.1, x ∈ l := by
    rw [J.scan.add, J.part]
    exact ⟨by rw [List.length_drop, List.length_drop, hl.len]; omega, fun x hx => List.mem_of_mem_drop (List.mem_of_mem_drop hx)⟩
  obtain ⟨hc1, hc2', hc3⟩ := J.cutok hne
  have hkl : k < l'.length := by
    rcases J.scan.cut with ⟨h1, _⟩ | ⟨_, _, h3⟩
    · exact absurd h1 hne
    · exact h3
  have hap := J.appendok
  have hzs : xs.take ((joinA a b xs i t l).1 - 1 - a).toNat ++ (joinA a b xs i t l).2.1 = after a i' xs l' k := by
    unfold after
    rw [if_pos hkl, hc3, J.scan.add]
  rw [← hc3] at hap
  have hnb : 0 ≤ (joinA a b xs i t l).1 ∧ (joinA a b xs i t l).1 < 18446744073709551616 := by have := hrx.hi; have := ha.1; omega
  have hl1 : (xs.take ((joinA a b xs i t l).1 - 1 - a).toNat).length ≤ 60 := by rw [List.length_take, hx.len]; omega
  obtain ⟨r1, r2, r3, hJ⟩ : ∃ r1 r2 r3, joinA a b xs i t l = (r1, r2, r3) := ⟨_, _, _, rfl⟩
  rw [hJ] at hc1 hc2' hap hzs hgood hladd hne hnb hl1
  replace hgood : r3 = true := hgood
  subst hgood
  simp only at hc1 hc2' hap hzs hladd hne hnb hl1
  obtain ⟨zs, hzz⟩ : ∃ zs, after a i' xs l' k = zs := ⟨_, rfl⟩
  rw [hzz] at HTH HTS HAG hzs
  obtain ⟨ys, hys⟩ : ∃ ys, xs.take (r1 - 1 - a).toNat = ys := ⟨_, rfl⟩
  rw [hys] at hap hzs hl1
  have HYS := Aside0.mk hys
  have HC1 : Aside0 (a < r1 ∧ r1 - 1 ≤ a + xs.length ∧ 0 ≤ r1 ∧ r1 < 18446744073709551616) := ⟨hc1, by omega, hnb⟩
  have dg0 : decide (r1 > 0) = true := decide_eq_true (by have := ha.1; omega)
  have HRA : Aside0 (Row (a + ys.length) r2) := ⟨stand_row r2 _ _ (by have := ha.1; omega) (by have := hrx.hi; have h9 : ys.length ≤ xs.length := (by rw [← hys, List.length_take]; omega); omega) (by omega) (fun x hm => by rw [hl.bod x (hladd.2 x hm)]; omega) (fun x hm => (hl.rng x (hladd.2 x hm)).1) hap⟩
  have HJ := Aside0.mk hJ
  have HAP := Aside0.mk hap
  have HZS := Aside0.mk hzs
  have HLA : Aside0 (r2.length ≤ 60 ∧ ys.length ≤ 60) := ⟨hladd.1, hl1⟩
  clear J hrl hrl' hrx hladd hap hzs hzz hJ hl1 hc1 hc2' hc3 hkl hne hnb hys hC hc hC2 hc2 h60 h61 hxs hx hg ha hls hl hi hj
  go_enter Try.func8, Try.ntmps8
  go_upto_block 0 with (first
    | ((with_reducible refine gate_dst (N := 2) rfl ?_); refine box_event ?hg (N := 2) ?hd (cs := #[.int .u64 a, .int .u64 b, .slice A By.length c, .int .u8 o]) (t := 60) ?hr ?_; (case hd => rfl); (case hg => rfl); (case hr => first | (go_simp; done) | (go_simp; rfl)); intro gR hg_ w1 hbB hb; have S1 := S0.box hg_ hb hbB; clear S0 hg_ hbB hb)
    | ((with_reducible refine gate_dst (N := 3) rfl ?_); refine box_event ?hg (N := 3) ?hd (cs := #[.int .u64 i, .int .u64 t, .slice A2 By2.length c2, .int .u8 o2]) (t := 60) ?hr ?_; (case hd => rfl); (case hg => rfl); (case hr => first | (go_simp; done) | (go_simp; rfl)); intro gM hg_ w2 hbB hb; have S2 := S1.box hg_ hb hbB; clear S1 hg_ hbB hb; have z0 : w2.cell? ⟨gR, 0, none⟩ = some (.int .u64 a) := (blk_cell (S2.blk 1 rfl) 0).trans rfl; have z1 : w2.cell? ⟨gR, 1, none⟩ = some (.int .u64 b) := (blk_cell (S2.blk 1 rfl) 1).trans rfl; have z2 : w2.cell? ⟨gR, 2, none⟩ = some (.slice A By.length c) := (blk_cell (S2.blk 1 rfl) 2).trans rfl; have z3 : w2.cell? ⟨gR, 3, none⟩ = some (.int .u8 o) := (blk_cell (S2.blk 1 rfl) 3).trans rfl)
    | (go_at_call 24; refine (HL1.out _ S2.below).mono ?_; rintro e w3 ⟨rfl, hb⟩; have S3 := S2.call hb; clear S2 hb z0 z1 z2 z3; have z0 : w3.cell? ⟨gM, 0, none⟩ = some (.int .u64 i) := (blk_cell (S3.blk 0 rfl) 0).trans rfl; have z1 : w3.cell? ⟨gM, 1, none⟩ = some (.int .u64 t) := (blk_cell (S3.blk 0 rfl) 1).trans rfl; have z2 : w3.cell? ⟨gM, 2, none⟩ = some (.slice A2 By2.length c2) := (blk_cell (S3.blk 0 rfl) 2).trans rfl; have z3 : w3.cell? ⟨gM, 3, none⟩ = some (.int .u8 o2) := (blk_cell (S3.blk 0 rfl) 3).trans rfl)
    | (go_at_call 24; refine (HL2.out _ S3.below).mono ?_; rintro e w4 ⟨rfl, hb⟩; have S4 := S3.call hb; clear S3 hb z0 z1 z2 z3; have z0 : w4.cell? ⟨gR, 0, none⟩ = some (.int .u64 a) := (blk_cell (S4.blk 1 rfl) 0).trans rfl; have z1 : w4.cell? ⟨gR, 1, none⟩ = some (.int .u64 b) := (blk_cell (S4.blk 1 rfl) 1).trans rfl; have z2 : w4.cell? ⟨gR, 2, none⟩ = some (.slice A By.length c) := (blk_cell (S4.blk 1 rfl) 2).trans rfl; have z3 : w4.cell? ⟨gR, 3, none⟩ = some (.int .u8 o) := (blk_cell (S4.blk 1 rfl) 3).trans rfl)
    | (go_at_call 26; refine (HB.out _ S4.below).mono ?_; rintro e w5 ⟨g, A5, c5, rfl, hc5, hs⟩; have S5 := S4.join0 hs; have HC5 := Aside0.mk hc5; clear S4 hs hc5 z0 z1 z2 z3)
    | ((with_reducible refine gate_dst (N := 6) rfl ?_); refine box_event ?hg (N := 6) ?hd (cs := #[.int .u64 0, .int .u64 0, .slice none 0 0, .slice none 0 0]) (t := 66) ?hr ?_; (case hd => rfl); (case hg => rfl); (case hr => first | (go_simp; done) | (go_simp; rfl)); intro gW hg_ w6 hbB hb; have S6 := S5.box hg_ hb hbB; clear S5 hg_ hbB hb; have z0 : w6.cell? ⟨gW, 0, none⟩ = some (.int .u64 0) := (blk_cell (S6.blk 0 rfl) 0).trans rfl; have fz0 : w6.frozen? ⟨gW, 0, none⟩ = false := blk_frozen (S6.blk 0 rfl) 0; have z1 : w6.cell? ⟨gW, 1, none⟩ = some (.int .u64 0) := (blk_cell (S6.blk 0 rfl) 1).trans rfl; have fz1 : w6.frozen? ⟨gW, 1, none⟩ = false := blk_frozen (S6.blk 0 rfl) 1; have z2 : w6.cell? ⟨gW, 2, none⟩ = some (.slice none 0 0) := (blk_cell (S6.blk 0 rfl) 2).trans rfl; have fz2 : w6.frozen? ⟨gW, 2, none⟩ = false := blk_frozen (S6.blk 0 rfl) 2; have z3 : w6.cell? ⟨gW, 3, none⟩ = some (.slice none 0 0) := (blk_cell (S6.blk 0 rfl) 3).trans rfl; have fz3 : w6.frozen? ⟨gW, 3, none⟩ = false := blk_frozen (S6.blk 0 rfl) 3; have m0 : w6.cell? ⟨gM, 0, none⟩ = some (.int .u64 i) := (blk_cell (S6.blk 3 rfl) 0).trans rfl; have m1 : w6.cell? ⟨gM, 1, none⟩ = some (.int .u64 t) := (blk_cell (S6.blk 3 rfl) 1).trans rfl; have m2 : w6.cell? ⟨gM, 2, none⟩ = some (.slice A2 By2.length c2) := (blk_cell (S6.blk 3 rfl) 2).trans rfl; have m3 : w6.cell? ⟨gM, 3, none⟩ = some (.int .u8 o2) := (blk_cell (S6.blk 3 rfl) 3).trans rfl; have nwm : gW ≠ gM := S6.ne 0 3 rfl rfl (by decide); have nwm' := Ne.symm nwm)
    | (go_at_call 30; refine Calls.named ?_; intro w7 hw7; have S7 : St W (fun _ => False) w7 [Pt gW #[.int .u64 a, .int .u64 b, .slice none 0 0, .slice A5 (pl xs).length c5] 66, ChP g a b xs, Vw k63 A5 (pl xs).length (pl xs), Pt gM #[.int .u64 i, .int .u64 t, .slice A2 By2.length c2, .int .u8 o2] 60, Pt gR #[.int .u64 a, .int .u64 b, .slice A By.length c, .int .u8 o] 60] := (by rw [hw7]; exact (((S6.put 0 _ rfl).put 1 _ rfl).put 2 _ rfl).put 3 _ rfl); clear hw7 S6 z0 z1 z2 z3 fz0 fz1 fz2 fz3 m0 m1 m2 m3 nwm nwm'; refine (HE.out _ S7.below).mono ?_; rintro e w8 ⟨v, rfl, hR, hb⟩; obtain ⟨A8, c8, e8⟩ := Kd.R_slice (Kd.S_R hR); subst e8; have S8 := S7.row hb (Kd.S_R hR); clear S7 hR hb; have m0 : w8.cell? ⟨gM, 0, none⟩ = some (.int .u64 i) := (blk_cell (S8.blk 4 rfl) 0).trans rfl; have m1 : w8.cell? ⟨gM, 1, none⟩ = some (.int .u64 t) := (blk_cell (S8.blk 4 rfl) 1).trans rfl; have m2 : w8.cell? ⟨gM, 2, none⟩ = some (.slice A2 By2.length c2) := (blk_cell (S8.blk 4 rfl) 2).trans rfl; have m3 : w8.cell? ⟨gM, 3, none⟩ = some (.int .u8 o2) := (blk_cell (S8.blk 4 rfl) 3).trans rfl)
    | (go_at_call 31; obtain ⟨ok8, hR8⟩ := S8.rd 0 rfl; have hR8' := Kd.R_reads' hR8; refine (chain_join w8 g a b xs (S8.ch 2 rfl) i t HI.out A8 c8 l hR8'.2.2 hR8'.2.1 (by have := HLN.out; omega) HSM.out HRG.out).mono ?_; rintro e w9 ⟨v, rfl, hR, hb⟩; obtain ⟨A9, c9, e9⟩ := Kd.R_slice hR; subst e9; rw [HJ.out] at hR; rw [HJ.out]; have S9 := S8.row hb hR; clear S8 hb hR hR8 hR8' m0 m1 m2 m3)
    | (go_at_call 32; obtain ⟨F9, hA9, _, _, hjn9⟩ := (S9.front 3 rfl).joinR; refine (chain_cut w9 F9 g a b xs hA9 r1 HC1.out.2.2 HC1.out.1 HC1.out.2.1).mono ?_; rintro e w10 ⟨rfl, hs⟩; rw [HYS.out] at hs; have S10 := hjn9 _ _ hs; clear S9 hA9 hjn9 hs)
    | (go_at_call 33; obtain ⟨F10, hA10, _, hrd10, hjn10⟩ := S10.joinR; refine (chain_append w10 F10 g a b ys hA10 A9 c9 r2 (fun W' hf => by obtain ⟨G, hst⟩ := hrd10 W' hf; obtain ⟨ok, hR⟩ := hst.rd 0 rfl; exact (Kd.R_reads' hR).2.2) (by obtain ⟨ok, hR⟩ := S10.rd 1 rfl; exact (Kd.R_reads' hR).2.1) 100001 (by rw [stands_eval r2 (by have := HLA.out; omega) _ _ (by have := HLA.out; omega), HAP.out]) HRA.out (by have := HLA.out; omega)).mono ?_; rintro e w11 ⟨rfl, hs⟩; rw [HZS.out] at hs; have S11 := hjn10 _ _ hs; clear S10 hA10 hrd10 hjn10 hs))
  have HCH : Aside0 (∀ W', Below w11.heap.size w11 W' → Ch W' g a b zs) := ⟨fun W' hb => (S11.ch 0 rfl).below hb⟩
  have HLL : Aside0 (∀ W', Below w11.heap.size w11 W' → KE.C W' A8 l.length l ∧ l.length ≤ c8) := ⟨fun W' hb => by obtain ⟨ok, hR⟩ := S11.rd 2 rfl; have h2 := Kd.R_reads' hR; exact ⟨Kd.C_below h2.2.2 hb, h2.2.1⟩⟩
  have HPP : Aside0 (∀ W', Below w11.heap.size w11 W' → k63.C W' A5 (pl xs).length (pl xs)) := ⟨fun W' hb => Kd.C_below (S11.vw 4 rfl) hb⟩
  have HGW : Aside0 (∀ W', Below w11.heap.size w11 W' → W'.heap[gW]? = some (.cells #[.int .u64 a, .int .u64 b, .slice none 0 0, .slice A5 (pl xs).length c5] 66 (0, 0))) := ⟨fun W' hb => blk_below (S11.blk 3 rfl) hb⟩
  have HGM : Aside0 (∀ W', Below w11.heap.size w11 W' → W'.heap[gM]? = some (.cells #[.int .u64 i, .int .u64 t, .slice A2 By2.length c2, .int .u8 o2] 60 (0, 0))) := ⟨fun W' hb => blk_below (S11.blk 5 rfl) hb⟩
  have HB11 := Aside0.mk S11.below
  have HBB := Aside0.mk (Below.refl w11.heap.size w11)
  clear S11
  go_wp2
  go_loopg [89] l.length (fun kq v89 wr => ∃ j : Int, v89 = .int .i64 j ∧ Aside0 (0 ≤ j ∧ j + kq = l.length) ∧ Aside0 (Below w11.heap.size w11 wr))
  case atStart => exact ⟨0, rfl, ⟨by omega⟩, HBB⟩
  case round =>
    clear HBB
    obtain ⟨j, rfl, HJJ, HBR⟩ := hrel
    by_cases hlt : j < (l.length : Int)
    · have hd : decide (j < (l.length : Int)) = true := decide_eq_true hlt
      have hj0 : 0 ≤ j := HJJ.out.1
      obtain ⟨ad, Ax, cx, e1, x0, x1, x2, _, _⟩ := at_T78 (HLL.out _ HBR.out).1 j hj0 hlt
      subst e1
      have hmem : rd_T78 l j ∈ l := List.mem_of_getElem? (rd_some hj0 hlt)
      generalize rd_T78 l j = x at x0 x1 x2 hmem
      have HX := Aside0.mk (HRG.out x hmem)
      obtain ⟨er, eb, he⟩ : ∃ er eb, entryF a zs x.f0 = (er, eb) := ⟨_, _, rfl⟩
      have HE2 := Aside0.mk he
      have hth := HTH.out x hmem
      rw [he] at hth
      have p1 := eq_true hj0
      have p2 := eq_true hlt
      have HLT := Aside0.mk hlt
      have S13 := St.start wr (fun _ => False)
      clear hlt hj0 hmem he
      by_cases hgt : x.f0 > a
      · obtain ⟨q1, q2⟩ := hth hgt
        have dn : (er.f1 != x.f1) = false := bne_eq_false_iff_eq.mpr q2
        have dg : decide (x.f0 > a) = true := decide_eq_true hgt
        replace q1 : eb = true := q1
        subst q1
        clear q2 hgt hth
        go_wp2_with (first
          | ((with_reducible refine gate_dst (N := 13) rfl ?_); refine box_event ?hg (N := 13) ?hd (cs := #[.int .u64 0, .int .u64 0, .slice none 0 0]) (t := 78) ?hr ?_; (case hd => rfl); (case hg => rfl); (case hr => first | (go_simp; done) | (go_simp; rfl)); intro gx hg_ w13 hbB hb; have S14 := S13.box hg_ hb hbB; clear S13 hg_ hbB hb; have y0 : w13.cell? ⟨gx, 0, none⟩ = some (.int .u64 0) := (blk_cell (S14.blk 0 rfl) 0).trans rfl; have fy0 : w13.frozen? ⟨gx, 0, none⟩ = false := blk_frozen (S14.blk 0 rfl) 0; have y1 : w13.cell? ⟨gx, 1, none⟩ = some (.int .u64 0) := (blk_cell (S14.blk 0 rfl) 1).trans rfl; have fy1 : w13.frozen? ⟨gx, 1, none⟩ = false := blk_frozen (S14.blk 0 rfl) 1; have y2 : w13.cell? ⟨gx, 2, none⟩ = some (.slice none 0 0) := (blk_cell (S14.blk 0 rfl) 2).trans rfl; have fy2 : w13.frozen? ⟨gx, 2, none⟩ = false := blk_frozen (S14.blk 0 rfl) 2; clear x0 x1 x2)
          | (go_at_call 34; refine Calls.named ?_; intro w14 hw14; have S15 : St wr (fun _ => False) w14 [Pt gx #[.int .u64 x.f0, .int .u64 x.f1, .slice Ax x.f2.length cx] 78] := (by rw [hw14]; exact ((S14.put 0 _ rfl).put 1 _ rfl).put 2 _ rfl); clear hw14 S14 y0 y1 y2 fy0 fy1 fy2; refine (chain_entry w14 g a b zs (HCH.out _ (below_step HBR.out S15.below)) x.f0 HX.out er _ HE2.out).mono ?_; rintro e w15 ⟨v, rfl, hR, hb⟩; obtain ⟨Ay, cy, e15⟩ := Kd.R_slice hR; subst e15; have S16 := S15.row hb hR; clear S15 hR hb)
          | ((with_reducible refine gate_dst (N := 14) rfl ?_); refine box_event ?hg (N := 14) ?hd (cs := #[.int .u64 0, .int .u64 0, .slice none 0 0]) (t := 78) ?hr ?_; (case hd => rfl); (case hg => rfl); (case hr => first | (go_simp; done) | (go_simp; rfl)); intro gy hg_ w16 hbB hb; have S17 := S16.box hg_ hb hbB; clear S16 hg_ hbB hb; have y0 : w16.cell? ⟨gy, 0, none⟩ = some (.int .u64 0) := (blk_cell (S17.blk 0 rfl) 0).trans rfl; have fy0 : w16.frozen? ⟨gy, 0, none⟩ = false := blk_frozen (S17.blk 0 rfl) 0; have y1 : w16.cell? ⟨gy, 1, none⟩ = some (.int .u64 0) := (blk_cell (S17.blk 0 rfl) 1).trans rfl; have fy1 : w16.frozen? ⟨gy, 1, none⟩ = false := blk_frozen (S17.blk 0 rfl) 1; have y2 : w16.cell? ⟨gy, 2, none⟩ = some (.slice none 0 0) := (blk_cell (S17.blk 0 rfl) 2).trans rfl; have fy2 : w16.frozen? ⟨gy, 2, none⟩ = false := blk_frozen (S17.blk 0 rfl) 2; have x0 : w16.cell? ⟨gx, 0, none⟩ = some (.int .u64 x.f0) := (blk_cell (S17.blk 2 rfl) 0).trans rfl; have x1 : w16.cell? ⟨gx, 1, none⟩ = some (.int .u64 x.f1) := (blk_cell (S17.blk 2 rfl) 1).trans rfl; have x2 : w16.cell? ⟨gx, 2, none⟩ = some (.slice Ax x.f2.length cx) := (blk_cell (S17.blk 2 rfl) 2).trans rfl; have nyx : gy ≠ gx := S17.ne 0 2 rfl rfl (by decide); have nyx' := Ne.symm nyx; have hgw := HGW.out _ (below_step HBR.out S17.below); have q0 : w16.cell? ⟨gW, 0, none⟩ = some (.int .u64 a) := (blk_cell hgw 0).trans rfl; have nwy : gW ≠ gy := S17.old_ne 0 rfl (blk_lt (HGW.out _ HBR.out)); have nwy' := Ne.symm nwy; clear hgw))
        have S18 := ((S17.put 0 (.int .u64 er.f0) rfl).put 1 (.int .u64 er.f1) rfl).put 2 (.slice Ay er.f2.length cy) rfl
        have HB18 := Aside0.mk (below_step HBR.out S18.below)
        clear S17 S18
        go_roundg (gk - 1)
        case measure => have := HJJ.out; have := HLT.out; omega
        case rel =>
          have hw : wrap64 (j + 1) = j + 1 := by have := HLN.out; have := HJJ.out; have := HLT.out; unfold wrap64; omega
          exact ⟨wrap64 (j + 1), by first | rfl | (simp; done), ⟨by have := HJJ.out; have := HLT.out; omega⟩, HB18⟩
      · have dg : decide (x.f0 > a) = false := decide_eq_false hgt
        clear hgt hth
        go_wp2_with (first
          | ((with_reducible refine gate_dst (N := 13) rfl ?_); refine box_event ?hg (N := 13) ?hd (cs := #[.int .u64 0, .int .u64 0, .slice none 0 0]) (t := 78) ?hr ?_; (case hd => rfl); (case hg => rfl); (case hr => first | (go_simp; done) | (go_simp; rfl)); intro gx hg_ w13 hbB hb; have S14 := S13.box hg_ hb hbB; clear S13 hg_ hbB hb; have y0 : w13.cell? ⟨gx, 0, none⟩ = some (.int .u64 0) := (blk_cell (S14.blk 0 rfl) 0).trans rfl; have fy0 : w13.frozen? ⟨gx, 0, none⟩ = false := blk_frozen (S14.blk 0 rfl) 0; have y1 : w13.cell? ⟨gx, 1, none⟩ = some (.int .u64 0) := (blk_cell (S14.blk 0 rfl) 1).trans rfl; have fy1 : w13.frozen? ⟨gx, 1, none⟩ = false := blk_frozen (S14.blk 0 rfl) 1; have y2 : w13.cell? ⟨gx, 2, none⟩ = some (.slice none 0 0) := (blk_cell (S14.blk 0 rfl) 2).trans rfl; have fy2 : w13.frozen? ⟨gx, 2, none⟩ = false := blk_frozen (S14.blk 0 rfl) 2; clear x0 x1 x2)
          | (go_at_call 34; refine Calls.named ?_; intro w14 hw14; have S15 : St wr (fun _ => False) w14 [Pt gx #[.int .u64 x.f0, .int .u64 x.f1, .slice Ax x.f2.length cx] 78] := (by rw [hw14]; exact ((S14.put 0 _ rfl).put 1 _ rfl).put 2 _ rfl); clear hw14 S14 y0 y1 y2 fy0 fy1 fy2; refine (chain_entry w14 g a b zs (HCH.out _ (below_step HBR.out S15.below)) x.f0 HX.out er _ HE2.out).mono ?_; rintro e w15 ⟨v, rfl, hR, hb⟩; obtain ⟨Ay, cy, e15⟩ := Kd.R_slice hR; subst e15; have S16 := S15.row hb hR; clear S15 hR hb)
          | ((with_reducible refine gate_dst (N := 14) rfl ?_); refine box_event ?hg (N := 14) ?hd (cs := #[.int .u64 0, .int .u64 0, .slice none 0 0]) (t := 78) ?hr ?_; (case hd => rfl); (case hg => rfl); (case hr => first | (go_simp; done) | (go_simp; rfl)); intro gy hg_ w16 hbB hb; have S17 := S16.box hg_ hb hbB; clear S16 hg_ hbB hb; have y0 : w16.cell? ⟨gy, 0, none⟩ = some (.int .u64 0) := (blk_cell (S17.blk 0 rfl) 0).trans rfl; have fy0 : w16.frozen? ⟨gy, 0, none⟩ = false := blk_frozen (S17.blk 0 rfl) 0; have y1 : w16.cell? ⟨gy, 1, none⟩ = some (.int .u64 0) := (blk_cell (S17.blk 0 rfl) 1).trans rfl; have fy1 : w16.frozen? ⟨gy, 1, none⟩ = false := blk_frozen (S17.blk 0 rfl) 1; have y2 : w16.cell? ⟨gy, 2, none⟩ = some (.slice none 0 0) := (blk_cell (S17.blk 0 rfl) 2).trans rfl; have fy2 : w16.frozen? ⟨gy, 2, none⟩ = false := blk_frozen (S17.blk 0 rfl) 2; have x0 : w16.cell? ⟨gx, 0, none⟩ = some (.int .u64 x.f0) := (blk_cell (S17.blk 2 rfl) 0).trans rfl; have x1 : w16.cell? ⟨gx, 1, none⟩ = some (.int .u64 x.f1) := (blk_cell (S17.blk 2 rfl) 1).trans rfl; have x2 : w16.cell? ⟨gx, 2, none⟩ = some (.slice Ax x.f2.length cx) := (blk_cell (S17.blk 2 rfl) 2).trans rfl; have nyx : gy ≠ gx := S17.ne 0 2 rfl rfl (by decide); have nyx' := Ne.symm nyx; have hgw := HGW.out _ (below_step HBR.out S17.below); have q0 : w16.cell? ⟨gW, 0, none⟩ = some (.int .u64 a) := (blk_cell hgw 0).trans rfl; have nwy : gW ≠ gy := S17.old_ne 0 rfl (blk_lt (HGW.out _ HBR.out)); have nwy' := Ne.symm nwy; clear hgw))
        have S18 := ((S17.put 0 (.int .u64 er.f0) rfl).put 1 (.int .u64 er.f1) rfl).put 2 (.slice Ay er.f2.length cy) rfl
        have HB18 := Aside0.mk (below_step HBR.out S18.below)
        clear S17 S18
        go_roundg (gk - 1)
        case measure => have := HJJ.out; have := HLT.out; omega
        case rel =>
          have hw : wrap64 (j + 1) = j + 1 := by have := HLN.out; have := HJJ.out; have := HLT.out; unfold wrap64; omega
          exact ⟨wrap64 (j + 1), by first | rfl | (simp; done), ⟨by have := HJJ.out; have := HLT.out; omega⟩, HB18⟩
    · have hd : decide (j < (l.length : Int)) = false := decide_eq_false hlt
      clear hlt
      obtain ⟨wo, rfl⟩ : ∃ wo : World, wo = wr := ⟨_, rfl⟩
      have hgw := HGW.out _ HBR.out
      have q3 : wo.cell? ⟨gW, 3, none⟩ = some (.slice A5 (pl xs).length c5) := (blk_cell hgw 3).trans rfl
      clear hgw
      go_wp2
      clear q3
      go_loopg [121] (pl xs).length (fun kq v121 wr => ∃ j : Int, v121 = .int .i64 j ∧ Aside0 (0 ≤ j ∧ j + kq = (pl xs).length) ∧ Aside0 (Below w11.heap.size w11 wr))
      case atStart => exact ⟨0, rfl, ⟨by omega⟩, HBR⟩
      case round =>
        clear HJJ HBR
        obtain ⟨j2, rfl, HJJ, HBR⟩ := hrel
        by_cases hlt : j2 < ((pl xs).length : Int)
        · have hd2 : decide (j2 < ((pl xs).length : Int)) = true := decide_eq_true hlt
          have hj0 : 0 ≤ j2 := HJJ.out.1
          have hlx : j2 < (xs.length : Int) := by rw [pl_len] at hlt; exact hlt
          obtain ⟨ad, Ax, cx, e1, x0, x1, x2, _, hcx⟩ := at_T63 (HPP.out _ HBR.out) j2 hj0 hlt
          subst e1
          rw [rd_pl xs hj0 hlx] at x0 x1 x2 hcx
          have hmem : rd_T78 xs j2 ∈ xs := List.mem_of_getElem? (rd_some hj0 hlx)
          have hfx := rd_f0 HRW.out hj0 hlx
          generalize rd_T78 xs j2 = x at x0 x1 x2 hcx hmem hfx
          simp only [plE] at x0 x1 x2 hcx
          have HX : Aside0 (0 ≤ x.f0 ∧ x.f0 < 18446744073709551616) := ⟨by have := HRW.out.hi; have := HA.out; omega⟩
          have HCX := Aside0.mk hcx
          obtain ⟨er, eb, he⟩ : ∃ er eb, entryF a zs x.f0 = (er, eb) := ⟨_, _, rfl⟩
          have HE2 := Aside0.mk he
          have hth := HTS.out x hmem
          rw [he] at hth
          have p1 := eq_true hj0
          have p2 := eq_true hlt
          have HLT := Aside0.mk hlt
          have S13 := St.start wr (fun _ => False)
          clear hlt hj0 hmem he hlx hfx hcx
          by_cases hgt : x.f0 ≤ i
          · have q1 := hth hgt
            injection q1 with q1 q2
            subst q1
            subst q2
            have dg : decide (er.f0 ≤ i) = true := decide_eq_true hgt
            clear hgt hth
            go_wp2_with (first
              | ((with_reducible refine gate_dst (N := 17) rfl ?_); refine box_event ?hg (N := 17) ?hd (cs := #[.int .u64 0, .int .u64 0, .slice none 0 0]) (t := 63) ?hr ?_; (case hd => rfl); (case hg => rfl); (case hr => first | (go_simp; done) | (go_simp; rfl)); intro gx hg_ w13 hbB hb; have S14 := S13.box hg_ hb hbB; clear S13 hg_ hbB hb; have y0 : w13.cell? ⟨gx, 0, none⟩ = some (.int .u64 0) := (blk_cell (S14.blk 0 rfl) 0).trans rfl; have fy0 : w13.frozen? ⟨gx, 0, none⟩ = false := blk_frozen (S14.blk 0 rfl) 0; have y1 : w13.cell? ⟨gx, 1, none⟩ = some (.int .u64 0) := (blk_cell (S14.blk 0 rfl) 1).trans rfl; have fy1 : w13.frozen? ⟨gx, 1, none⟩ = false := blk_frozen (S14.blk 0 rfl) 1; have y2 : w13.cell? ⟨gx, 2, none⟩ = some (.slice none 0 0) := (blk_cell (S14.blk 0 rfl) 2).trans rfl; have fy2 : w13.frozen? ⟨gx, 2, none⟩ = false := blk_frozen (S14.blk 0 rfl) 2; clear x0 x1 x2)
              | (go_at_call 34; refine Calls.named ?_; intro w14 hw14; have S15 : St wr (fun _ => False) w14 [Pt gx #[.int .u64 er.f0, .int .u64 er.f1, .slice Ax er.f2.length cx] 63] := (by rw [hw14]; exact ((S14.put 0 _ rfl).put 1 _ rfl).put 2 _ rfl); clear hw14 S14 y0 y1 y2 fy0 fy1 fy2; refine (chain_entry w14 g a b zs (HCH.out _ (below_step HBR.out S15.below)) er.f0 HX.out _ _ HE2.out).mono ?_; rintro e w15 ⟨v, rfl, hR, hb⟩; obtain ⟨Ay, cy, e15⟩ := Kd.R_slice hR; subst e15; have S16 := S15.row hb hR; clear S15 hR hb)
              | ((with_reducible refine gate_dst (N := 18) rfl ?_); refine box_event ?hg (N := 18) ?hd (cs := #[.int .u64 0, .int .u64 0, .slice none 0 0]) (t := 78) ?hr ?_; (case hd => rfl); (case hg => rfl); (case hr => first | (go_simp; done) | (go_simp; rfl)); intro gy hg_ w16 hbB hb; have S17 := S16.box hg_ hb hbB; clear S16 hg_ hbB hb; have y0 : w16.cell? ⟨gy, 0, none⟩ = some (.int .u64 0) := (blk_cell (S17.blk 0 rfl) 0).trans rfl; have fy0 : w16.frozen? ⟨gy, 0, none⟩ = false := blk_frozen (S17.blk 0 rfl) 0; have y1 : w16.cell? ⟨gy, 1, none⟩ = some (.int .u64 0) := (blk_cell (S17.blk 0 rfl) 1).trans rfl; have fy1 : w16.frozen? ⟨gy, 1, none⟩ = false := blk_frozen (S17.blk 0 rfl) 1; have y2 : w16.cell? ⟨gy, 2, none⟩ = some (.slice none 0 0) := (blk_cell (S17.blk 0 rfl) 2).trans rfl; have fy2 : w16.frozen? ⟨gy, 2, none⟩ = false := blk_frozen (S17.blk 0 rfl) 2; have x0 : w16.cell? ⟨gx, 0, none⟩ = some (.int .u64 er.f0) := (blk_cell (S17.blk 2 rfl) 0).trans rfl; have x1 : w16.cell? ⟨gx, 1, none⟩ = some (.int .u64 er.f1) := (blk_cell (S17.blk 2 rfl) 1).trans rfl; have x2 : w16.cell? ⟨gx, 2, none⟩ = some (.slice Ax er.f2.length cx) := (blk_cell (S17.blk 2 rfl) 2).trans rfl; have nyx : gy ≠ gx := S17.ne 0 2 rfl rfl (by decide); have nyx' := Ne.symm nyx; have hgm := HGM.out _ (below_step HBR.out S17.below); have q0 : w16.cell? ⟨gM, 0, none⟩ = some (.int .u64 i) := (blk_cell hgm 0).trans rfl; have nmy : gM ≠ gy := S17.old_ne 0 rfl (blk_lt (HGM.out _ HBR.out)); have nmy' := Ne.symm nmy; clear hgm; have S18 := ((S17.put 0 (.int .u64 er.f0) rfl).put 1 (.int .u64 er.f1) rfl).put 2 (.slice Ay er.f2.length cy) rfl; obtain ⟨ok18, hR18⟩ := S18.rd 1 rfl; have hcv1 := Kd.C_string (P := Try.prog) (c := cy) Try.underlying22 Try.underlying5 Try.underlying9 (Kd.R_reads' hR18).2.2; have hcv2 := Kd.C_string (P := Try.prog) (c := cx) Try.underlying22 Try.underlying5 Try.underlying9 (Kd.C_below HCX.out S18.below); have HB18 := Aside0.mk (below_step HBR.out S18.below); clear S17 S18 hR18))
            go_roundg (gk - 1)
            case measure => have := HJJ.out; have := HLT.out; omega
            case rel =>
              have hw : wrap64 (j2 + 1) = j2 + 1 := by have := HLN.out; have := HJJ.out; have := HLT.out; have := pl_len xs; unfold wrap64; omega
              exact ⟨wrap64 (j2 + 1), by first | rfl | (simp; done), ⟨by have := HJJ.out; have := HLT.out; omega⟩, HB18⟩
          · have dg : decide (x.f0 ≤ i) = false := decide_eq_false hgt
            clear hgt hth
            go_wp2_with (first
              | ((with_reducible refine gate_dst (N := 17) rfl ?_); refine box_event ?hg (N := 17) ?hd (cs := #[.int .u64 0, .int .u64 0, .slice none 0 0]) (t := 63) ?hr ?_; (case hd => rfl); (case hg => rfl); (case hr => first | (go_simp; done) | (go_simp; rfl)); intro gx hg_ w13 hbB hb; have S14 := S13.box hg_ hb hbB; clear S13 hg_ hbB hb; have y0 : w13.cell? ⟨gx, 0, none⟩ = some (.int .u64 0) := (blk_cell (S14.blk 0 rfl) 0).trans rfl; have fy0 : w13.frozen? ⟨gx, 0, none⟩ = false := blk_frozen (S14.blk 0 rfl) 0; have y1 : w13.cell? ⟨gx, 1, none⟩ = some (.int .u64 0) := (blk_cell (S14.blk 0 rfl) 1).trans rfl; have fy1 : w13.frozen? ⟨gx, 1, none⟩ = false := blk_frozen (S14.blk 0 rfl) 1; have y2 : w13.cell? ⟨gx, 2, none⟩ = some (.slice none 0 0) := (blk_cell (S14.blk 0 rfl) 2).trans rfl; have fy2 : w13.frozen? ⟨gx, 2, none⟩ = false := blk_frozen (S14.blk 0 rfl) 2; clear x0 x1 x2)
              | (go_at_call 34; refine Calls.named ?_; intro w14 hw14; have S15 : St wr (fun _ => False) w14 [Pt gx #[.int .u64 x.f0, .int .u64 x.f1, .slice Ax x.f2.length cx] 63] := (by rw [hw14]; exact ((S14.put 0 _ rfl).put 1 _ rfl).put 2 _ rfl); clear hw14 S14 y0 y1 y2 fy0 fy1 fy2; refine (chain_entry w14 g a b zs (HCH.out _ (below_step HBR.out S15.below)) x.f0 HX.out _ _ HE2.out).mono ?_; rintro e w15 ⟨v, rfl, hR, hb⟩; obtain ⟨Ay, cy, e15⟩ := Kd.R_slice hR; subst e15; have S16 := S15.row hb hR; clear S15 hR hb)
              | ((with_reducible refine gate_dst (N := 18) rfl ?_); refine box_event ?hg (N := 18) ?hd (cs := #[.int .u64 0, .int .u64 0, .slice none 0 0]) (t := 78) ?hr ?_; (case hd => rfl); (case hg => rfl); (case hr => first | (go_simp; done) | (go_simp; rfl)); intro gy hg_ w16 hbB hb; have S17 := S16.box hg_ hb hbB; clear S16 hg_ hbB hb; have y0 : w16.cell? ⟨gy, 0, none⟩ = some (.int .u64 0) := (blk_cell (S17.blk 0 rfl) 0).trans rfl; have fy0 : w16.frozen? ⟨gy, 0, none⟩ = false := blk_frozen (S17.blk 0 rfl) 0; have y1 : w16.cell? ⟨gy, 1, none⟩ = some (.int .u64 0) := (blk_cell (S17.blk 0 rfl) 1).trans rfl; have fy1 : w16.frozen? ⟨gy, 1, none⟩ = false := blk_frozen (S17.blk 0 rfl) 1; have y2 : w16.cell? ⟨gy, 2, none⟩ = some (.slice none 0 0) := (blk_cell (S17.blk 0 rfl) 2).trans rfl; have fy2 : w16.frozen? ⟨gy, 2, none⟩ = false := blk_frozen (S17.blk 0 rfl) 2; have x0 : w16.cell? ⟨gx, 0, none⟩ = some (.int .u64 x.f0) := (blk_cell (S17.blk 2 rfl) 0).trans rfl; have x1 : w16.cell? ⟨gx, 1, none⟩ = some (.int .u64 x.f1) := (blk_cell (S17.blk 2 rfl) 1).trans rfl; have x2 : w16.cell? ⟨gx, 2, none⟩ = some (.slice Ax x.f2.length cx) := (blk_cell (S17.blk 2 rfl) 2).trans rfl; have nyx : gy ≠ gx := S17.ne 0 2 rfl rfl (by decide); have nyx' := Ne.symm nyx; have hgm := HGM.out _ (below_step HBR.out S17.below); have q0 : w16.cell? ⟨gM, 0, none⟩ = some (.int .u64 i) := (blk_cell hgm 0).trans rfl; have nmy : gM ≠ gy := S17.old_ne 0 rfl (blk_lt (HGM.out _ HBR.out)); have nmy' := Ne.symm nmy; clear hgm; have S18 := ((S17.put 0 (.int .u64 er.f0) rfl).put 1 (.int .u64 er.f1) rfl).put 2 (.slice Ay er.f2.length cy) rfl; obtain ⟨ok18, hR18⟩ := S18.rd 1 rfl; have hcv1 := Kd.C_string (P := Try.prog) (c := cy) Try.underlying22 Try.underlying5 Try.underlying9 (Kd.R_reads' hR18).2.2; have hcv2 := Kd.C_string (P := Try.prog) (c := cx) Try.underlying22 Try.underlying5 Try.underlying9 (Kd.C_below HCX.out S18.below); have HB18 := Aside0.mk (below_step HBR.out S18.below); clear S17 S18 hR18))
            go_roundg (gk - 1)
            case measure => have := HJJ.out; have := HLT.out; omega
            case rel =>
              have hw : wrap64 (j2 + 1) = j2 + 1 := by have := HLN.out; have := HJJ.out; have := HLT.out; have := pl_len xs; unfold wrap64; omega
              exact ⟨wrap64 (j2 + 1), by first | rfl | (simp; done), ⟨by have := HJJ.out; have := HLT.out; omega⟩, HB18⟩
        · have hd2 : decide (j2 < ((pl xs).length : Int)) = false := decide_eq_false hlt
          clear hlt
          obtain ⟨wo2, rfl⟩ : ∃ wo2 : World, wo2 = wr := ⟨_, rfl⟩
          have hgm := HGM.out _ HBR.out
          have q0 : wo2.cell? ⟨gM, 0, none⟩ = some (.int .u64 i) := (blk_cell hgm 0).trans rfl
          have q1 : wo2.cell? ⟨gM, 1, none⟩ = some (.int .u64 t) := (blk_cell hgm 1).trans rfl
          clear hgm
          go_wp2_with (first
            | (go_at_call 31; have h2 := HLL.out _ HBR.out; refine (chain_join wo2 g a b zs (HCH.out _ HBR.out) i t HI.out A8 c8 l h2.1 h2.2 (by have := HLN.out; omega) HSM.out HRG.out).mono ?_; rintro e w20 ⟨v, rfl, hR, hb⟩; rw [HAG.out] at hR; rw [HAG.out]; obtain ⟨A20, c20, e20⟩ := Kd.R_slice hR; subst e20; have HB20 := Aside0.mk (below_step HBR.out hb); clear hR hb h2 q0 q1)
            | (go_at_call 25; refine (chain_lives _).mono ?_; rintro e w21 ⟨rfl, hb⟩; have HB21 := Aside0.mk (below_step HB20.out hb); clear hb))
          go_ret
          exact ⟨rfl, below_step HB11.out HB21.out⟩

set_option maxHeartbeats 16000000 in
set_option maxRecDepth 100000 in
theorem joins_nocut (W : World) (a b o i t o2 : Int) (A : Option Addr) (c : Nat) (By : List Int) (A2 : Option Addr) (c2 : Nat) (By2 : List Int) (hC : (Kd.int .u8).C W A By.length By) (hc : By.length ≤ c) (hC2 : (Kd.int .u8).C W A2 By2.length By2) (hc2 : By2.length ≤ c2) (h60 : By.length ≤ 60) (h61 : By2.length ≤ 60) (xs : List SE) (hxs : jobberlaw38_Run_entries.f 61 a b By o = some xs) (hx : Ents xs By.length) (hg : standG a b xs = true) (ha : 0 ≤ a ∧ a < 18446744073709551616) (l : List SE) (hls : jobberlaw38_Run_entries.f 61 i t By2 o2 = some l) (hl : Ents l By2.length) (hi : 0 ≤ i ∧ i < 18446744073709551616) (hj : (joinA a b xs i t l).2.2 = true) (hne : (joinA a b xs i t l).1 = 0) :
    Calls Try.prog 8 #[.agg #[.int .u64 a, .int .u64 b, .slice A By.length c, .int .u8 o], .agg #[.int .u64 i, .int .u64 t, .slice A2 By2.length c2, .int .u8 o2]] W fun e w' => e = .returned (.bool true) ∧ Below W.heap.size W w' := by
  have hu := Try.underlying60
  have hu2 := Try.underlying66
  have hu3 := Try.underlying78
  have hu4 := Try.underlying63
  have S0 := St.start W (fun _ => False)
  have HL1 : Aside0 (∀ W', Below W.heap.size W W' → Calls Try.prog 24 #[.agg #[.int .u64 a, .int .u64 b, .slice A By.length c, .int .u8 o]] W' fun e w' => e = .returned (.bool true) ∧ Below W'.heap.size W' w') := ⟨fun W' hb => jobberlaw38_Run_light.calls a b A c By o true W' (Kd.C_below hC hb) hc (by unfold jobberlaw38_Run_light.f; rw [decide_eq_true (by omega)])⟩
  have HL2 : Aside0 (∀ W', Below W.heap.size W W' → Calls Try.prog 24 #[.agg #[.int .u64 i, .int .u64 t, .slice A2 By2.length c2, .int .u8 o2]] W' fun e w' => e = .returned (.bool true) ∧ Below W'.heap.size W' w') := ⟨fun W' hb => jobberlaw38_Run_light.calls i t A2 c2 By2 o2 true W' (Kd.C_below hC2 hb) hc2 (by unfold jobberlaw38_Run_light.f; rw [decide_eq_true (by omega)])⟩
  have HB : Aside0 (∀ W', Below W.heap.size W W' → Calls Try.prog 26 #[.agg #[.int .u64 a, .int .u64 b, .slice A By.length c, .int .u8 o]] W' fun e w' => ∃ g A5 c5, e = .returned (.tuple #[.pointer (some ⟨g, 0, none⟩), .agg #[.int .u64 a, .int .u64 b, .slice none 0 0, .slice A5 (pl xs).length c5], .bool true]) ∧ (pl xs).length ≤ c5 ∧ St W' (fun _ => False) w' [ChP g a b xs, Vw k63 A5 (pl xs).length (pl xs)]) := ⟨fun W' hb => both_good W' a b o A c By (Kd.C_below hC hb) hc h60 xs hxs hx hg ha⟩
  have HE : Aside0 (∀ W', Below W.heap.size W W' → Calls Try.prog 30 #[.agg #[.int .u64 i, .int .u64 t, .slice A2 By2.length c2, .int .u8 o2]] W' fun e w' => ∃ v0_ : Value, e = .returned (v0_) ∧ Kd.S KE 78 w' W'.heap.size (fun _ => True) v0_ l ∧ Below W'.heap.size W' w') := ⟨fun W' hb => jobberlaw38_Run_entries.calls 61 i t A2 c2 By2 o2 l W' (Kd.C_below hC2 hb) hc2 hls⟩
  have HRW : Aside0 (Row a xs) := ⟨stand_row xs a b ha.1 ha.2 (by rw [hx.len]; omega) (fun x hm => by rw [hx.bod x hm]; omega) (fun x hm => (hx.rng x hm).1) hg⟩
  have HLN : Aside0 (l.length ≤ 60 ∧ xs.length ≤ 60) := ⟨by rw [hl.len]; exact h61, by rw [hx.len]; exact h60⟩
  have HSM : Aside0 (∀ x ∈ l, x.f2.length ≤ 1000000) := ⟨fun x hm => by rw [hl.bod x hm]; omega⟩
  have HRG : Aside0 (∀ x ∈ l, 0 ≤ x.f0 ∧ x.f0 < 18446744073709551616) := ⟨fun x hm => (hl.rng x hm).1⟩
  have HI := Aside0.mk hi
  have HA := Aside0.mk ha
  obtain ⟨i', T, l', k, T', J⟩ := joined_ex a b xs ha.1 i t l hi.1 (fun x hm => (hl.rng x hm).1) hj
  have hrl : Row i l := stand_row l i t hi.1 hi.2 (by rw [hl.len]; omega) (fun x hm => by rw [hl.bod x hm]; omega) (fun x hm => (hl.rng x hm).1) (by
    unfold joinA at hj
    by_cases c0 : standG i t l = false
    · rw [if_pos c0] at hj; cases hj
    · simpa using c0)
  have hrl' : Row i' l' := by
    rw [J.part]
    by_cases c : i' ≤ i + l.length
    · exact hrl.drop J.le c
    · rw [List.drop_of_length_le (by have := J.le; omega)]
      have hlow := J.low (by omega)
      exact ⟨fun j x hx => by simp at hx, by omega, by simp; omega, by simp, fun x hx => by simp at hx⟩
  have hrx : Row a xs := stand_row xs a b ha.1 ha.2 (by rw [hx.len]; omega) (fun x hm => by rw [hx.bod x hm]; omega) (fun x hm => (hx.rng x hm).1) hg
  have HTH : Aside0 (∀ x ∈ l, x.f0 > a → (entryF a (after a i' xs l' k) x.f0).2 = true ∧ (entryF a (after a i' xs l' k) x.f0).1.f1 = x.f1) := ⟨J.there hrl hrl'⟩
  have HTS : Aside0 (∀ x ∈ xs, x.f0 ≤ i → entryF a (after a i' xs l' k) x.f0 = (x, true)) := ⟨J.stays hrx⟩
  have HAG : Aside0 (joinA a b (after a i' xs l' k) i t l = (0, [], true)) := ⟨J.again hrl'⟩
  have hgood := J.scan.good
  have hladd : (joinA a b xs i t l).2.1.length ≤ 60 ∧ ∀ x ∈ (joinA a b xs i t l).2.1, x ∈ l := by
    rw [J.scan.add, J.part]
    exact ⟨by rw [List.length_drop, List.length_drop, hl.len]; omega, fun x hx => List.mem_of_mem_drop (List.mem_of_mem_drop hx)⟩
  have hap : standG (a + xs.length) (lastT b xs) (joinA a b xs i t l).2.1 = true ∧ xs ++ (joinA a b xs i t l).2.1 = after a i' xs l' k := by
    by_cases hkl : k < l'.length
    · have h1 := J.nocut ha.1 hne hkl
      have h2 := J.appendok
      rw [h1] at h2
      refine ⟨h2, ?_⟩
      unfold after
      rw [if_pos hkl, h1, J.scan.add]
    · have h1 := (J.none hkl).1
      rw [h1]
      unfold after
      rw [if_neg hkl, List.append_nil]
      exact ⟨rfl, rfl⟩
  obtain ⟨hap, hzs⟩ := hap
  obtain ⟨r1, r2, r3, hJ⟩ : ∃ r1 r2 r3, joinA a b xs i t l = (r1, r2, r3) := ⟨_, _, _, rfl⟩
  rw [hJ] at hap hzs hgood hladd hne
  replace hgood : r3 = true := hgood
  replace hne : r1 = 0 := hne
  subst hgood
  subst hne
  simp only at hap hzs hladd
  obtain ⟨zs, hzz⟩ : ∃ zs, after a i' xs l' k = zs := ⟨_, rfl⟩
  rw [hzz] at HTH HTS HAG hzs
  have hl1 : xs.length ≤ 60 := by rw [hx.len]; exact h60
  have HRA : Aside0 (Row (a + xs.length) r2) := ⟨stand_row r2 _ _ (by have := ha.1; omega) (by have := hrx.hi; omega) (by omega) (fun x hm => by rw [hl.bod x (hladd.2 x hm)]; omega) (fun x hm => (hl.rng x (hladd.2 x hm)).1) hap⟩
  have HJ := Aside0.mk hJ
  have HAP := Aside0.mk hap
  have HZS := Aside0.mk hzs
  have HLA : Aside0 (r2.length ≤ 60 ∧ xs.length ≤ 60) := ⟨hladd.1, hl1⟩
  clear J hrl hrl' hrx hladd hap hzs hzz hJ hl1  hC hc hC2 hc2 h60 h61 hxs hx hg ha hls hl hi hj
  go_enter Try.func8, Try.ntmps8
  go_upto_block 0 with (first
    | ((with_reducible refine gate_dst (N := 2) rfl ?_); refine box_event ?hg (N := 2) ?hd (cs := #[.int .u64 a, .int .u64 b, .slice A By.length c, .int .u8 o]) (t := 60) ?hr ?_; (case hd => rfl); (case hg => rfl); (case hr => first | (go_simp; done) | (go_simp; rfl)); intro gR hg_ w1 hbB hb; have S1 := S0.box hg_ hb hbB; clear S0 hg_ hbB hb)
    | ((with_reducible refine gate_dst (N := 3) rfl ?_); refine box_event ?hg (N := 3) ?hd (cs := #[.int .u64 i, .int .u64 t, .slice A2 By2.length c2, .int .u8 o2]) (t := 60) ?hr ?_; (case hd => rfl); (case hg => rfl); (case hr => first | (go_simp; done) | (go_simp; rfl)); intro gM hg_ w2 hbB hb; have S2 := S1.box hg_ hb hbB; clear S1 hg_ hbB hb; have z0 : w2.cell? ⟨gR, 0, none⟩ = some (.int .u64 a) := (blk_cell (S2.blk 1 rfl) 0).trans rfl; have z1 : w2.cell? ⟨gR, 1, none⟩ = some (.int .u64 b) := (blk_cell (S2.blk 1 rfl) 1).trans rfl; have z2 : w2.cell? ⟨gR, 2, none⟩ = some (.slice A By.length c) := (blk_cell (S2.blk 1 rfl) 2).trans rfl; have z3 : w2.cell? ⟨gR, 3, none⟩ = some (.int .u8 o) := (blk_cell (S2.blk 1 rfl) 3).trans rfl)
    | (go_at_call 24; refine (HL1.out _ S2.below).mono ?_; rintro e w3 ⟨rfl, hb⟩; have S3 := S2.call hb; clear S2 hb z0 z1 z2 z3; have z0 : w3.cell? ⟨gM, 0, none⟩ = some (.int .u64 i) := (blk_cell (S3.blk 0 rfl) 0).trans rfl; have z1 : w3.cell? ⟨gM, 1, none⟩ = some (.int .u64 t) := (blk_cell (S3.blk 0 rfl) 1).trans rfl; have z2 : w3.cell? ⟨gM, 2, none⟩ = some (.slice A2 By2.length c2) := (blk_cell (S3.blk 0 rfl) 2).trans rfl; have z3 : w3.cell? ⟨gM, 3, none⟩ = some (.int .u8 o2) := (blk_cell (S3.blk 0 rfl) 3).trans rfl)
    | (go_at_call 24; refine (HL2.out _ S3.below).mono ?_; rintro e w4 ⟨rfl, hb⟩; have S4 := S3.call hb; clear S3 hb z0 z1 z2 z3; have z0 : w4.cell? ⟨gR, 0, none⟩ = some (.int .u64 a) := (blk_cell (S4.blk 1 rfl) 0).trans rfl; have z1 : w4.cell? ⟨gR, 1, none⟩ = some (.int .u64 b) := (blk_cell (S4.blk 1 rfl) 1).trans rfl; have z2 : w4.cell? ⟨gR, 2, none⟩ = some (.slice A By.length c) := (blk_cell (S4.blk 1 rfl) 2).trans rfl; have z3 : w4.cell? ⟨gR, 3, none⟩ = some (.int .u8 o) := (blk_cell (S4.blk 1 rfl) 3).trans rfl)
    | (go_at_call 26; refine (HB.out _ S4.below).mono ?_; rintro e w5 ⟨g, A5, c5, rfl, hc5, hs⟩; have S5 := S4.join0 hs; have HC5 := Aside0.mk hc5; clear S4 hs hc5 z0 z1 z2 z3)
    | ((with_reducible refine gate_dst (N := 6) rfl ?_); refine box_event ?hg (N := 6) ?hd (cs := #[.int .u64 0, .int .u64 0, .slice none 0 0, .slice none 0 0]) (t := 66) ?hr ?_; (case hd => rfl); (case hg => rfl); (case hr => first | (go_simp; done) | (go_simp; rfl)); intro gW hg_ w6 hbB hb; have S6 := S5.box hg_ hb hbB; clear S5 hg_ hbB hb; have z0 : w6.cell? ⟨gW, 0, none⟩ = some (.int .u64 0) := (blk_cell (S6.blk 0 rfl) 0).trans rfl; have fz0 : w6.frozen? ⟨gW, 0, none⟩ = false := blk_frozen (S6.blk 0 rfl) 0; have z1 : w6.cell? ⟨gW, 1, none⟩ = some (.int .u64 0) := (blk_cell (S6.blk 0 rfl) 1).trans rfl; have fz1 : w6.frozen? ⟨gW, 1, none⟩ = false := blk_frozen (S6.blk 0 rfl) 1; have z2 : w6.cell? ⟨gW, 2, none⟩ = some (.slice none 0 0) := (blk_cell (S6.blk 0 rfl) 2).trans rfl; have fz2 : w6.frozen? ⟨gW, 2, none⟩ = false := blk_frozen (S6.blk 0 rfl) 2; have z3 : w6.cell? ⟨gW, 3, none⟩ = some (.slice none 0 0) := (blk_cell (S6.blk 0 rfl) 3).trans rfl; have fz3 : w6.frozen? ⟨gW, 3, none⟩ = false := blk_frozen (S6.blk 0 rfl) 3; have m0 : w6.cell? ⟨gM, 0, none⟩ = some (.int .u64 i) := (blk_cell (S6.blk 3 rfl) 0).trans rfl; have m1 : w6.cell? ⟨gM, 1, none⟩ = some (.int .u64 t) := (blk_cell (S6.blk 3 rfl) 1).trans rfl; have m2 : w6.cell? ⟨gM, 2, none⟩ = some (.slice A2 By2.length c2) := (blk_cell (S6.blk 3 rfl) 2).trans rfl; have m3 : w6.cell? ⟨gM, 3, none⟩ = some (.int .u8 o2) := (blk_cell (S6.blk 3 rfl) 3).trans rfl; have nwm : gW ≠ gM := S6.ne 0 3 rfl rfl (by decide); have nwm' := Ne.symm nwm)
    | (go_at_call 30; refine Calls.named ?_; intro w7 hw7; have S7 : St W (fun _ => False) w7 [Pt gW #[.int .u64 a, .int .u64 b, .slice none 0 0, .slice A5 (pl xs).length c5] 66, ChP g a b xs, Vw k63 A5 (pl xs).length (pl xs), Pt gM #[.int .u64 i, .int .u64 t, .slice A2 By2.length c2, .int .u8 o2] 60, Pt gR #[.int .u64 a, .int .u64 b, .slice A By.length c, .int .u8 o] 60] := (by rw [hw7]; exact (((S6.put 0 _ rfl).put 1 _ rfl).put 2 _ rfl).put 3 _ rfl); clear hw7 S6 z0 z1 z2 z3 fz0 fz1 fz2 fz3 m0 m1 m2 m3 nwm nwm'; refine (HE.out _ S7.below).mono ?_; rintro e w8 ⟨v, rfl, hR, hb⟩; obtain ⟨A8, c8, e8⟩ := Kd.R_slice (Kd.S_R hR); subst e8; have S8 := S7.row hb (Kd.S_R hR); clear S7 hR hb; have m0 : w8.cell? ⟨gM, 0, none⟩ = some (.int .u64 i) := (blk_cell (S8.blk 4 rfl) 0).trans rfl; have m1 : w8.cell? ⟨gM, 1, none⟩ = some (.int .u64 t) := (blk_cell (S8.blk 4 rfl) 1).trans rfl; have m2 : w8.cell? ⟨gM, 2, none⟩ = some (.slice A2 By2.length c2) := (blk_cell (S8.blk 4 rfl) 2).trans rfl; have m3 : w8.cell? ⟨gM, 3, none⟩ = some (.int .u8 o2) := (blk_cell (S8.blk 4 rfl) 3).trans rfl)
    | (go_at_call 31; obtain ⟨ok8, hR8⟩ := S8.rd 0 rfl; have hR8' := Kd.R_reads' hR8; refine (chain_join w8 g a b xs (S8.ch 2 rfl) i t HI.out A8 c8 l hR8'.2.2 hR8'.2.1 (by have := HLN.out; omega) HSM.out HRG.out).mono ?_; rintro e w9 ⟨v, rfl, hR, hb⟩; obtain ⟨A9, c9, e9⟩ := Kd.R_slice hR; subst e9; rw [HJ.out] at hR; rw [HJ.out]; have S9 := S8.row hb hR; clear S8 hb hR hR8 hR8' m0 m1 m2 m3)
    | (go_at_call 33; obtain ⟨F10, hA10, _, hrd10, hjn10⟩ := (S9.front 3 rfl).joinR; refine (chain_append w9 F10 g a b xs hA10 A9 c9 r2 (fun W' hf => by obtain ⟨G, hst⟩ := hrd10 W' hf; obtain ⟨ok, hR⟩ := hst.rd 0 rfl; exact (Kd.R_reads' hR).2.2) (by obtain ⟨ok, hR⟩ := S9.rd 0 rfl; exact (Kd.R_reads' hR).2.1) 100001 (by rw [stands_eval r2 (by have := HLA.out; omega) _ _ (by have := HLA.out; omega), HAP.out]) HRA.out (by have := HLA.out; omega)).mono ?_; rintro e w11 ⟨rfl, hs⟩; rw [HZS.out] at hs; have S11 := hjn10 _ _ hs; clear S9 hA10 hrd10 hjn10 hs))
  have HCH : Aside0 (∀ W', Below w11.heap.size w11 W' → Ch W' g a b zs) := ⟨fun W' hb => (S11.ch 0 rfl).below hb⟩
  have HLL : Aside0 (∀ W', Below w11.heap.size w11 W' → KE.C W' A8 l.length l ∧ l.length ≤ c8) := ⟨fun W' hb => by obtain ⟨ok, hR⟩ := S11.rd 2 rfl; have h2 := Kd.R_reads' hR; exact ⟨Kd.C_below h2.2.2 hb, h2.2.1⟩⟩
  have HPP : Aside0 (∀ W', Below w11.heap.size w11 W' → k63.C W' A5 (pl xs).length (pl xs)) := ⟨fun W' hb => Kd.C_below (S11.vw 4 rfl) hb⟩
  have HGW : Aside0 (∀ W', Below w11.heap.size w11 W' → W'.heap[gW]? = some (.cells #[.int .u64 a, .int .u64 b, .slice none 0 0, .slice A5 (pl xs).length c5] 66 (0, 0))) := ⟨fun W' hb => blk_below (S11.blk 3 rfl) hb⟩
  have HGM : Aside0 (∀ W', Below w11.heap.size w11 W' → W'.heap[gM]? = some (.cells #[.int .u64 i, .int .u64 t, .slice A2 By2.length c2, .int .u8 o2] 60 (0, 0))) := ⟨fun W' hb => blk_below (S11.blk 5 rfl) hb⟩
  have HB11 := Aside0.mk S11.below
  have HBB := Aside0.mk (Below.refl w11.heap.size w11)
  clear S11
  go_wp2
  go_loopg [89] l.length (fun kq v89 wr => ∃ j : Int, v89 = .int .i64 j ∧ Aside0 (0 ≤ j ∧ j + kq = l.length) ∧ Aside0 (Below w11.heap.size w11 wr))
  case atStart => exact ⟨0, rfl, ⟨by omega⟩, HBB⟩
  case round =>
    clear HBB
    obtain ⟨j, rfl, HJJ, HBR⟩ := hrel
    by_cases hlt : j < (l.length : Int)
    · have hd : decide (j < (l.length : Int)) = true := decide_eq_true hlt
      have hj0 : 0 ≤ j := HJJ.out.1
      obtain ⟨ad, Ax, cx, e1, x0, x1, x2, _, _⟩ := at_T78 (HLL.out _ HBR.out).1 j hj0 hlt
      subst e1
      have hmem : rd_T78 l j ∈ l := List.mem_of_getElem? (rd_some hj0 hlt)
      generalize rd_T78 l j = x at x0 x1 x2 hmem
      have HX := Aside0.mk (HRG.out x hmem)
      obtain ⟨er, eb, he⟩ : ∃ er eb, entryF a zs x.f0 = (er, eb) := ⟨_, _, rfl⟩
      have HE2 := Aside0.mk he
      have hth := HTH.out x hmem
      rw [he] at hth
      have p1 := eq_true hj0
      have p2 := eq_true hlt
      have HLT := Aside0.mk hlt
      have S13 := St.start wr (fun _ => False)
      clear hlt hj0 hmem he
      by_cases hgt : x.f0 > a
      · obtain ⟨q1, q2⟩ := hth hgt
        have dn : (er.f1 != x.f1) = false := bne_eq_false_iff_eq.mpr q2
        have dg : decide (x.f0 > a) = true := decide_eq_true hgt
        replace q1 : eb = true := q1
        subst q1
        clear q2 hgt hth
        go_wp2_with (first
          | ((with_reducible refine gate_dst (N := 13) rfl ?_); refine box_event ?hg (N := 13) ?hd (cs := #[.int .u64 0, .int .u64 0, .slice none 0 0]) (t := 78) ?hr ?_; (case hd => rfl); (case hg => rfl); (case hr => first | (go_simp; done) | (go_simp; rfl)); intro gx hg_ w13 hbB hb; have S14 := S13.box hg_ hb hbB; clear S13 hg_ hbB hb; have y0 : w13.cell? ⟨gx, 0, none⟩ = some (.int .u64 0) := (blk_cell (S14.blk 0 rfl) 0).trans rfl; have fy0 : w13.frozen? ⟨gx, 0, none⟩ = false := blk_frozen (S14.blk 0 rfl) 0; have y1 : w13.cell? ⟨gx, 1, none⟩ = some (.int .u64 0) := (blk_cell (S14.blk 0 rfl) 1).trans rfl; have fy1 : w13.frozen? ⟨gx, 1, none⟩ = false := blk_frozen (S14.blk 0 rfl) 1; have y2 : w13.cell? ⟨gx, 2, none⟩ = some (.slice none 0 0) := (blk_cell (S14.blk 0 rfl) 2).trans rfl; have fy2 : w13.frozen? ⟨gx, 2, none⟩ = false := blk_frozen (S14.blk 0 rfl) 2; clear x0 x1 x2)
          | (go_at_call 34; refine Calls.named ?_; intro w14 hw14; have S15 : St wr (fun _ => False) w14 [Pt gx #[.int .u64 x.f0, .int .u64 x.f1, .slice Ax x.f2.length cx] 78] := (by rw [hw14]; exact ((S14.put 0 _ rfl).put 1 _ rfl).put 2 _ rfl); clear hw14 S14 y0 y1 y2 fy0 fy1 fy2; refine (chain_entry w14 g a b zs (HCH.out _ (below_step HBR.out S15.below)) x.f0 HX.out er _ HE2.out).mono ?_; rintro e w15 ⟨v, rfl, hR, hb⟩; obtain ⟨Ay, cy, e15⟩ := Kd.R_slice hR; subst e15; have S16 := S15.row hb hR; clear S15 hR hb)
          | ((with_reducible refine gate_dst (N := 14) rfl ?_); refine box_event ?hg (N := 14) ?hd (cs := #[.int .u64 0, .int .u64 0, .slice none 0 0]) (t := 78) ?hr ?_; (case hd => rfl); (case hg => rfl); (case hr => first | (go_simp; done) | (go_simp; rfl)); intro gy hg_ w16 hbB hb; have S17 := S16.box hg_ hb hbB; clear S16 hg_ hbB hb; have y0 : w16.cell? ⟨gy, 0, none⟩ = some (.int .u64 0) := (blk_cell (S17.blk 0 rfl) 0).trans rfl; have fy0 : w16.frozen? ⟨gy, 0, none⟩ = false := blk_frozen (S17.blk 0 rfl) 0; have y1 : w16.cell? ⟨gy, 1, none⟩ = some (.int .u64 0) := (blk_cell (S17.blk 0 rfl) 1).trans rfl; have fy1 : w16.frozen? ⟨gy, 1, none⟩ = false := blk_frozen (S17.blk 0 rfl) 1; have y2 : w16.cell? ⟨gy, 2, none⟩ = some (.slice none 0 0) := (blk_cell (S17.blk 0 rfl) 2).trans rfl; have fy2 : w16.frozen? ⟨gy, 2, none⟩ = false := blk_frozen (S17.blk 0 rfl) 2; have x0 : w16.cell? ⟨gx, 0, none⟩ = some (.int .u64 x.f0) := (blk_cell (S17.blk 2 rfl) 0).trans rfl; have x1 : w16.cell? ⟨gx, 1, none⟩ = some (.int .u64 x.f1) := (blk_cell (S17.blk 2 rfl) 1).trans rfl; have x2 : w16.cell? ⟨gx, 2, none⟩ = some (.slice Ax x.f2.length cx) := (blk_cell (S17.blk 2 rfl) 2).trans rfl; have nyx : gy ≠ gx := S17.ne 0 2 rfl rfl (by decide); have nyx' := Ne.symm nyx; have hgw := HGW.out _ (below_step HBR.out S17.below); have q0 : w16.cell? ⟨gW, 0, none⟩ = some (.int .u64 a) := (blk_cell hgw 0).trans rfl; have nwy : gW ≠ gy := S17.old_ne 0 rfl (blk_lt (HGW.out _ HBR.out)); have nwy' := Ne.symm nwy; clear hgw))
        have S18 := ((S17.put 0 (.int .u64 er.f0) rfl).put 1 (.int .u64 er.f1) rfl).put 2 (.slice Ay er.f2.length cy) rfl
        have HB18 := Aside0.mk (below_step HBR.out S18.below)
        clear S17 S18
        go_roundg (gk - 1)
        case measure => have := HJJ.out; have := HLT.out; omega
        case rel =>
          have hw : wrap64 (j + 1) = j + 1 := by have := HLN.out; have := HJJ.out; have := HLT.out; unfold wrap64; omega
          exact ⟨wrap64 (j + 1), by first | rfl | (simp; done), ⟨by have := HJJ.out; have := HLT.out; omega⟩, HB18⟩
      · have dg : decide (x.f0 > a) = false := decide_eq_false hgt
        clear hgt hth
        go_wp2_with (first
          | ((with_reducible refine gate_dst (N := 13) rfl ?_); refine box_event ?hg (N := 13) ?hd (cs := #[.int .u64 0, .int .u64 0, .slice none 0 0]) (t := 78) ?hr ?_; (case hd => rfl); (case hg => rfl); (case hr => first | (go_simp; done) | (go_simp; rfl)); intro gx hg_ w13 hbB hb; have S14 := S13.box hg_ hb hbB; clear S13 hg_ hbB hb; have y0 : w13.cell? ⟨gx, 0, none⟩ = some (.int .u64 0) := (blk_cell (S14.blk 0 rfl) 0).trans rfl; have fy0 : w13.frozen? ⟨gx, 0, none⟩ = false := blk_frozen (S14.blk 0 rfl) 0; have y1 : w13.cell? ⟨gx, 1, none⟩ = some (.int .u64 0) := (blk_cell (S14.blk 0 rfl) 1).trans rfl; have fy1 : w13.frozen? ⟨gx, 1, none⟩ = false := blk_frozen (S14.blk 0 rfl) 1; have y2 : w13.cell? ⟨gx, 2, none⟩ = some (.slice none 0 0) := (blk_cell (S14.blk 0 rfl) 2).trans rfl; have fy2 : w13.frozen? ⟨gx, 2, none⟩ = false := blk_frozen (S14.blk 0 rfl) 2; clear x0 x1 x2)
          | (go_at_call 34; refine Calls.named ?_; intro w14 hw14; have S15 : St wr (fun _ => False) w14 [Pt gx #[.int .u64 x.f0, .int .u64 x.f1, .slice Ax x.f2.length cx] 78] := (by rw [hw14]; exact ((S14.put 0 _ rfl).put 1 _ rfl).put 2 _ rfl); clear hw14 S14 y0 y1 y2 fy0 fy1 fy2; refine (chain_entry w14 g a b zs (HCH.out _ (below_step HBR.out S15.below)) x.f0 HX.out er _ HE2.out).mono ?_; rintro e w15 ⟨v, rfl, hR, hb⟩; obtain ⟨Ay, cy, e15⟩ := Kd.R_slice hR; subst e15; have S16 := S15.row hb hR; clear S15 hR hb)
          | ((with_reducible refine gate_dst (N := 14) rfl ?_); refine box_event ?hg (N := 14) ?hd (cs := #[.int .u64 0, .int .u64 0, .slice none 0 0]) (t := 78) ?hr ?_; (case hd => rfl); (case hg => rfl); (case hr => first | (go_simp; done) | (go_simp; rfl)); intro gy hg_ w16 hbB hb; have S17 := S16.box hg_ hb hbB; clear S16 hg_ hbB hb; have y0 : w16.cell? ⟨gy, 0, none⟩ = some (.int .u64 0) := (blk_cell (S17.blk 0 rfl) 0).trans rfl; have fy0 : w16.frozen? ⟨gy, 0, none⟩ = false := blk_frozen (S17.blk 0 rfl) 0; have y1 : w16.cell? ⟨gy, 1, none⟩ = some (.int .u64 0) := (blk_cell (S17.blk 0 rfl) 1).trans rfl; have fy1 : w16.frozen? ⟨gy, 1, none⟩ = false := blk_frozen (S17.blk 0 rfl) 1; have y2 : w16.cell? ⟨gy, 2, none⟩ = some (.slice none 0 0) := (blk_cell (S17.blk 0 rfl) 2).trans rfl; have fy2 : w16.frozen? ⟨gy, 2, none⟩ = false := blk_frozen (S17.blk 0 rfl) 2; have x0 : w16.cell? ⟨gx, 0, none⟩ = some (.int .u64 x.f0) := (blk_cell (S17.blk 2 rfl) 0).trans rfl; have x1 : w16.cell? ⟨gx, 1, none⟩ = some (.int .u64 x.f1) := (blk_cell (S17.blk 2 rfl) 1).trans rfl; have x2 : w16.cell? ⟨gx, 2, none⟩ = some (.slice Ax x.f2.length cx) := (blk_cell (S17.blk 2 rfl) 2).trans rfl; have nyx : gy ≠ gx := S17.ne 0 2 rfl rfl (by decide); have nyx' := Ne.symm nyx; have hgw := HGW.out _ (below_step HBR.out S17.below); have q0 : w16.cell? ⟨gW, 0, none⟩ = some (.int .u64 a) := (blk_cell hgw 0).trans rfl; have nwy : gW ≠ gy := S17.old_ne 0 rfl (blk_lt (HGW.out _ HBR.out)); have nwy' := Ne.symm nwy; clear hgw))
        have S18 := ((S17.put 0 (.int .u64 er.f0) rfl).put 1 (.int .u64 er.f1) rfl).put 2 (.slice Ay er.f2.length cy) rfl
        have HB18 := Aside0.mk (below_step HBR.out S18.below)
        clear S17 S18
        go_roundg (gk - 1)
        case measure => have := HJJ.out; have := HLT.out; omega
        case rel =>
          have hw : wrap64 (j + 1) = j + 1 := by have := HLN.out; have := HJJ.out; have := HLT.out; unfold wrap64; omega
          exact ⟨wrap64 (j + 1), by first | rfl | (simp; done), ⟨by have := HJJ.out; have := HLT.out; omega⟩, HB18⟩
    · have hd : decide (j < (l.length : Int)) = false := decide_eq_false hlt
      clear hlt
      obtain ⟨wo, rfl⟩ : ∃ wo : World, wo = wr := ⟨_, rfl⟩
      have hgw := HGW.out _ HBR.out
      have q3 : wo.cell? ⟨gW, 3, none⟩ = some (.slice A5 (pl xs).length c5) := (blk_cell hgw 3).trans rfl
      clear hgw
      go_wp2
      clear q3
      go_loopg [121] (pl xs).length (fun kq v121 wr => ∃ j : Int, v121 = .int .i64 j ∧ Aside0 (0 ≤ j ∧ j + kq = (pl xs).length) ∧ Aside0 (Below w11.heap.size w11 wr))
      case atStart => exact ⟨0, rfl, ⟨by omega⟩, HBR⟩
      case round =>
        clear HJJ HBR
        obtain ⟨j2, rfl, HJJ, HBR⟩ := hrel
        by_cases hlt : j2 < ((pl xs).length : Int)
        · have hd2 : decide (j2 < ((pl xs).length : Int)) = true := decide_eq_true hlt
          have hj0 : 0 ≤ j2 := HJJ.out.1
          have hlx : j2 < (xs.length : Int) := by rw [pl_len] at hlt; exact hlt
          obtain ⟨ad, Ax, cx, e1, x0, x1, x2, _, hcx⟩ := at_T63 (HPP.out _ HBR.out) j2 hj0 hlt
          subst e1
          rw [rd_pl xs hj0 hlx] at x0 x1 x2 hcx
          have hmem : rd_T78 xs j2 ∈ xs := List.mem_of_getElem? (rd_some hj0 hlx)
          have hfx := rd_f0 HRW.out hj0 hlx
          generalize rd_T78 xs j2 = x at x0 x1 x2 hcx hmem hfx
          simp only [plE] at x0 x1 x2 hcx
          have HX : Aside0 (0 ≤ x.f0 ∧ x.f0 < 18446744073709551616) := ⟨by have := HRW.out.hi; have := HA.out; omega⟩
          have HCX := Aside0.mk hcx
          obtain ⟨er, eb, he⟩ : ∃ er eb, entryF a zs x.f0 = (er, eb) := ⟨_, _, rfl⟩
          have HE2 := Aside0.mk he
          have hth := HTS.out x hmem
          rw [he] at hth
          have p1 := eq_true hj0
          have p2 := eq_true hlt
          have HLT := Aside0.mk hlt
          have S13 := St.start wr (fun _ => False)
          clear hlt hj0 hmem he hlx hfx hcx
          by_cases hgt : x.f0 ≤ i
          · have q1 := hth hgt
            injection q1 with q1 q2
            subst q1
            subst q2
            have dg : decide (er.f0 ≤ i) = true := decide_eq_true hgt
            clear hgt hth
            go_wp2_with (first
              | ((with_reducible refine gate_dst (N := 17) rfl ?_); refine box_event ?hg (N := 17) ?hd (cs := #[.int .u64 0, .int .u64 0, .slice none 0 0]) (t := 63) ?hr ?_; (case hd => rfl); (case hg => rfl); (case hr => first | (go_simp; done) | (go_simp; rfl)); intro gx hg_ w13 hbB hb; have S14 := S13.box hg_ hb hbB; clear S13 hg_ hbB hb; have y0 : w13.cell? ⟨gx, 0, none⟩ = some (.int .u64 0) := (blk_cell (S14.blk 0 rfl) 0).trans rfl; have fy0 : w13.frozen? ⟨gx, 0, none⟩ = false := blk_frozen (S14.blk 0 rfl) 0; have y1 : w13.cell? ⟨gx, 1, none⟩ = some (.int .u64 0) := (blk_cell (S14.blk 0 rfl) 1).trans rfl; have fy1 : w13.frozen? ⟨gx, 1, none⟩ = false := blk_frozen (S14.blk 0 rfl) 1; have y2 : w13.cell? ⟨gx, 2, none⟩ = some (.slice none 0 0) := (blk_cell (S14.blk 0 rfl) 2).trans rfl; have fy2 : w13.frozen? ⟨gx, 2, none⟩ = false := blk_frozen (S14.blk 0 rfl) 2; clear x0 x1 x2)
              | (go_at_call 34; refine Calls.named ?_; intro w14 hw14; have S15 : St wr (fun _ => False) w14 [Pt gx #[.int .u64 er.f0, .int .u64 er.f1, .slice Ax er.f2.length cx] 63] := (by rw [hw14]; exact ((S14.put 0 _ rfl).put 1 _ rfl).put 2 _ rfl); clear hw14 S14 y0 y1 y2 fy0 fy1 fy2; refine (chain_entry w14 g a b zs (HCH.out _ (below_step HBR.out S15.below)) er.f0 HX.out _ _ HE2.out).mono ?_; rintro e w15 ⟨v, rfl, hR, hb⟩; obtain ⟨Ay, cy, e15⟩ := Kd.R_slice hR; subst e15; have S16 := S15.row hb hR; clear S15 hR hb)
              | ((with_reducible refine gate_dst (N := 18) rfl ?_); refine box_event ?hg (N := 18) ?hd (cs := #[.int .u64 0, .int .u64 0, .slice none 0 0]) (t := 78) ?hr ?_; (case hd => rfl); (case hg => rfl); (case hr => first | (go_simp; done) | (go_simp; rfl)); intro gy hg_ w16 hbB hb; have S17 := S16.box hg_ hb hbB; clear S16 hg_ hbB hb; have y0 : w16.cell? ⟨gy, 0, none⟩ = some (.int .u64 0) := (blk_cell (S17.blk 0 rfl) 0).trans rfl; have fy0 : w16.frozen? ⟨gy, 0, none⟩ = false := blk_frozen (S17.blk 0 rfl) 0; have y1 : w16.cell? ⟨gy, 1, none⟩ = some (.int .u64 0) := (blk_cell (S17.blk 0 rfl) 1).trans rfl; have fy1 : w16.frozen? ⟨gy, 1, none⟩ = false := blk_frozen (S17.blk 0 rfl) 1; have y2 : w16.cell? ⟨gy, 2, none⟩ = some (.slice none 0 0) := (blk_cell (S17.blk 0 rfl) 2).trans rfl; have fy2 : w16.frozen? ⟨gy, 2, none⟩ = false := blk_frozen (S17.blk 0 rfl) 2; have x0 : w16.cell? ⟨gx, 0, none⟩ = some (.int .u64 er.f0) := (blk_cell (S17.blk 2 rfl) 0).trans rfl; have x1 : w16.cell? ⟨gx, 1, none⟩ = some (.int .u64 er.f1) := (blk_cell (S17.blk 2 rfl) 1).trans rfl; have x2 : w16.cell? ⟨gx, 2, none⟩ = some (.slice Ax er.f2.length cx) := (blk_cell (S17.blk 2 rfl) 2).trans rfl; have nyx : gy ≠ gx := S17.ne 0 2 rfl rfl (by decide); have nyx' := Ne.symm nyx; have hgm := HGM.out _ (below_step HBR.out S17.below); have q0 : w16.cell? ⟨gM, 0, none⟩ = some (.int .u64 i) := (blk_cell hgm 0).trans rfl; have nmy : gM ≠ gy := S17.old_ne 0 rfl (blk_lt (HGM.out _ HBR.out)); have nmy' := Ne.symm nmy; clear hgm; have S18 := ((S17.put 0 (.int .u64 er.f0) rfl).put 1 (.int .u64 er.f1) rfl).put 2 (.slice Ay er.f2.length cy) rfl; obtain ⟨ok18, hR18⟩ := S18.rd 1 rfl; have hcv1 := Kd.C_string (P := Try.prog) (c := cy) Try.underlying22 Try.underlying5 Try.underlying9 (Kd.R_reads' hR18).2.2; have hcv2 := Kd.C_string (P := Try.prog) (c := cx) Try.underlying22 Try.underlying5 Try.underlying9 (Kd.C_below HCX.out S18.below); have HB18 := Aside0.mk (below_step HBR.out S18.below); clear S17 S18 hR18))
            go_roundg (gk - 1)
            case measure => have := HJJ.out; have := HLT.out; omega
            case rel =>
              have hw : wrap64 (j2 + 1) = j2 + 1 := by have := HLN.out; have := HJJ.out; have := HLT.out; have := pl_len xs; unfold wrap64; omega
              exact ⟨wrap64 (j2 + 1), by first | rfl | (simp; done), ⟨by have := HJJ.out; have := HLT.out; omega⟩, HB18⟩
          · have dg : decide (x.f0 ≤ i) = false := decide_eq_false hgt
            clear hgt hth
            go_wp2_with (first
              | ((with_reducible refine gate_dst (N := 17) rfl ?_); refine box_event ?hg (N := 17) ?hd (cs := #[.int .u64 0, .int .u64 0, .slice none 0 0]) (t := 63) ?hr ?_; (case hd => rfl); (case hg => rfl); (case hr => first | (go_simp; done) | (go_simp; rfl)); intro gx hg_ w13 hbB hb; have S14 := S13.box hg_ hb hbB; clear S13 hg_ hbB hb; have y0 : w13.cell? ⟨gx, 0, none⟩ = some (.int .u64 0) := (blk_cell (S14.blk 0 rfl) 0).trans rfl; have fy0 : w13.frozen? ⟨gx, 0, none⟩ = false := blk_frozen (S14.blk 0 rfl) 0; have y1 : w13.cell? ⟨gx, 1, none⟩ = some (.int .u64 0) := (blk_cell (S14.blk 0 rfl) 1).trans rfl; have fy1 : w13.frozen? ⟨gx, 1, none⟩ = false := blk_frozen (S14.blk 0 rfl) 1; have y2 : w13.cell? ⟨gx, 2, none⟩ = some (.slice none 0 0) := (blk_cell (S14.blk 0 rfl) 2).trans rfl; have fy2 : w13.frozen? ⟨gx, 2, none⟩ = false := blk_frozen (S14.blk 0 rfl) 2; clear x0 x1 x2)
              | (go_at_call 34; refine Calls.named ?_; intro w14 hw14; have S15 : St wr (fun _ => False) w14 [Pt gx #[.int .u64 x.f0, .int .u64 x.f1, .slice Ax x.f2.length cx] 63] := (by rw [hw14]; exact ((S14.put 0 _ rfl).put 1 _ rfl).put 2 _ rfl); clear hw14 S14 y0 y1 y2 fy0 fy1 fy2; refine (chain_entry w14 g a b zs (HCH.out _ (below_step HBR.out S15.below)) x.f0 HX.out _ _ HE2.out).mono ?_; rintro e w15 ⟨v, rfl, hR, hb⟩; obtain ⟨Ay, cy, e15⟩ := Kd.R_slice hR; subst e15; have S16 := S15.row hb hR; clear S15 hR hb)
              | ((with_reducible refine gate_dst (N := 18) rfl ?_); refine box_event ?hg (N := 18) ?hd (cs := #[.int .u64 0, .int .u64 0, .slice none 0 0]) (t := 78) ?hr ?_; (case hd => rfl); (case hg => rfl); (case hr => first | (go_simp; done) | (go_simp; rfl)); intro gy hg_ w16 hbB hb; have S17 := S16.box hg_ hb hbB; clear S16 hg_ hbB hb; have y0 : w16.cell? ⟨gy, 0, none⟩ = some (.int .u64 0) := (blk_cell (S17.blk 0 rfl) 0).trans rfl; have fy0 : w16.frozen? ⟨gy, 0, none⟩ = false := blk_frozen (S17.blk 0 rfl) 0; have y1 : w16.cell? ⟨gy, 1, none⟩ = some (.int .u64 0) := (blk_cell (S17.blk 0 rfl) 1).trans rfl; have fy1 : w16.frozen? ⟨gy, 1, none⟩ = false := blk_frozen (S17.blk 0 rfl) 1; have y2 : w16.cell? ⟨gy, 2, none⟩ = some (.slice none 0 0) := (blk_cell (S17.blk 0 rfl) 2).trans rfl; have fy2 : w16.frozen? ⟨gy, 2, none⟩ = false := blk_frozen (S17.blk 0 rfl) 2; have x0 : w16.cell? ⟨gx, 0, none⟩ = some (.int .u64 x.f0) := (blk_cell (S17.blk 2 rfl) 0).trans rfl; have x1 : w16.cell? ⟨gx, 1, none⟩ = some (.int .u64 x.f1) := (blk_cell (S17.blk 2 rfl) 1).trans rfl; have x2 : w16.cell? ⟨gx, 2, none⟩ = some (.slice Ax x.f2.length cx) := (blk_cell (S17.blk 2 rfl) 2).trans rfl; have nyx : gy ≠ gx := S17.ne 0 2 rfl rfl (by decide); have nyx' := Ne.symm nyx; have hgm := HGM.out _ (below_step HBR.out S17.below); have q0 : w16.cell? ⟨gM, 0, none⟩ = some (.int .u64 i) := (blk_cell hgm 0).trans rfl; have nmy : gM ≠ gy := S17.old_ne 0 rfl (blk_lt (HGM.out _ HBR.out)); have nmy' := Ne.symm nmy; clear hgm; have S18 := ((S17.put 0 (.int .u64 er.f0) rfl).put 1 (.int .u64 er.f1) rfl).put 2 (.slice Ay er.f2.length cy) rfl; obtain ⟨ok18, hR18⟩ := S18.rd 1 rfl; have hcv1 := Kd.C_string (P := Try.prog) (c := cy) Try.underlying22 Try.underlying5 Try.underlying9 (Kd.R_reads' hR18).2.2; have hcv2 := Kd.C_string (P := Try.prog) (c := cx) Try.underlying22 Try.underlying5 Try.underlying9 (Kd.C_below HCX.out S18.below); have HB18 := Aside0.mk (below_step HBR.out S18.below); clear S17 S18 hR18))
            go_roundg (gk - 1)
            case measure => have := HJJ.out; have := HLT.out; omega
            case rel =>
              have hw : wrap64 (j2 + 1) = j2 + 1 := by have := HLN.out; have := HJJ.out; have := HLT.out; have := pl_len xs; unfold wrap64; omega
              exact ⟨wrap64 (j2 + 1), by first | rfl | (simp; done), ⟨by have := HJJ.out; have := HLT.out; omega⟩, HB18⟩
        · have hd2 : decide (j2 < ((pl xs).length : Int)) = false := decide_eq_false hlt
          clear hlt
          obtain ⟨wo2, rfl⟩ : ∃ wo2 : World, wo2 = wr := ⟨_, rfl⟩
          have hgm := HGM.out _ HBR.out
          have q0 : wo2.cell? ⟨gM, 0, none⟩ = some (.int .u64 i) := (blk_cell hgm 0).trans rfl
          have q1 : wo2.cell? ⟨gM, 1, none⟩ = some (.int .u64 t) := (blk_cell hgm 1).trans rfl
          clear hgm
          go_wp2_with (first
            | (go_at_call 31; have h2 := HLL.out _ HBR.out; refine (chain_join wo2 g a b zs (HCH.out _ HBR.out) i t HI.out A8 c8 l h2.1 h2.2 (by have := HLN.out; omega) HSM.out HRG.out).mono ?_; rintro e w20 ⟨v, rfl, hR, hb⟩; rw [HAG.out] at hR; rw [HAG.out]; obtain ⟨A20, c20, e20⟩ := Kd.R_slice hR; subst e20; have HB20 := Aside0.mk (below_step HBR.out hb); clear hR hb h2 q0 q1)
            | (go_at_call 25; refine (chain_lives _).mono ?_; rintro e w21 ⟨rfl, hb⟩; have HB21 := Aside0.mk (below_step HB20.out hb); clear hb))
          go_ret
          exact ⟨rfl, below_step HB11.out HB21.out⟩
def jobberlaw38_ChainJoins.f (a0_0 a0_1 : Int) (l0_2 : List Int) (a0_3 a1_0 a1_1 : Int) (l1_2 : List Int) (a1_3 : Int) : Option Bool := if (0 ≤ a0_0 ∧ a0_0 < 18446744073709551616) ∧ (0 ≤ a1_0 ∧ a1_0 < 18446744073709551616) then some true else none
theorem jobberlaw38_ChainJoins.calls (a0_0 a0_1 : Int) (A0_2 : Option Addr) (c0_2 : Nat) (l0_2 : List Int) (a0_3 a1_0 a1_1 : Int) (A1_2 : Option Addr) (c1_2 : Nat) (l1_2 : List Int) (a1_3 : Int) (r : Bool) (w : World) (hr0_2 : Kd.C (Kd.int .u8) w A0_2 l0_2.length l0_2) (hc0_2 : l0_2.length ≤ c0_2) (hr1_2 : Kd.C (Kd.int .u8) w A1_2 l1_2.length l1_2) (hc1_2 : l1_2.length ≤ c1_2) (h : jobberlaw38_ChainJoins.f a0_0 a0_1 l0_2 a0_3 a1_0 a1_1 l1_2 a1_3 = some r) :
    Calls Try.prog 8 #[.agg #[.int .u64 a0_0, .int .u64 a0_1, .slice A0_2 l0_2.length c0_2, .int .u8 a0_3], .agg #[.int .u64 a1_0, .int .u64 a1_1, .slice A1_2 l1_2.length c1_2, .int .u8 a1_3]] w fun e w' => e = .returned (.bool r) ∧ Below w.heap.size w w' := by
  unfold jobberlaw38_ChainJoins.f at h
  by_cases hb : (0 ≤ a0_0 ∧ a0_0 < 18446744073709551616) ∧ (0 ≤ a1_0 ∧ a1_0 < 18446744073709551616)
  · rw [if_pos hb] at h
    obtain rfl := Option.some.inj h
    by_cases h60 : l0_2.length ≤ 60
    · by_cases h61 : l1_2.length ≤ 60
      · obtain ⟨xs, hxs, hx⟩ := entries_ex a0_0 a0_1 a0_3 l0_2 h60 (k := 61) (by omega)
        obtain ⟨l, hls, hl⟩ := entries_ex a1_0 a1_1 a1_3 l1_2 h61 (k := 61) (by omega)
        cases hg : standG a0_0 a0_1 xs with
        | true =>
          cases hj : (joinA a0_0 a0_1 xs a1_0 a1_1 l).2.2 with
          | true =>
            by_cases hne : (joinA a0_0 a0_1 xs a1_0 a1_1 l).1 = 0
            · exact joins_nocut w a0_0 a0_1 a0_3 a1_0 a1_1 a1_3 A0_2 c0_2 l0_2 A1_2 c1_2 l1_2 hr0_2 hc0_2 hr1_2 hc1_2 h60 h61 xs hxs hx hg hb.1 l hls hl hb.2 hj hne
            · exact joins_cut w a0_0 a0_1 a0_3 a1_0 a1_1 a1_3 A0_2 c0_2 l0_2 A1_2 c1_2 l1_2 hr0_2 hc0_2 hr1_2 hc1_2 h60 h61 xs hxs hx hg hb.1 l hls hl hb.2 hj hne
          | false => exact joins_not w a0_0 a0_1 a0_3 a1_0 a1_1 a1_3 A0_2 c0_2 l0_2 A1_2 c1_2 l1_2 hr0_2 hc0_2 hr1_2 hc1_2 h60 h61 xs hxs hx hg hb.1 l hls hl hb.2 hj
        | false => exact joins_bad w a0_0 a0_1 a0_3 a1_0 a1_1 a1_3 A0_2 c0_2 l0_2 A1_2 c1_2 l1_2 hr0_2 hc0_2 hr1_2 hc1_2 h60 h61 xs hxs hx hg
      · exact joins_many2 w a0_0 a0_1 a0_3 a1_0 a1_1 a1_3 A0_2 c0_2 l0_2 A1_2 c1_2 l1_2 hr0_2 hc0_2 hr1_2 hc1_2 h60 h61
    · exact joins_many1 w a0_0 a0_1 a0_3 a1_0 a1_1 a1_3 A0_2 c0_2 l0_2 A1_2 c1_2 l1_2 hr0_2 hc0_2 hr1_2 hc1_2 h60
  · rw [if_neg hb] at h
    cases h

end Go.Proofs.Ythkhfhhbldjdlaa.Chj
