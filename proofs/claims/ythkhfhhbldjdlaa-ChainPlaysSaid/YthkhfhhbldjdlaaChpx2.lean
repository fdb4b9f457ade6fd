/- Printed by this session's wip/drive.py over the translation; some functions by hand. -/
import Derived.Test.YthkhfhhbldjdlaaChpx0
import Derived.Test.YthkhfhhbldjdlaaChpx1
namespace Go.Proofs.Ythkhfhhbldjdlaa.Chp
open Go.RowKit Go.Proofs.YthkhfhhbldjdlaaW.PrintWords Go.Proofs.YthkhfhhbldjdlaaW.PrintLast Go.Proofs.YthkhfhhbldjdlaaW.PrintMore
attribute [local go_sem] max2_int min2_int max_two min_two max_three min_three max_four min_four   -- for this text's walks alone
set_option linter.unusedVariables false
set_option linter.unusedSimpArgs false

/-! ### chain_Chain_Join: function 31 (by hand) -/
set_option maxHeartbeats 8000000 in
set_option maxRecDepth 100000 in
theorem chain_known (W : World) (g : Nat) (ix tm : Int) (xs : List SE) (h : Ch W g ix tm xs) (B : Nat) (hB : W.cell? ⟨B, 0, none⟩ = some (.pointer (some ⟨g, 0, none⟩))) (x0 x1 : Int) (A2 : Option Addr) (n2 c2 : Nat) (hx : 0 ≤ x0 ∧ x0 < 18446744073709551616) (r : Int) (b : Bool) (hr : termF ix tm xs x0 = (r, b)) (s : Bool) (hs : (r == x1) = s) :
    Calls Try.prog 65 #[.agg #[.int .u64 x0, .int .u64 x1, .slice A2 n2 c2], .pointer (some ⟨B, 0, none⟩)] W fun e w' => e = .returned (.tuple #[.bool b, .bool s]) ∧ Below W.heap.size W w' := by
  have hu2 := Try.underlying78
  have HT : Aside0 (∀ W', Below W.heap.size W W' → Calls Try.prog 46 #[.pointer (some ⟨g, 0, none⟩), .int .u64 x0] W' fun e w' => e = .returned (.tuple #[.int .u64 r, .bool b]) ∧ Below W'.heap.size W' w') := ⟨fun W' hb => chain_term W' g ix tm xs (h.below hb) x0 hx r b hr⟩
  have HC := Aside0.mk hB
  clear h hx hr hB
  go_enter Try.func65, Try.ntmps65
  go_wp2_with (first
    | ((with_reducible refine gate_dst (N := 2) rfl ?_); refine box_event ?hg (N := 2) ?hd (cs := #[.int .u64 x0, .int .u64 x1, .slice A2 n2 c2]) (t := 78) ?hr ?_; (case hd => rfl); (case hg => rfl); (case hr => first | (go_simp; done) | (go_simp; rfl)); intro gX hgX w1 hbX hb; have BX := Aside0.mk hbX; have HB1 := Aside0.mk hb; have zB := (hb.cell (World.block_lt_of_cell? _ _ HC.out)).trans HC.out; have y0 : w1.cell? ⟨gX, 0, none⟩ = some (.int .u64 x0) := (blk_cell hbX 0).trans rfl; clear hbX hgX hb)
    | (go_at_call 46; refine (HT.out _ HB1.out).mono ?_; rintro e w2 ⟨rfl, hb⟩; have HB2 := Aside0.mk (below_step HB1.out hb); have BX2 := Aside0.mk (blk_below BX.out hb); have y1 : w2.cell? ⟨gX, 1, none⟩ = some (.int .u64 x1) := (blk_cell BX2.out 1).trans rfl; clear hb))
  repeat (go_quiet (fail); try go_wp2)
  go_ret2
  exact ⟨rfl, by repeat (first | (with_reducible first | exact HB2.out | apply below_alloc | apply pw_below_drewN | apply below_drew1) | exact HB2.out)⟩
def scanF (ix tm : Int) (xs : List SE) : List SE → Int × List SE × Bool
  | [] => (0, [], true)
  | x :: l => if (termF ix tm xs x.f0).2 = false then (0, x :: l, true) else if ((termF ix tm xs x.f0).1 == x.f1) = false then (x.f0, x :: l, true) else scanF ix tm xs l
def joinG (ix tm : Int) (xs : List SE) (i t : Int) (l : List SE) (b1 : Bool) : Int × List SE × Bool :=
  if b1 = false then (0, [], false) else if (termF ix tm xs i).2 = false then (0, [], false) else if (termF ix tm xs i).1 = t then scanF ix tm xs l else (0, [], false)
theorem cut_lo3 {P : Program} (t e : TypeId) (z : Nat) (ht : P.underlying t = some (.slice e)) (hs : (P.info? e).map (·.size) = some z) (A : Option Addr) (n c : Nat) (j : Int) (h0 : 0 ≤ j) (hc : j ≤ n) (W : World) :
    (Instr.slice t (.slice A n c) (some (.int .i64 j)) none none).run P W = .ok (.slice (if c = j.toNat then A else A.map (·.add (j.toNat * z))) (n - j.toNat) (c - j.toNat)) W := by
  cases hq : P.info? e with
  | none => simp [hq] at hs
  | some i =>
    have hi : i.size = z := by simpa [hq] using hs
    have hel : P.elem t = e := by simp [Program.elem, ht]
    have hu : P.underlying t = some (.slice (P.elem t)) := by rw [hel]; exact ht
    rw [run_slice_l W t A n c hu .i64 j h0 hc, hel]
    simp [sizeOf, typeInfo, hq, hi, sliced, Result.andThen]
theorem drop_at {l : List SE} {j : Int} (h0 : 0 ≤ j) (h1 : j < (l.length : Int)) : l.drop j.toNat = rd_T78 l j :: l.drop (j.toNat + 1) := by
  have h := rd_some h0 h1
  have hl := (List.getElem?_eq_some_iff.1 h)
  rw [List.drop_eq_getElem_cons hl.1, hl.2]
set_option maxHeartbeats 8000000 in
set_option maxRecDepth 100000 in
theorem chain_join0 (W : World) (g : Nat) (ix tm : Int) (xs : List SE) (h : Ch W g ix tm xs) (i t : Int) (hi : 0 ≤ i ∧ i < 18446744073709551616) (A : Option Addr) (c : Nat) (l : List SE) (hC : KE.C W A l.length l) (hc : l.length ≤ c) (hl : l.length ≤ 100000) (hsm : ∀ x ∈ l, x.f2.length ≤ 1000000) (hrg : ∀ x ∈ l, 0 ≤ x.f0 ∧ x.f0 < 18446744073709551616)
    (k : Nat) (b1 : Bool) (hst : chain_stands.f k i t l = some b1) (hge : ¬ i < ix) (r : Int × List SE × Bool) (hr : joinG ix tm xs i t l b1 = r) :
    Calls Try.prog 31 #[.pointer (some ⟨g, 0, none⟩), .int .u64 i, .int .u64 t, .slice A l.length c] W fun e w' => ∃ v, e = .returned (.tuple #[.int .u64 r.1, v, .bool r.2.2]) ∧ KE.R 78 w' W.heap.size (fun _ => True) v r.2.1 ∧ Below W.heap.size W w' := by
  have hu := Try.underlying121
  have hu2 := Try.underlying78
  have H := Aside0.mk h
  have HL := Aside0.mk hl
  have HSM := Aside0.mk hsm
  have HRG := Aside0.mk hrg
  have HCc := Aside0.mk hc
  have HC := Aside0.mk hC
  have HST : Aside0 (∀ W', Below W.heap.size W W' → Calls Try.prog 64 #[.int .u64 i, .int .u64 t, .slice A l.length c] W' fun e w' => e = .returned (.bool b1) ∧ Below W'.heap.size W' w') := ⟨fun W' hb => chain_stands.calls k i t A c l b1 W' (Kd.C_below hC hb) hc hst⟩
  obtain ⟨q, b, hq⟩ : ∃ q b, termF ix tm xs i = (q, b) := ⟨_, _, rfl⟩
  have HT : Aside0 (∀ W', Below W.heap.size W W' → Calls Try.prog 46 #[.pointer (some ⟨g, 0, none⟩), .int .u64 i] W' fun e w' => e = .returned (.tuple #[.int .u64 q, .bool b]) ∧ Below W'.heap.size W' w') := ⟨fun W' hb => chain_term W' g ix tm xs (h.below hb) i hi q b hq⟩
  have d1 : decide (i < ix) = false := decide_eq_false hge
  unfold joinG at hr
  rw [hq] at hr
  clear h hl hsm hrg hc hC hst hge hi hq
  cases b1 with
  | false =>
    rw [if_pos rfl] at hr
    subst hr
    go_enter Try.func31, Try.ntmps31
    go_wp2_with (first
      | ((with_reducible refine gate_dst (N := 4) rfl ?_); refine box_event ?hg (N := 4) ?hd (cs := #[.pointer (some ⟨g, 0, none⟩)]) (t := 61) ?hr ?_; (case hd => rfl); (case hg => rfl); (case hr => first | (go_simp; done) | (go_simp; rfl)); intro gB hgB w1 hbB hb; have BB := Aside0.mk hbB; have HB1 := Aside0.mk hb; have zB : w1.cell? ⟨gB, 0, none⟩ = some (.pointer (some ⟨g, 0, none⟩)) := (blk_cell hbB 0).trans rfl; clear hbB hgB hb)
      | (go_at_call 64; refine (HST.out _ HB1.out).mono ?_; rintro e w2 ⟨rfl, hb⟩; have HB2 := Aside0.mk (below_step HB1.out hb); clear hb))
    repeat (go_quiet (fail); try go_wp2)
    go_ret3
    exact ⟨_, rfl, Kd.R_nil _ _ _ _ _, by repeat (first | (with_reducible first | exact HB2.out | apply below_alloc | apply pw_below_drewN | apply below_drew1) | exact HB2.out)⟩
  | true =>
    rw [if_neg (by decide)] at hr
    cases b with
    | false =>
      rw [if_pos rfl] at hr
      subst hr
      go_enter Try.func31, Try.ntmps31
      go_wp2_with (first
        | ((with_reducible refine gate_dst (N := 4) rfl ?_); refine box_event ?hg (N := 4) ?hd (cs := #[.pointer (some ⟨g, 0, none⟩)]) (t := 61) ?hr ?_; (case hd => rfl); (case hg => rfl); (case hr => first | (go_simp; done) | (go_simp; rfl)); intro gB hgB w1 hbB hb; have BB := Aside0.mk hbB; have HB1 := Aside0.mk hb; have zB : w1.cell? ⟨gB, 0, none⟩ = some (.pointer (some ⟨g, 0, none⟩)) := (blk_cell hbB 0).trans rfl; clear hbB hgB hb)
        | (go_at_call 64; refine (HST.out w1 HB1.out).mono ?_; rintro e w2 ⟨rfl, hb⟩; have HB2 := Aside0.mk (below_step HB1.out hb); have BB2 := Aside0.mk (blk_below BB.out hb); have zB2 : w2.cell? ⟨gB, 0, none⟩ = some (.pointer (some ⟨g, 0, none⟩)) := (blk_cell BB2.out 0).trans rfl; obtain ⟨Ac, cc, z0, _, _, _, _⟩ := (H.out.below HB2.out).blk; clear hb zB)
        | (go_at_call 46; refine (HT.out _ HB2.out).mono ?_; rintro e w3 ⟨rfl, hb⟩; have HB3 := Aside0.mk (below_step HB2.out hb); have BB3 := Aside0.mk (blk_below BB2.out hb); clear hb zB2 z0))
      repeat (go_quiet (fail); try go_wp2)
      go_ret3
      exact ⟨_, rfl, Kd.R_nil _ _ _ _ _, by repeat (first | (with_reducible first | exact HB3.out | apply below_alloc | apply pw_below_drewN | apply below_drew1) | exact HB3.out)⟩
    | true =>
      rw [if_neg (fun h => Bool.noConfusion h)] at hr
      by_cases cq : q = t
      · rw [if_pos cq] at hr
        have dq : (q == t) = true := beq_iff_eq.mpr cq
        have dq' : (q != t) = false := bne_eq_false_iff_eq.mpr cq
        clear cq
        go_enter Try.func31, Try.ntmps31
        go_wp2_with (first
          | ((with_reducible refine gate_dst (N := 4) rfl ?_); refine box_event ?hg (N := 4) ?hd (cs := #[.pointer (some ⟨g, 0, none⟩)]) (t := 61) ?hr ?_; (case hd => rfl); (case hg => rfl); (case hr => first | (go_simp; done) | (go_simp; rfl)); intro gB hgB w1 hbB hb; have BB := Aside0.mk hbB; have HB1 := Aside0.mk hb; have zB : w1.cell? ⟨gB, 0, none⟩ = some (.pointer (some ⟨g, 0, none⟩)) := (blk_cell hbB 0).trans rfl; clear hbB hgB hb)
          | (go_at_call 64; refine (HST.out w1 HB1.out).mono ?_; rintro e w2 ⟨rfl, hb⟩; have HB2 := Aside0.mk (below_step HB1.out hb); have BB2 := Aside0.mk (blk_below BB.out hb); have zB2 : w2.cell? ⟨gB, 0, none⟩ = some (.pointer (some ⟨g, 0, none⟩)) := (blk_cell BB2.out 0).trans rfl; obtain ⟨Ac, cc, z0, _, _, _, _⟩ := (H.out.below HB2.out).blk; clear hb zB)
          | (go_at_call 46; refine (HT.out _ HB2.out).mono ?_; rintro e w3 ⟨rfl, hb⟩; have HB3 := Aside0.mk (below_step HB2.out hb); have BB3 := Aside0.mk (blk_below BB2.out hb); clear hb zB2 z0)
          | (go_at_call 64; refine (HST.out w3 HB3.out).mono ?_; rintro e w4 ⟨rfl, hb⟩; have HB4 := Aside0.mk (below_step HB3.out hb); have BB4 := Aside0.mk (blk_below BB3.out hb); have zB4 : w4.cell? ⟨gB, 0, none⟩ = some (.pointer (some ⟨g, 0, none⟩)) := (blk_cell BB4.out 0).trans rfl; clear hb))
        go_loopg [76] l.length (fun kq v76 wr => ∃ j : Int, v76 = .int .i64 j ∧ Aside0 (0 ≤ j ∧ j + kq = l.length) ∧ Aside0 (scanF ix tm xs (l.drop j.toNat) = r) ∧ Aside0 (wr.heap[gB]? = some (.cells #[.pointer (some ⟨g, 0, none⟩)] 61 (0, 0))) ∧ Aside0 (Below W.heap.size W wr))
        case atStart => exact ⟨0, rfl, ⟨by omega⟩, ⟨hr⟩, BB4, HB4⟩
        case round =>
          clear hr zB4 HB1 HB2 HB3 HB4 BB BB2 BB3 BB4
          obtain ⟨j, rfl, HJ, HSC, BB, HB⟩ := hrel
          by_cases hlt : j < (l.length : Int)
          · have hd : decide (j < (l.length : Int)) = true := decide_eq_true hlt
            have hj0 : 0 ≤ j := HJ.out.1
            have HLT := Aside0.mk hlt
            obtain ⟨x, hx⟩ : ∃ x, rd_T78 l j = x := ⟨_, rfl⟩
            have hmem : x ∈ l := by rw [← hx]; exact List.mem_of_getElem? (rd_some hj0 hlt)
            have HRX := Aside0.mk (HRG.out x hmem)
            obtain ⟨ad, A2, c2, e1, x0, x1, x2, hl2, hC2⟩ := at_T78 HC.out j hj0 hlt
            rw [hx] at x0 x1 x2 hl2 hC2
            replace x0 := (HB.out.cell (World.block_lt_of_cell? W _ x0)).trans x0
            replace x1 := (HB.out.cell (World.block_lt_of_cell? W _ x1)).trans x1
            replace x2 := (HB.out.cell (World.block_lt_of_cell? W _ x2)).trans x2
            have hdr := drop_at hj0 hlt
            rw [hx] at hdr
            have hsc := HSC.out
            rw [hdr, scanF] at hsc
            obtain ⟨q2, b2, hq2⟩ : ∃ q b, termF ix tm xs x.f0 = (q, b) := ⟨_, _, rfl⟩
            obtain ⟨s2, hs2⟩ : ∃ s2, (q2 == x.f1) = s2 := ⟨_, rfl⟩
            rw [hq2] at hsc
            simp only [hs2] at hsc
            have HK : Aside0 (∀ W', Below W.heap.size W W' → W'.heap[gB]? = some (.cells #[.pointer (some ⟨g, 0, none⟩)] 61 (0, 0)) → Calls Try.prog 65 #[.agg #[.int .u64 x.f0, .int .u64 x.f1, .slice A2 x.f2.length c2], .pointer (some ⟨gB, 0, none⟩)] W' fun e w' => e = .returned (.tuple #[.bool b2, .bool s2]) ∧ Below W'.heap.size W' w') := ⟨fun W' hb hB => chain_known W' g ix tm xs (H.out.below hb) gB ((blk_cell hB 0).trans rfl) x.f0 x.f1 A2 x.f2.length c2 HRX.out q2 b2 hq2 s2 hs2⟩
            obtain ⟨A', hA'⟩ : ∃ A', (if c = j.toNat then A else A.map (·.add (j.toNat * 3))) = A' := ⟨_, rfl⟩
            obtain ⟨ys, hys⟩ : ∃ ys, l.drop j.toNat = ys := ⟨_, rfl⟩
            subst e1
            have HY : Aside0 (ys.length = l.length - j.toNat ∧ (∀ x ∈ ys, x.f2.length ≤ 1000000) ∧ ys.length ≤ 100000 ∧ ys.length ≤ c - j.toNat ∧ KE.C W A' ys.length ys) := ⟨by
              have := HL.out; have := HCc.out
              rw [← hys, ← hA', List.length_drop]
              refine ⟨rfl, fun x hx => HSM.out x (List.mem_of_mem_drop hx), by omega, by omega, ?_⟩
              have h9 := Kd.C_drop (m := j.toNat) (c := c) HC.out (by omega) HCc.out
              rw [List.length_drop] at h9
              exact h9⟩
            have hcut : ∀ W : World, (Instr.slice 72 (.slice (some ad) l.length c) (some (.int .i64 j)) none none).run Try.prog W = .ok (.slice A' ys.length (c - j.toNat)) W := fun W => by rw [cut_lo3 72 78 3 Try.underlying72 (by kernel_rfl) (some ad) l.length c j HJ.out.1 (by have := HLT.out; omega) W, hA', HY.out.1]
            rw [← hdr, hys] at hsc
            have HSC2 := Aside0.mk hsc
            have p1 := eq_true hj0
            have p2 := eq_true hlt
            have HNXT : Aside0 (l.drop (j.toNat + 1) = ys.tail) := ⟨by rw [← hys, hdr]; rfl⟩
            clear hlt hj0 hx hmem hl2 hC2 hdr hsc hq2 hs2 hA' hys
            cases b2 with
            | false =>
              have hsc := HSC2.out
              rw [if_pos rfl] at hsc
              subst hsc
              go_wp2_with (first
                | ((with_reducible refine gate_dst (N := 15) rfl ?_); refine box_event ?hg (N := 15) ?hd (cs := #[.int .u64 0, .int .u64 0, .slice none 0 0]) (t := 78) ?hr ?_; (case hd => rfl); (case hg => rfl); (case hr => first | (go_simp; done) | (go_simp; rfl)); intro gX hgX w5 hbX hb; have BX := Aside0.mk hbX; have GX : Aside0 (W.heap.size ≤ gX) := ⟨by rw [hgX]; exact below_size HB.out⟩; have HB5 := Aside0.mk (below_step HB.out hb); have NX : Aside0 (gB ≠ gX) := ⟨by have := blk_lt BB.out; rw [hgX]; omega⟩; have BB5 := Aside0.mk (blk_below BB.out hb); have f0 := blk_frozen hbX 0; have f1 := blk_frozen hbX 1; have f2 := blk_frozen hbX 2; have y0 : w5.cell? ⟨gX, 0, none⟩ = some (.int .u64 0) := (blk_cell hbX 0).trans rfl; have y1 : w5.cell? ⟨gX, 1, none⟩ = some (.int .u64 0) := (blk_cell hbX 1).trans rfl; have y2 : w5.cell? ⟨gX, 2, none⟩ = some (.slice none 0 0) := (blk_cell hbX 2).trans rfl; clear hbX hgX hb)
                | (go_at_call 65; refine (HK.out _ (below_set (below_set (below_set HB5.out GX.out) GX.out) GX.out) (blk_far (blk_far (blk_far BB5.out NX.out _) NX.out _) NX.out _)).mono ?_; rintro e w6 ⟨rfl, hb⟩; have HB6 := Aside0.mk (below_step (below_set (below_set (below_set HB5.out GX.out) GX.out) GX.out) hb); have BB6 := Aside0.mk (blk_below (blk_far (blk_far (blk_far BB5.out NX.out _) NX.out _) NX.out _) hb); have BX6 : Aside0 (w6.heap[gX]? = some (.cells #[.int .u64 x.f0, .int .u64 x.f1, .slice A2 x.f2.length c2] 78 (0, 0))) := ⟨blk_below (blk_put (blk_put (blk_put BX.out 0 _ rfl) 1 _ rfl) 2 _ rfl) hb⟩; have u0 : w6.cell? ⟨gX, 0, none⟩ = some (.int .u64 x.f0) := (blk_cell BX6.out 0).trans rfl; clear hb f0 f1 f2 y0 y1 y2)
                | (go_at_call 66; refine (chain_copied.calls A' (c - j.toNat) ys w6 (Kd.C_below HY.out.2.2.2.2 HB6.out) HY.out.2.2.2.1 HY.out.2.2.1 HY.out.2.1).mono ?_; rintro e w7 ⟨v, rfl, hR, hb⟩; have HB7 := Aside0.mk (below_step HB6.out hb); have HR7 := Aside0.mk (Kd.R_lower hR (below_size HB6.out)); clear hR hb))
              go_ret3
              exact ⟨_, rfl, HR7.out, HB7.out⟩
            | true =>
              have hsc := HSC2.out
              rw [if_neg (fun h => Bool.noConfusion h)] at hsc
              cases s2 with
              | false =>
                rw [if_pos rfl] at hsc
                subst hsc
                go_wp2_with (first
                  | ((with_reducible refine gate_dst (N := 15) rfl ?_); refine box_event ?hg (N := 15) ?hd (cs := #[.int .u64 0, .int .u64 0, .slice none 0 0]) (t := 78) ?hr ?_; (case hd => rfl); (case hg => rfl); (case hr => first | (go_simp; done) | (go_simp; rfl)); intro gX hgX w5 hbX hb; have BX := Aside0.mk hbX; have GX : Aside0 (W.heap.size ≤ gX) := ⟨by rw [hgX]; exact below_size HB.out⟩; have HB5 := Aside0.mk (below_step HB.out hb); have NX : Aside0 (gB ≠ gX) := ⟨by have := blk_lt BB.out; rw [hgX]; omega⟩; have BB5 := Aside0.mk (blk_below BB.out hb); have f0 := blk_frozen hbX 0; have f1 := blk_frozen hbX 1; have f2 := blk_frozen hbX 2; have y0 : w5.cell? ⟨gX, 0, none⟩ = some (.int .u64 0) := (blk_cell hbX 0).trans rfl; have y1 : w5.cell? ⟨gX, 1, none⟩ = some (.int .u64 0) := (blk_cell hbX 1).trans rfl; have y2 : w5.cell? ⟨gX, 2, none⟩ = some (.slice none 0 0) := (blk_cell hbX 2).trans rfl; clear hbX hgX hb)
                  | (go_at_call 65; refine (HK.out _ (below_set (below_set (below_set HB5.out GX.out) GX.out) GX.out) (blk_far (blk_far (blk_far BB5.out NX.out _) NX.out _) NX.out _)).mono ?_; rintro e w6 ⟨rfl, hb⟩; have HB6 := Aside0.mk (below_step (below_set (below_set (below_set HB5.out GX.out) GX.out) GX.out) hb); have BB6 := Aside0.mk (blk_below (blk_far (blk_far (blk_far BB5.out NX.out _) NX.out _) NX.out _) hb); have BX6 : Aside0 (w6.heap[gX]? = some (.cells #[.int .u64 x.f0, .int .u64 x.f1, .slice A2 x.f2.length c2] 78 (0, 0))) := ⟨blk_below (blk_put (blk_put (blk_put BX.out 0 _ rfl) 1 _ rfl) 2 _ rfl) hb⟩; have u0 : w6.cell? ⟨gX, 0, none⟩ = some (.int .u64 x.f0) := (blk_cell BX6.out 0).trans rfl; clear hb f0 f1 f2 y0 y1 y2))
                have U0 := Aside0.mk u0
                go_region_held3 (fun w' => w'.cell? ⟨gX, 0, none⟩ = some (.int .u64 x.f0)) (first | exact Y5 | go_keep) (first | (go_at_call 66; (with_reducible refine (chain_copied.calls A' (c - j.toNat) ys w6.drew (show KE.C w6.drew A' ys.length ys from Kd.C_below HY.out.2.2.2.2 (below_drew1 HB6.out)) HY.out.2.2.2.1 HY.out.2.2.1 HY.out.2.1).mono ?_); rintro e w7 ⟨v, rfl, hR, hb⟩; have HB7 := Aside0.mk (below_step (below_drew1 HB6.out) hb); have HR7 := Aside0.mk (Kd.R_lower hR (below_size (below_drew1 HB6.out))); have Y5 : w7.cell? ⟨gX, 0, none⟩ = some (.int .u64 x.f0) := (hb.cell (World.block_lt_of_cell? _ _ U0.out)).trans U0.out; clear hR hb))
                go_wp2
                go_ret3
                exact ⟨_, rfl, HR7.out, HB7.out⟩
              | true =>
                rw [if_neg (fun h => Bool.noConfusion h)] at hsc
                have HSC3 := Aside0.mk hsc
                clear hsc
                go_wp2_with (first
                  | ((with_reducible refine gate_dst (N := 15) rfl ?_); refine box_event ?hg (N := 15) ?hd (cs := #[.int .u64 0, .int .u64 0, .slice none 0 0]) (t := 78) ?hr ?_; (case hd => rfl); (case hg => rfl); (case hr => first | (go_simp; done) | (go_simp; rfl)); intro gX hgX w5 hbX hb; have BX := Aside0.mk hbX; have GX : Aside0 (W.heap.size ≤ gX) := ⟨by rw [hgX]; exact below_size HB.out⟩; have HB5 := Aside0.mk (below_step HB.out hb); have NX : Aside0 (gB ≠ gX) := ⟨by have := blk_lt BB.out; rw [hgX]; omega⟩; have BB5 := Aside0.mk (blk_below BB.out hb); have f0 := blk_frozen hbX 0; have f1 := blk_frozen hbX 1; have f2 := blk_frozen hbX 2; have y0 : w5.cell? ⟨gX, 0, none⟩ = some (.int .u64 0) := (blk_cell hbX 0).trans rfl; have y1 : w5.cell? ⟨gX, 1, none⟩ = some (.int .u64 0) := (blk_cell hbX 1).trans rfl; have y2 : w5.cell? ⟨gX, 2, none⟩ = some (.slice none 0 0) := (blk_cell hbX 2).trans rfl; clear hbX hgX hb)
                  | (go_at_call 65; refine (HK.out _ (below_set (below_set (below_set HB5.out GX.out) GX.out) GX.out) (blk_far (blk_far (blk_far BB5.out NX.out _) NX.out _) NX.out _)).mono ?_; rintro e w6 ⟨rfl, hb⟩; have HB6 := Aside0.mk (below_step (below_set (below_set (below_set HB5.out GX.out) GX.out) GX.out) hb); have BB6 := Aside0.mk (blk_below (blk_far (blk_far (blk_far BB5.out NX.out _) NX.out _) NX.out _) hb); have BX6 : Aside0 (w6.heap[gX]? = some (.cells #[.int .u64 x.f0, .int .u64 x.f1, .slice A2 x.f2.length c2] 78 (0, 0))) := ⟨blk_below (blk_put (blk_put (blk_put BX.out 0 _ rfl) 1 _ rfl) 2 _ rfl) hb⟩; have u0 : w6.cell? ⟨gX, 0, none⟩ = some (.int .u64 x.f0) := (blk_cell BX6.out 0).trans rfl; clear hb f0 f1 f2 y0 y1 y2))
                go_roundg (gk - 1)
                case measure => have := HJ.out; have := HLT.out; omega
                case rel =>
                  have hw : wrap64 (j + 1) = j + 1 := by have := HL.out; have := HJ.out; have := HLT.out; unfold wrap64; omega
                  refine ⟨wrap64 (j + 1), by first | rfl | (simp; done), ⟨by have := HJ.out; have := HLT.out; omega⟩, ⟨?_⟩, BB6, HB6⟩
                  rw [hw, show (j + 1).toNat = j.toNat + 1 by have := HJ.out; omega]
                  exact HSC3.out
          · have hd : decide (j < (l.length : Int)) = false := decide_eq_false hlt
            have hsc := HSC.out
            rw [List.drop_eq_nil_of_le (by have := HJ.out; omega), scanF] at hsc
            subst hsc
            clear hlt HSC
            go_wp2
            go_ret3
            exact ⟨_, rfl, Kd.R_nil _ _ _ _ _, HB.out⟩
      · rw [if_neg cq] at hr
        subst hr
        have dq : (q == t) = false := beq_eq_false_iff_ne.mpr cq
        have dq' : (q != t) = true := bne_iff_ne.mpr cq
        clear cq
        go_enter Try.func31, Try.ntmps31
        go_wp2_with (first
          | ((with_reducible refine gate_dst (N := 4) rfl ?_); refine box_event ?hg (N := 4) ?hd (cs := #[.pointer (some ⟨g, 0, none⟩)]) (t := 61) ?hr ?_; (case hd => rfl); (case hg => rfl); (case hr => first | (go_simp; done) | (go_simp; rfl)); intro gB hgB w1 hbB hb; have BB := Aside0.mk hbB; have HB1 := Aside0.mk hb; have zB : w1.cell? ⟨gB, 0, none⟩ = some (.pointer (some ⟨g, 0, none⟩)) := (blk_cell hbB 0).trans rfl; clear hbB hgB hb)
          | (go_at_call 64; refine (HST.out w1 HB1.out).mono ?_; rintro e w2 ⟨rfl, hb⟩; have HB2 := Aside0.mk (below_step HB1.out hb); have BB2 := Aside0.mk (blk_below BB.out hb); have zB2 : w2.cell? ⟨gB, 0, none⟩ = some (.pointer (some ⟨g, 0, none⟩)) := (blk_cell BB2.out 0).trans rfl; obtain ⟨Ac, cc, z0, _, _, _, _⟩ := (H.out.below HB2.out).blk; clear hb zB)
          | (go_at_call 46; refine (HT.out _ HB2.out).mono ?_; rintro e w3 ⟨rfl, hb⟩; have HB3 := Aside0.mk (below_step HB2.out hb); have BB3 := Aside0.mk (blk_below BB2.out hb); clear hb zB2 z0))
        repeat (go_quiet (fail); try go_wp2)
        go_ret3
        exact ⟨_, rfl, Kd.R_nil _ _ _ _ _, by repeat (first | (with_reducible first | exact HB3.out | apply below_alloc | apply pw_below_drewN | apply below_drew1) | exact HB3.out)⟩

/-! ### jobberlaw38_lives: function 25 (by hand) -/
set_option maxHeartbeats 8000000 in
set_option maxRecDepth 100000 in
theorem nil_floor (W : World) : Calls Try.prog 44 #[.pointer none] W fun e w' => e = .returned (.tuple #[.int .u64 0, .int .u64 0]) ∧ Below W.heap.size W w' := by
  have HB := Aside0.mk (Below.refl W.heap.size W)
  go_enter Try.func44, Try.ntmps44
  go_wp2
  go_ret2
  exact ⟨rfl, HB.out⟩
set_option maxHeartbeats 8000000 in
set_option maxRecDepth 100000 in
theorem nil_len (W : World) : Calls Try.prog 48 #[.pointer none] W fun e w' => e = .returned (.int .i64 0) ∧ Below W.heap.size W w' := by
  have HB := Aside0.mk (Below.refl W.heap.size W)
  go_enter Try.func48, Try.ntmps48
  go_wp2
  go_ret
  exact ⟨rfl, HB.out⟩
set_option maxHeartbeats 8000000 in
set_option maxRecDepth 100000 in
theorem nil_last (W : World) : Calls Try.prog 45 #[.pointer none] W fun e w' => e = .returned (.tuple #[.int .u64 0, .int .u64 0]) ∧ Below W.heap.size W w' := by
  go_enter Try.func45, Try.ntmps45
  go_wp2_with (first | (go_at_call 48; refine (nil_len _).mono ?_; rintro e w1 ⟨rfl, hb⟩; have HB1 := Aside0.mk hb; clear hb) | (go_at_call 44; refine (nil_floor _).mono ?_; rintro e w2 ⟨rfl, hb⟩; have HB2 := Aside0.mk (below_step HB1.out hb); clear hb))
  go_ret2
  exact ⟨rfl, HB2.out⟩
set_option maxHeartbeats 8000000 in
set_option maxRecDepth 100000 in
theorem nil_at (W : World) (i : Int) : Calls Try.prog 67 #[.pointer none, .int .u64 i] W fun e w' => e = .returned (.tuple #[.int .i64 0, .bool false]) ∧ Below W.heap.size W w' := by
  go_enter Try.func67, Try.ntmps67
  go_wp2_with (go_at_call 45; refine (nil_last _).mono ?_; rintro e w1 ⟨rfl, hb⟩; have HB1 := Aside0.mk hb; clear hb)
  go_ret2
  exact ⟨rfl, HB1.out⟩
set_option maxHeartbeats 8000000 in
set_option maxRecDepth 100000 in
theorem nil_term (W : World) (i : Int) : Calls Try.prog 46 #[.pointer none, .int .u64 i] W fun e w' => e = .returned (.tuple #[.int .u64 0, .bool false]) ∧ Below W.heap.size W w' := by
  go_enter Try.func46, Try.ntmps46
  go_wp2_with (go_at_call 67; refine (nil_at _ i).mono ?_; rintro e w1 ⟨rfl, hb⟩; have HB1 := Aside0.mk hb; clear hb)
  go_ret2
  exact ⟨rfl, HB1.out⟩
set_option maxHeartbeats 8000000 in
set_option maxRecDepth 100000 in
theorem nil_newer (W : World) (i t : Int) : Calls Try.prog 28 #[.pointer none, .int .u64 i, .int .u64 t] W fun e w' => e = .returned (.bool false) ∧ Below W.heap.size W w' := by
  go_enter Try.func28, Try.ntmps28
  go_wp2_with (go_at_call 45; refine (nil_last _).mono ?_; rintro e w1 ⟨rfl, hb⟩; have HB1 := Aside0.mk hb; clear hb)
  go_ret
  exact ⟨rfl, HB1.out⟩
set_option maxHeartbeats 8000000 in
set_option maxRecDepth 100000 in
theorem nil_from (W : World) (i n : Int) : Calls Try.prog 47 #[.pointer none, .int .u64 i, .int .i64 n] W fun e w' => e = .returned (.slice none 0 0) ∧ Below W.heap.size W w' := by
  go_enter Try.func47, Try.ntmps47
  go_wp2_with (go_at_call 48; refine (nil_len _).mono ?_; rintro e w1 ⟨rfl, hb⟩; have HB1 := Aside0.mk hb; clear hb)
  go_ret
  exact ⟨rfl, HB1.out⟩
set_option maxHeartbeats 8000000 in
set_option maxRecDepth 100000 in
theorem nil_cut (W : World) (i : Int) : Calls Try.prog 32 #[.pointer none, .int .u64 i] W fun e w' => e = .returned (.int .i64 1) ∧ Below W.heap.size W w' := by
  go_enter Try.func32, Try.ntmps32
  go_wp2_with (go_at_call 45; refine (nil_last _).mono ?_; rintro e w1 ⟨rfl, hb⟩; have HB1 := Aside0.mk hb; clear hb)
  go_ret
  exact ⟨rfl, HB1.out⟩
set_option maxHeartbeats 8000000 in
set_option maxRecDepth 100000 in
theorem nil_append (W : World) (A : Option Addr) (n c : Nat) : Calls Try.prog 33 #[.pointer none, .slice A n c] W fun e w' => e = .returned (.int .i64 1) ∧ Below W.heap.size W w' := by
  go_enter Try.func33, Try.ntmps33
  go_wp2_with (go_at_call 45; refine (nil_last _).mono ?_; rintro e w1 ⟨rfl, hb⟩; have HB1 := Aside0.mk hb; clear hb)
  go_ret
  exact ⟨rfl, HB1.out⟩
set_option maxHeartbeats 8000000 in
set_option maxRecDepth 100000 in
theorem nil_raise (W : World) (i t : Int) : Calls Try.prog 39 #[.pointer none, .int .u64 i, .int .u64 t] W fun e w' => e = .returned (.bool false) ∧ Below W.heap.size W w' := by
  have HB := Aside0.mk (Below.refl W.heap.size W)
  go_enter Try.func39, Try.ntmps39
  go_wp2
  go_ret
  exact ⟨rfl, HB.out⟩
set_option maxHeartbeats 8000000 in
set_option maxRecDepth 100000 in
theorem nil_join (W : World) (i t : Int) (A : Option Addr) (n c : Nat) : Calls Try.prog 31 #[.pointer none, .int .u64 i, .int .u64 t, .slice A n c] W fun e w' => e = .returned (.tuple #[.int .u64 0, .slice none 0 0, .bool false]) ∧ Below W.heap.size W w' := by
  have HB := Aside0.mk (Below.refl W.heap.size W)
  go_enter Try.func31, Try.ntmps31
  go_wp2_with (first
    | ((with_reducible refine gate_dst (N := 4) rfl ?_); refine box_event ?hg (N := 4) ?hd (cs := #[.pointer none]) (t := 61) ?hr ?_; (case hd => rfl); (case hg => rfl); (case hr => first | (go_simp; done) | (go_simp; rfl)); intro gB hgB w1 hbB hb; have HB1 := Aside0.mk (below_step HB.out hb); have zB : w1.cell? ⟨gB, 0, none⟩ = some (.pointer none) := (blk_cell hbB 0).trans rfl; clear hbB hgB hb))
  repeat (go_quiet (fail); try go_wp2)
  go_ret3
  exact ⟨rfl, HB1.out⟩
set_option maxHeartbeats 8000000 in
set_option maxRecDepth 100000 in
theorem nil_entry (W : World) (i : Int) : Calls Try.prog 34 #[.pointer none, .int .u64 i] W fun e w' => e = .returned (.tuple #[.agg #[.int .u64 0, .int .u64 0, .slice none 0 0], .bool false]) ∧ Below W.heap.size W w' := by
  have hu2 := Try.underlying78
  go_enter Try.func34, Try.ntmps34
  go_wp2_with (first
    | ((with_reducible refine gate_dst (N := 4) rfl ?_); refine box_event ?hg (N := 4) ?hd (cs := #[.int .u64 0, .int .u64 0, .slice none 0 0]) (t := 78) ?hr ?_; (case hd => rfl); (case hg => rfl); (case hr => first | (go_simp; done) | (go_simp; rfl)); intro gR hgR w1 hbR hb; have BR := Aside0.mk hbR; have GR := Aside0.mk (Nat.le_of_eq hgR.symm); have HB1 := Aside0.mk hb; clear hbR hgR hb)
    | (go_at_call 67; refine (nil_at _ i).mono ?_; rintro e w2 ⟨rfl, hb⟩; have HB2 := Aside0.mk (below_step HB1.out hb); have hbR2 := blk_below BR.out hb; have BR2 := Aside0.mk hbR2; have e0 := blk_frozen hbR2 0; have e1 := blk_frozen hbR2 1; have e2 := blk_frozen hbR2 2; have q0 : w2.cell? ⟨gR, 0, none⟩ = some (.int .u64 0) := (blk_cell hbR2 0).trans rfl; have q1 : w2.cell? ⟨gR, 1, none⟩ = some (.int .u64 0) := (blk_cell hbR2 1).trans rfl; have q2 : w2.cell? ⟨gR, 2, none⟩ = some (.slice none 0 0) := (blk_cell hbR2 2).trans rfl; clear hb hbR2))
  refine bodyPost_ret (results_ct rfl _ _ gR 78 #[.int .u64 0, .int .u64 0, .slice none 0 0] (0, 0) _ rfl (blk_put (cs := #[.int .u64 0, .int .u64 0, .slice none 0 0]) (blk_put (cs := #[.int .u64 0, .int .u64 0, .slice none 0 0]) (blk_put BR2.out 0 _ rfl) 1 _ rfl) 2 _ rfl) Try.underlying78 rfl (by kernel_rfl)) rfl ?_
  exact ⟨rfl, below_set (below_set (below_set HB2.out GR.out) GR.out) GR.out⟩
section
variable {P : Program} {ops : Array Oper} {rest : List Oper} {o : Oper} {a : Act} {Q : Exit → Act → World → Prop}
theorem lit_event {W : World} (hgd : o.guard = none) {N : Tmp} (_hd : o.dst = some N) {cs : Array Value} {t : TypeId} {n : Nat}
    (hrun : (execOp a.eval o).run P W = .ok (.value (.slice (some ⟨W.heap.size, 0, none⟩) n n)) (W.alloc (.cells cs t (0, 0))))
    (h : ∀ g, g = W.heap.size → ∀ w1, w1.heap[g]? = some (.cells cs t (0, 0)) → Below W.heap.size W w1 → wpList P ops Q rest (a.put o.dst (.slice (some ⟨g, 0, none⟩) n n)) w1) : wpList P ops Q (o :: rest) a W :=
  Kd.event_run hgd hrun (h _ rfl _ (blk_new W _) (below_alloc (Below.refl _ _) _))
end
def mkE (p : Int × Int) : SE := ⟨p.1, p.2, []⟩
theorem lit_C {w : World} {g : Nat} {cs : Array Value} (h : w.heap[g]? = some (.cells cs 78 (0, 0))) (ps : List (Int × Int)) (hn : ps.length ≤ 1000) (hcs : ∀ j p, ps[j]? = some p → cs[3 * j]? = some (.int .u64 p.1) ∧ cs[3 * j + 1]? = some (.int .u64 p.2) ∧ cs[3 * j + 2]? = some (.slice none 0 0)) : KE.C w (some ⟨g, 0, none⟩) (ps.map mkE).length (ps.map mkE) := by
  refine ⟨rfl, by simp; omega, fun _ => ⟨_, rfl, fun j x hj => ?_⟩⟩
  rw [List.getElem?_map] at hj
  obtain ⟨p, hp, rfl⟩ := Option.map_eq_some_iff.1 hj
  obtain ⟨h0, h1, h2⟩ := hcs j p hp
  refine ⟨[.int .u64 p.1, .int .u64 p.2, .slice none 0 0], rfl, k78_mk w (mkE p) (A2 := none) (c2 := 0) (Nat.le_refl _) ⟨rfl, by simp [mkE], fun hp => by simp [mkE] at hp⟩, fun i u hu => ?_⟩
  have e : (⟨g, 0, none⟩ : Addr).add (j * KE.sz + i) = ⟨g, 3 * j + i, none⟩ := by simp [Addr.add, show KE.sz = 3 from rfl, Nat.mul_comm] <;> (intros; omega)
  rw [e, blk_cell h]
  match i, hu with
  | 0, hu => rw [Nat.add_zero, h0]; exact hu
  | 1, hu => rw [h1]; exact hu
  | 2, hu => rw [h2]; exact hu
theorem row3 : Row 0 ([((1 : Int), (1 : Int)), (2, 1), (3, 1)].map mkE) := ⟨fun j x hj => by
    match j, hj with
    | 0, hj => cases hj; rfl
    | 1, hj => cases hj; rfl
    | 2, hj => cases hj; rfl, by omega, by simp, by simp, fun x hx => by
    simp [mkE] at hx
    rcases hx with rfl | rfl | rfl <;> simp⟩
theorem stands3 : chain_stands.f 10 0 0 ([((1 : Int), (1 : Int)), (2, 1), (3, 1)].map mkE) = some true := by decide +kernel
theorem stands2 : chain_stands.f 10 1 1 ([((2 : Int), (1 : Int)), (3, 2)].map mkE) = some true := by decide +kernel
theorem join2 : joinG 0 0 ([((1 : Int), (1 : Int)), (2, 1), (3, 1)].map mkE) 1 1 ([((2 : Int), (1 : Int)), (3, 2)].map mkE) true = (3, [((3 : Int), (2 : Int))].map mkE, true) := by rfl
set_option maxHeartbeats 8000000 in
set_option maxRecDepth 100000 in
theorem chain_lives (W : World) : Calls Try.prog 25 #[] W fun e w' => e = .returned (.bool true) ∧ Below W.heap.size W w' := by
  have hu2 := Try.underlying78
  have HB := Aside0.mk (Below.refl W.heap.size W)
  go_enter Try.func25, Try.ntmps25
  go_wp2_with (first
    | ((with_reducible refine gate_dst (N := 10) rfl ?_); refine lit_event ?hg (N := 10) ?hd (n := 3) (cs := #[.int .u64 1, .int .u64 1, .slice none 0 0, .int .u64 2, .int .u64 1, .slice none 0 0, .int .u64 3, .int .u64 1, .slice none 0 0]) (t := 78) ?hr ?_; (case hd => rfl); (case hg => rfl); (case hr => first | (go_simp; done) | (go_simp; rfl)); intro gL hgL w1 hbL hb; have BL := Aside0.mk hbL; have HB1 := Aside0.mk (below_step HB.out hb); clear hbL hgL hb)
    | (go_at_call 61; refine (chain_new w1 0 0 (some ⟨gL, 0, none⟩) 3 _ (lit_C BL.out [((1 : Int), (1 : Int)), (2, 1), (3, 1)] (by decide) (fun j p hj => by
        match j, hj with
        | 0, hj => cases hj; exact ⟨rfl, rfl, rfl⟩
        | 1, hj => cases hj; exact ⟨rfl, rfl, rfl⟩
        | 2, hj => cases hj; exact ⟨rfl, rfl, rfl⟩)) (Nat.le_refl _) 10 stands3 row3).mono ?_; rintro e w2 ⟨g, rfl, hg, hch, hb⟩; have HB2 := Aside0.mk (below_step HB1.out hb); have HCH := Aside0.mk hch; clear hg hch hb)
    | ((with_reducible refine gate_dst (N := 18) rfl ?_); refine lit_event ?hg (N := 18) ?hd (n := 2) (cs := #[.int .u64 2, .int .u64 1, .slice none 0 0, .int .u64 3, .int .u64 2, .slice none 0 0]) (t := 78) ?hr ?_; (case hd => rfl); (case hg => rfl); (case hr => first | (go_simp; done) | (go_simp; rfl)); intro gM hgM w3 hbM hb; have BM := Aside0.mk hbM; have HB3 := Aside0.mk (below_step HB2.out hb); have HCH3 := Aside0.mk (HCH.out.below hb); clear hbM hgM hb)
    | (go_at_call 31; refine (chain_join0 w3 g 0 0 _ HCH3.out 1 1 (by omega) (some ⟨gM, 0, none⟩) 2 _ (lit_C BM.out [((2 : Int), (1 : Int)), (3, 2)] (by decide) (fun j p hj => by
        match j, hj with
        | 0, hj => cases hj; exact ⟨rfl, rfl, rfl⟩
        | 1, hj => cases hj; exact ⟨rfl, rfl, rfl⟩)) (Nat.le_refl _) (by decide) (fun x hx => by simp [mkE] at hx; rcases hx with rfl | rfl <;> simp) (fun x hx => by simp [mkE] at hx; rcases hx with rfl | rfl <;> simp) 10 true stands2 (by omega) _ join2).mono ?_; rintro e w4 ⟨v, rfl, hR, hb⟩; have HB4 := Aside0.mk (below_step HB3.out hb); have HCH4 := Aside0.mk (HCH3.out.below hb); obtain ⟨A4, c4, e4⟩ := Kd.R_slice hR; subst e4; obtain ⟨ad, A2, c2, e1, x0, x1, x2, _, _⟩ := at_T78 (Kd.R_reads' hR).2.2 0 (by omega) (by decide); subst e1; clear x0 x2; simp only [Int.toNat_zero, Nat.zero_mul, Addr.add_zero'] at x1; replace x1 : w4.cell? ⟨ad.block, ad.off + 1, none⟩ = some (.int .u64 2) := x1; clear hR hb)
    | (go_at_call 48; refine (show Calls Try.prog 48 #[.pointer (some ⟨g, 0, none⟩)] w4 fun e w' => e = .returned (.int .i64 3) ∧ Below w4.heap.size w4 w' from chain_len w4 g 0 0 _ HCH4.out).mono ?_; rintro e w5 ⟨rfl, hb⟩; have HB5 := Aside0.mk (below_step HB4.out hb); clear hb))
  go_ret
  exact ⟨rfl, HB5.out⟩

/-! ### jobberlaw38_Run_entries: function 30 -/
def jobberlaw38_Run_entries.l0 : Nat → List (S78) → Int → Int → List Int → Int → Int → Int → Int → List Int → Int → Option ((List (S78)))
  | 0, _, _, _, _, _, _, _, _, _, _ => none
  | k + 1, x3, x4, x5, x14, x15, x16, x105000, x105001, x105002, x105003 => if x16 < x15 then (if 0 ≤ x16 then (if x16 < (x14.length : Int) then (if x3.length < 3518437208883 then (jobberlaw38_Run_entries.l0 k (x3 ++ [(⟨IntKind.u64.wrap (x4 + 1), IntKind.u64.wrap (x5 + (IntKind.u64.wrap (Int.tmod (rd x14 x16) 3))), (([rd x14 x16, (x16) % 256] : List Int))⟩ : S78)]) (IntKind.u64.wrap (x4 + 1)) (IntKind.u64.wrap (x5 + (IntKind.u64.wrap (Int.tmod (rd x14 x16) 3)))) x14 x15 (wrap64 (x16 + 1)) x105000 x105001 x105002 x105003) else (none)) else (none)) else (none)) else (if (x3.length : Int) > 0 then (if x105003 = 1 then (if 0 ≤ (wrap64 ((x3.length : Int) - 1)) then (if (wrap64 ((x3.length : Int) - 1)) < (x3.length : Int) then (some (x3.set ((wrap64 ((x3.length : Int) - 1)) : Int).toNat (⟨IntKind.u64.wrap (((rd_T78 x3 (wrap64 ((x3.length : Int) - 1))).f0) + 1), (rd_T78 x3 (wrap64 ((x3.length : Int) - 1))).f1, (rd_T78 x3 (wrap64 ((x3.length : Int) - 1))).f2⟩ : S78))) else (none)) else (none)) else (if x105003 = 2 then (if 0 ≤ (wrap64 ((x3.length : Int) - 1)) then (if (wrap64 ((x3.length : Int) - 1)) < (x3.length : Int) then (some (x3.set ((wrap64 ((x3.length : Int) - 1)) : Int).toNat (⟨(rd_T78 x3 (wrap64 ((x3.length : Int) - 1))).f0, IntKind.u64.wrap (((rd_T78 x3 (wrap64 ((x3.length : Int) - 1))).f1) - 1), (rd_T78 x3 (wrap64 ((x3.length : Int) - 1))).f2⟩ : S78))) else (none)) else (none)) else (if x105003 = 3 then (if 0 ≤ (wrap64 ((x3.length : Int) - 1)) then (if (wrap64 ((x3.length : Int) - 1)) < (x3.length : Int) then (some (x3.set ((wrap64 ((x3.length : Int) - 1)) : Int).toNat (⟨18446744073709551615, (rd_T78 x3 (wrap64 ((x3.length : Int) - 1))).f1, (rd_T78 x3 (wrap64 ((x3.length : Int) - 1))).f2⟩ : S78))) else (none)) else (none)) else (some x3)))) else (some x3))
def jobberlaw38_Run_entries.f (k : Nat) (a0_0 : Int) (a0_1 : Int) (l0_2 : List Int) (a0_3 : Int) : Option ((List (S78))) := jobberlaw38_Run_entries.l0 k ([] : List (S78)) a0_0 a0_1 l0_2 (l0_2.length : Int) 0 a0_0 a0_1 l0_2 a0_3
theorem jobberlaw38_Run_entries.mono_l : ∀ k, (∀ y0 y1 y2 y3 y4 y5 y6 y7 y8 y9, LeO (jobberlaw38_Run_entries.l0 k y0 y1 y2 y3 y4 y5 y6 y7 y8 y9) (jobberlaw38_Run_entries.l0 (k + 1) y0 y1 y2 y3 y4 y5 y6 y7 y8 y9))
  | 0 => fun _ _ _ _ _ _ _ _ _ _ r h => by simp [jobberlaw38_Run_entries.l0] at h
  | k + 1 => by
    have ih0 := jobberlaw38_Run_entries.mono_l k
    · intro y0 y1 y2 y3 y4 y5 y6 y7 y8 y9
      unfold jobberlaw38_Run_entries.l0
      repeat' first
      | (with_reducible exact ih0 _ _ _ _ _ _ _ _ _ _)
      | (with_reducible exact LeO.refl _)
      | (with_reducible exact LeO.none _)
      | (with_reducible refine LeO.ite ?_ ?_)
      | (with_reducible refine LeO.bind ?_ (fun _ => ?_))
      | exact ih0 _ _ _ _ _ _ _ _ _ _
      | exact LeO.none _
      | refine LeO.ite ?_ ?_
      | refine LeO.bind ?_ (fun _ => ?_)
theorem jobberlaw38_Run_entries.mono : ∀ a0 a1 a2 a3 k, LeO (jobberlaw38_Run_entries.f k a0 a1 a2 a3) (jobberlaw38_Run_entries.f (k + 1) a0 a1 a2 a3) := by
  intro a0 a1 a2 a3 k
  have ih0 := jobberlaw38_Run_entries.mono_l k
  unfold jobberlaw38_Run_entries.f
  repeat' first
      | (with_reducible exact ih0 _ _ _ _ _ _ _ _ _ _)
      | (with_reducible exact LeO.refl _)
      | (with_reducible exact LeO.none _)
      | (with_reducible refine LeO.ite ?_ ?_)
      | (with_reducible refine LeO.bind ?_ (fun _ => ?_))
      | exact ih0 _ _ _ _ _ _ _ _ _ _
      | exact LeO.none _
      | refine LeO.ite ?_ ?_
      | refine LeO.bind ?_ (fun _ => ?_)
set_option maxHeartbeats 8000000 in
set_option maxRecDepth 100000 in
theorem jobberlaw38_Run_entries.calls (k : Nat) (a0_0 : Int) (a0_1 : Int) (A0_2 : Option Addr) (c0_2 : Nat) (l0_2 : List Int) (a0_3 : Int) (r : List (S78)) (w : World) (hr0_2 : Kd.C (Kd.int .u8) w A0_2 l0_2.length l0_2) (hc0_2 : l0_2.length ≤ c0_2) (h : jobberlaw38_Run_entries.f k a0_0 a0_1 l0_2 a0_3 = some r) :
    Calls Try.prog 30 #[.agg #[.int .u64 a0_0, .int .u64 a0_1, .slice A0_2 l0_2.length c0_2, .int .u8 a0_3]] w fun e w' => ∃ v0_ : Value, e = .returned (v0_) ∧ Kd.S k78 78 w' w.heap.size (fun _ => True) v0_ r ∧ Below w.heap.size w w' := by
  have hu60 := Try.underlying60
  have hu78 := Try.underlying78
  have HR0_2 := Aside0.mk hr0_2
  have HC0_2 := Aside0.mk hc0_2
  clear hr0_2 hc0_2
  have HB := Aside0.mk (Below.refl w.heap.size w)
  have H : (jobberlaw38_Run_entries.l0 k ([] : List (S78)) a0_0 a0_1 l0_2 (l0_2.length : Int) 0 a0_0 a0_1 l0_2 a0_3) = some r := h
  clear h
  have H' := Aside0.mk H
  clear H
  go_enter Try.func30, Try.ntmps30
  go_wp2_with (first | ((with_reducible refine gate_dst (N := 1) rfl ?_); refine box_event ?hg (N := 1) ?hd (cs := #[.int .u64 a0_0, .int .u64 a0_1, .slice A0_2 l0_2.length c0_2, .int .u8 a0_3]) (t := 60) ?hr ?_; (case hd => rfl); (case hg => rfl); (case hr => first | (go_simp; done) | (go_simp; rfl)); intro gb104 hg w2 hbox hb; have n0_ := Aside0.mk (below_step (by repeat (first | (with_reducible first | exact HB.out | apply below_alloc | apply pw_below_drewN | apply below_drew1) | exact HB.out)) hb); have n1_ := Aside0.mk (hbox); have n2_ := Aside0.mk ((by rw [hg]; exact (below_size (by repeat (first | (with_reducible first | exact HB.out | apply below_alloc | apply pw_below_drewN | apply below_drew1) | exact HB.out))) : w.heap.size ≤ gb104)); have n3_ := Aside0.mk ((by rw [hg]; exact (below_size (by repeat (first | (with_reducible first | exact HB.out | apply below_alloc | apply pw_below_drewN | apply below_drew1) | exact HB.out))) : w.heap.size ≤ gb104)); clear HB; have HB := n0_; have BK104 := n1_; have GW104 := n2_; have GE104 := n3_; clear n0_ n1_ n2_ n3_; clear hb hbox hg; have hcz3_0 : w2.cell? ⟨gb104, 0, none⟩ = some (.int .u64 a0_0) := (blk_cell BK104.out 0).trans rfl; have hcz3_1 : w2.cell? ⟨gb104, 1, none⟩ = some (.int .u64 a0_1) := (blk_cell BK104.out 1).trans rfl; have hcz3_2 : w2.cell? ⟨gb104, 2, none⟩ = some (.slice A0_2 l0_2.length c0_2) := (blk_cell BK104.out 2).trans rfl; have hcz3_3 : w2.cell? ⟨gb104, 3, none⟩ = some (.int .u8 a0_3) := (blk_cell BK104.out 3).trans rfl; have hfz3_0 := blk_frozen BK104.out 0; have hfz3_1 := blk_frozen BK104.out 1; have hfz3_2 := blk_frozen BK104.out 2; have hfz3_3 := blk_frozen BK104.out 3))
  repeat (go_quiet (first | ((with_reducible refine gate_dst (N := 1) rfl ?_); refine box_event ?hg (N := 1) ?hd (cs := #[.int .u64 a0_0, .int .u64 a0_1, .slice A0_2 l0_2.length c0_2, .int .u8 a0_3]) (t := 60) ?hr ?_; (case hd => rfl); (case hg => rfl); (case hr => first | (go_simp; done) | (go_simp; rfl)); intro gb104 hg w2 hbox hb; have n0_ := Aside0.mk (below_step (by repeat (first | (with_reducible first | exact HB.out | apply below_alloc | apply pw_below_drewN | apply below_drew1) | exact HB.out)) hb); have n1_ := Aside0.mk (hbox); have n2_ := Aside0.mk ((by rw [hg]; exact (below_size (by repeat (first | (with_reducible first | exact HB.out | apply below_alloc | apply pw_below_drewN | apply below_drew1) | exact HB.out))) : w.heap.size ≤ gb104)); have n3_ := Aside0.mk ((by rw [hg]; exact (below_size (by repeat (first | (with_reducible first | exact HB.out | apply below_alloc | apply pw_below_drewN | apply below_drew1) | exact HB.out))) : w.heap.size ≤ gb104)); clear HB; have HB := n0_; have BK104 := n1_; have GW104 := n2_; have GE104 := n3_; clear n0_ n1_ n2_ n3_; clear hb hbox hg; have hcz3_0 : w2.cell? ⟨gb104, 0, none⟩ = some (.int .u64 a0_0) := (blk_cell BK104.out 0).trans rfl; have hcz3_1 : w2.cell? ⟨gb104, 1, none⟩ = some (.int .u64 a0_1) := (blk_cell BK104.out 1).trans rfl; have hcz3_2 : w2.cell? ⟨gb104, 2, none⟩ = some (.slice A0_2 l0_2.length c0_2) := (blk_cell BK104.out 2).trans rfl; have hcz3_3 : w2.cell? ⟨gb104, 3, none⟩ = some (.int .u8 a0_3) := (blk_cell BK104.out 3).trans rfl; have hfz3_0 := blk_frozen BK104.out 0; have hfz3_1 := blk_frozen BK104.out 1; have hfz3_2 := blk_frozen BK104.out 2; have hfz3_3 := blk_frozen BK104.out 3)); try go_wp2_with (first | ((with_reducible refine gate_dst (N := 1) rfl ?_); refine box_event ?hg (N := 1) ?hd (cs := #[.int .u64 a0_0, .int .u64 a0_1, .slice A0_2 l0_2.length c0_2, .int .u8 a0_3]) (t := 60) ?hr ?_; (case hd => rfl); (case hg => rfl); (case hr => first | (go_simp; done) | (go_simp; rfl)); intro gb104 hg w2 hbox hb; have n0_ := Aside0.mk (below_step (by repeat (first | (with_reducible first | exact HB.out | apply below_alloc | apply pw_below_drewN | apply below_drew1) | exact HB.out)) hb); have n1_ := Aside0.mk (hbox); have n2_ := Aside0.mk ((by rw [hg]; exact (below_size (by repeat (first | (with_reducible first | exact HB.out | apply below_alloc | apply pw_below_drewN | apply below_drew1) | exact HB.out))) : w.heap.size ≤ gb104)); have n3_ := Aside0.mk ((by rw [hg]; exact (below_size (by repeat (first | (with_reducible first | exact HB.out | apply below_alloc | apply pw_below_drewN | apply below_drew1) | exact HB.out))) : w.heap.size ≤ gb104)); clear HB; have HB := n0_; have BK104 := n1_; have GW104 := n2_; have GE104 := n3_; clear n0_ n1_ n2_ n3_; clear hb hbox hg; have hcz3_0 : w2.cell? ⟨gb104, 0, none⟩ = some (.int .u64 a0_0) := (blk_cell BK104.out 0).trans rfl; have hcz3_1 : w2.cell? ⟨gb104, 1, none⟩ = some (.int .u64 a0_1) := (blk_cell BK104.out 1).trans rfl; have hcz3_2 : w2.cell? ⟨gb104, 2, none⟩ = some (.slice A0_2 l0_2.length c0_2) := (blk_cell BK104.out 2).trans rfl; have hcz3_3 : w2.cell? ⟨gb104, 3, none⟩ = some (.int .u8 a0_3) := (blk_cell BK104.out 3).trans rfl; have hfz3_0 := blk_frozen BK104.out 0; have hfz3_1 := blk_frozen BK104.out 1; have hfz3_2 := blk_frozen BK104.out 2; have hfz3_3 := blk_frozen BK104.out 3)))
  go_loopg [3, 4, 5, 16] k (fun kq v3 v4 v5 v16 w' => ∃ (x3_1 : List (S78)) (x4_1 : Int) (x5_1 : Int) (x16_1 : Int), v4 = .int .u64 x4_1 ∧ v5 = .int .u64 x5_1 ∧ v16 = .int .i64 x16_1 ∧ Aside0 (jobberlaw38_Run_entries.l0 kq x3_1 x4_1 x5_1 l0_2 (l0_2.length : Int) x16_1 a0_0 a0_1 l0_2 a0_3 = some r) ∧ Aside0 (kq ≤ k) ∧ Aside0 (Kd.S k78 78 w' w.heap.size (fun _ => True) v3 x3_1) ∧ Aside0 (w'.heap[gb104]? = some (.cells #[.int .u64 a0_0, .int .u64 a0_1, (.slice A0_2 l0_2.length c0_2), .int .u8 a0_3] 60 (0, 0))) ∧ Aside0 (Below w.heap.size w w'))
  case atStart => exact ⟨(([] : List (S78))), (a0_0), (a0_1), (0), (by first | rfl | (simp; done) | (simp [*]; done)), (by first | rfl | (simp; done) | (simp [*]; done)), (by first | rfl | (simp; done) | (simp [*]; done)), H', ⟨Nat.le_refl _⟩, ⟨by first | exact Kd.S_nil _ _ _ _ _ | exact Kd.N_nil _ _ _ _ _ | exact Kd.V_nil _ _ _ _ _ | exact Kd.Q_nil _ _ _ _ _ | exact Kd.R_nil _ _ _ _ _⟩, ⟨by (with_reducible repeat (first | refine blk_drewN ?_ _ | refine blk_drew ?_ | refine blk_alloc ?_ _)); exact BK104.out⟩, ⟨by repeat (first | (with_reducible first | exact HB.out | apply below_alloc | apply pw_below_drewN | apply below_drew1 | refine below_set ?_ GE104.out) | exact HB.out)⟩⟩
  case round =>
    clear H'
    try clear p2
    try clear c3
    try clear hcz3_0
    try clear hcz3_1
    try clear hcz3_2
    try clear hcz3_3
    try clear hfz3_0
    try clear hfz3_1
    try clear hfz3_2
    try clear hfz3_3
    obtain ⟨x3_1, x4_1, x5_1, x16_1, rfl, rfl, rfl, HA, HK1, HO_3, BK104, HB⟩ := hrel
    cases gk with
    | zero => exact absurd HA.out (by simp [jobberlaw38_Run_entries.l0])
    | succ k1 =>
      have H := HA.out
      clear HA
      simp only [jobberlaw38_Run_entries.l0] at H
      by_cases c4 : x16_1 < (l0_2.length : Int)
      · rw [if_pos c4] at H
        have c4b0 : decide (x16_1 < (l0_2.length : Int)) = true := decide_eq_true c4
        clear c4
        by_cases c5 : 0 ≤ x16_1
        · rw [if_pos c5] at H
          have c5b0 : decide (0 ≤ x16_1) = true := decide_eq_true c5
          clear c5
          by_cases c6 : x16_1 < (l0_2.length : Int)
          · rw [if_pos c6] at H
            have c6b0 : decide (x16_1 < (l0_2.length : Int)) = true := decide_eq_true c6
            clear c6
            obtain ⟨y106, hy106⟩ : ∃ y_ : List Int, y_ = (([rd l0_2 x16_1, (x16_1) % 256] : List Int)) := ⟨_, rfl⟩
            replace H : (if x3_1.length < 3518437208883 then (jobberlaw38_Run_entries.l0 k1 (x3_1 ++ [(⟨IntKind.u64.wrap (x4_1 + 1), IntKind.u64.wrap (x5_1 + (IntKind.u64.wrap (Int.tmod (rd l0_2 x16_1) 3))), y106⟩ : S78)]) (IntKind.u64.wrap (x4_1 + 1)) (IntKind.u64.wrap (x5_1 + (IntKind.u64.wrap (Int.tmod (rd l0_2 x16_1) 3)))) l0_2 (l0_2.length : Int) (wrap64 (x16_1 + 1)) a0_0 a0_1 l0_2 a0_3) else (none)) = some r := by first | (rw [hy106]; with_reducible exact H) | (have H2_ := (Option.bind_some _ _).symm.trans H; rw [hy106]; with_reducible exact H2_) | (have H2_ := (Option.bind_some _ _).symm.trans H; with_reducible exact H2_) | with_reducible exact H | (rw [hy106]; exact H) | exact H
            have Ny106 := Aside0.mk hy106
            clear hy106
            by_cases c7 : x3_1.length < 3518437208883
            · rw [if_pos c7] at H
              have LMc7 := Aside0.mk c7
              clear c7
              obtain ⟨y109, hy109⟩ : ∃ y_ : List (S78), y_ = (x3_1 ++ [(⟨IntKind.u64.wrap (x4_1 + 1), IntKind.u64.wrap (x5_1 + (IntKind.u64.wrap (Int.tmod (rd l0_2 x16_1) 3))), y106⟩ : S78)]) := ⟨_, rfl⟩
              replace H : (jobberlaw38_Run_entries.l0 k1 y109 (IntKind.u64.wrap (x4_1 + 1)) (IntKind.u64.wrap (x5_1 + (IntKind.u64.wrap (Int.tmod (rd l0_2 x16_1) 3)))) l0_2 (l0_2.length : Int) (wrap64 (x16_1 + 1)) a0_0 a0_1 l0_2 a0_3) = some r := by first | (rw [hy109]; with_reducible exact H) | (have H2_ := (Option.bind_some _ _).symm.trans H; rw [hy109]; with_reducible exact H2_) | (have H2_ := (Option.bind_some _ _).symm.trans H; with_reducible exact H2_) | with_reducible exact H | (rw [hy109]; exact H) | exact H
              have Ny109 := Aside0.mk hy109
              clear hy109
              have H' := Aside0.mk H
              clear H
              have p105 : 0 ≤ (x16_1 : Int) := of_decide_eq_true (by first | (with_reducible assumption) | assumption)
              have q105 : x16_1 < (l0_2.length : Int) := of_decide_eq_true (by first | (with_reducible assumption) | assumption)
              obtain ⟨ad105, e105, hx105_0⟩ := Kd.at_int HR0_2.out x16_1 p105 q105
              cases e105
              replace hx105_0 := (HB.out.cell (World.block_lt_of_cell? w _ hx105_0)).trans hx105_0
              replace p105 := eq_true p105
              replace q105 := eq_true q105
              go_wp2_with (first | ((with_reducible refine gate_dst (N := 34) rfl ?_); refine Kd.R_lit (Kd.int .u8) _ 5 ?hg (N := 34) ?hd (xs := ([rd l0_2 x16_1, (x16_1) % 256] : List Int)) (inner := [.int .u8 (rd l0_2 x16_1), .int .u8 ((x16_1) % 256)]) (ok := fun _ => True) (okp := fun _ => True) ?hr ?hp (fun _ hk => hk) trivial (Below.refl _ _) (Nat.le_refl _) (by simp) ?_; (case hd => rfl); (case hg => rfl); (case hr => first | (go_simp; done) | (go_simp; rfl)); (case hp => exact (Reps.one (show Kd.M (Kd.int .u8) _ _ _ (rd l0_2 x16_1) [.int .u8 (rd l0_2 x16_1)] from rfl) (Reps.one (show Kd.M (Kd.int .u8) _ _ _ ((x16_1) % 256) [.int .u8 ((x16_1) % 256)] from rfl) (Reps.none _ _)))); intro v107 w8 ho9 hb hg_ hnew_; clear hg_ hnew_; (first | rw [← Ny106.out] at ho9 | (simp only [Int.reduceToNat] at ho9; rw [← Ny106.out] at ho9)); have n0_ := Aside0.mk (Kd.S_elder' (by (with_reducible repeat (first | apply Kd.S_alloc | apply Kd.S_drewN | apply Kd.S_drew)); exact HO_3.out) (Kd.R_base ho9) hb); have n1_ := Aside0.mk (Kd.R_lower ho9 (below_size (by repeat (first | (with_reducible first | exact HB.out | apply below_alloc | apply pw_below_drewN | apply below_drew1 | refine below_set ?_ GE104.out) | exact HB.out)))); have n2_ := Aside0.mk (blk_below (g := gb104) (o := .cells #[.int .u64 a0_0, .int .u64 a0_1, .slice (some ad105) l0_2.length c0_2, .int .u8 a0_3] 60 (0, 0)) (by (with_reducible repeat (first | refine blk_drewN ?_ _ | refine blk_drew ?_ | refine blk_alloc ?_ _)); exact BK104.out) hb); have n3_ := Aside0.mk (below_step (by repeat (first | (with_reducible first | exact HB.out | apply below_alloc | apply pw_below_drewN | apply below_drew1 | refine below_set ?_ GE104.out) | exact HB.out)) hb); clear HO_3; clear BK104; clear HB; have HO_3 := n0_; have HO108 := n1_; have BK104 := n2_; have HB := n3_; clear n0_ n1_ n2_ n3_; clear hb ho9; obtain ⟨Ao10, co10, eo10⟩ := Kd.R_slice HO108.out; subst eo10) | ((with_reducible refine gate_builtin (b := .append) (xs := #[.tmp 28, .tmp 36]) rfl ?_); at_builtin; refine Kd.S_append k78 (w0 := w) w.heap.size rfl (.tmp 28) (.tmp 36) 72 78 (.agg #[(.int .u64 0), (.int .u64 0), (.slice none 0 0)]) 40 rfl Try.underlying72 info78 rfl (by decide) (by omega) u3 x3_1 (⟨IntKind.u64.wrap (x4_1 + 1), IntKind.u64.wrap (x5_1 + (IntKind.u64.wrap (Int.tmod (rd l0_2 x16_1) 3))), y106⟩ : S78) [.int .u64 (IntKind.u64.wrap (x4_1 + 1)), .int .u64 (IntKind.u64.wrap (x5_1 + (IntKind.u64.wrap (Int.tmod (rd l0_2 x16_1) 3)))), .slice Ao10 y106.length co10] (fun _ => True) (fun k_ => some k_ = (.slice Ao10 y106.length co10 : Value).ownBlock) rfl rfl ?aP (fun k_ hk_ => ((Kd.R_mono (ok' := fun k_ => ((fun _ => True)) k_ ∧ some k_ ≠ (u3 : Value).ownBlock) (Kd.R_apart' (HO108.out) (Kd.S_typed HO_3.out) (by decide)) (fun k_ hk => ⟨trivial, hk.2⟩))).1 k_ hk_.symm) ?aF ?aO ?aB ?aS ?aL ?_; (case aP => exact k78_mkM _ _ _ (⟨IntKind.u64.wrap (x4_1 + 1), IntKind.u64.wrap (x5_1 + (IntKind.u64.wrap (Int.tmod (rd l0_2 x16_1) 3))), y106⟩ : S78) (Kd.R_mono (Kd.R_tight rfl (Kd.R_mono (ok' := fun k_ => ((fun _ => True)) k_ ∧ some k_ ≠ (u3 : Value).ownBlock) (Kd.R_apart' (HO108.out) (Kd.S_typed HO_3.out) (by decide)) (fun k_ hk => ⟨trivial, hk.2⟩))) (fun _ h_ => h_))); (case aB => exact (by repeat (first | (with_reducible first | exact HB.out | apply below_alloc | apply pw_below_drewN | apply below_drew1 | refine below_set ?_ GE104.out) | exact HB.out))); (case aF => exact (fun _ _ => trivial)); (case aO => exact (by (with_reducible repeat (first | apply Kd.S_alloc | apply Kd.S_drewN | apply Kd.S_drew)); exact Kd.S_mono HO_3.out (fun k_ hk => ⟨trivial, fun e_ => hk.2 e_⟩))); (case aS => exact (below_size (by repeat (first | (with_reducible first | exact HB.out | apply below_alloc | apply pw_below_drewN | apply below_drew1 | refine below_set ?_ GE104.out) | exact HB.out)))); (case aL => have := LMc7.out; omega); intro v110 w11 ho hb hg hat; rw [← Ny109.out] at ho; have n0_ := Aside0.mk (blk_grown (g := gb104) (o := .cells #[.int .u64 a0_0, .int .u64 a0_1, .slice (some ad105) l0_2.length c0_2, .int .u8 a0_3] 60 (0, 0)) (by (with_reducible repeat (first | refine blk_drewN ?_ _ | refine blk_drew ?_ | refine blk_alloc ?_ _)); exact BK104.out) hg (Kd.S_ne HO_3.out BK104.out (by decide))); have n1_ := Aside0.mk (hb); have n2_ := Aside0.mk (ho); clear BK104; clear HB; clear HO_3; clear HO108; have BK104 := n0_; have HB := n1_; have HO111 := n2_; clear n0_ n1_ n2_; clear ho hb hg hat))
              repeat (go_quiet (first | ((with_reducible refine gate_dst (N := 34) rfl ?_); refine Kd.R_lit (Kd.int .u8) _ 5 ?hg (N := 34) ?hd (xs := ([rd l0_2 x16_1, (x16_1) % 256] : List Int)) (inner := [.int .u8 (rd l0_2 x16_1), .int .u8 ((x16_1) % 256)]) (ok := fun _ => True) (okp := fun _ => True) ?hr ?hp (fun _ hk => hk) trivial (Below.refl _ _) (Nat.le_refl _) (by simp) ?_; (case hd => rfl); (case hg => rfl); (case hr => first | (go_simp; done) | (go_simp; rfl)); (case hp => exact (Reps.one (show Kd.M (Kd.int .u8) _ _ _ (rd l0_2 x16_1) [.int .u8 (rd l0_2 x16_1)] from rfl) (Reps.one (show Kd.M (Kd.int .u8) _ _ _ ((x16_1) % 256) [.int .u8 ((x16_1) % 256)] from rfl) (Reps.none _ _)))); intro v107 w8 ho9 hb hg_ hnew_; clear hg_ hnew_; (first | rw [← Ny106.out] at ho9 | (simp only [Int.reduceToNat] at ho9; rw [← Ny106.out] at ho9)); have n0_ := Aside0.mk (Kd.S_elder' (by (with_reducible repeat (first | apply Kd.S_alloc | apply Kd.S_drewN | apply Kd.S_drew)); exact HO_3.out) (Kd.R_base ho9) hb); have n1_ := Aside0.mk (Kd.R_lower ho9 (below_size (by repeat (first | (with_reducible first | exact HB.out | apply below_alloc | apply pw_below_drewN | apply below_drew1 | refine below_set ?_ GE104.out) | exact HB.out)))); have n2_ := Aside0.mk (blk_below (g := gb104) (o := .cells #[.int .u64 a0_0, .int .u64 a0_1, .slice (some ad105) l0_2.length c0_2, .int .u8 a0_3] 60 (0, 0)) (by (with_reducible repeat (first | refine blk_drewN ?_ _ | refine blk_drew ?_ | refine blk_alloc ?_ _)); exact BK104.out) hb); have n3_ := Aside0.mk (below_step (by repeat (first | (with_reducible first | exact HB.out | apply below_alloc | apply pw_below_drewN | apply below_drew1 | refine below_set ?_ GE104.out) | exact HB.out)) hb); clear HO_3; clear BK104; clear HB; have HO_3 := n0_; have HO108 := n1_; have BK104 := n2_; have HB := n3_; clear n0_ n1_ n2_ n3_; clear hb ho9; obtain ⟨Ao10, co10, eo10⟩ := Kd.R_slice HO108.out; subst eo10) | ((with_reducible refine gate_builtin (b := .append) (xs := #[.tmp 28, .tmp 36]) rfl ?_); at_builtin; refine Kd.S_append k78 (w0 := w) w.heap.size rfl (.tmp 28) (.tmp 36) 72 78 (.agg #[(.int .u64 0), (.int .u64 0), (.slice none 0 0)]) 40 rfl Try.underlying72 info78 rfl (by decide) (by omega) u3 x3_1 (⟨IntKind.u64.wrap (x4_1 + 1), IntKind.u64.wrap (x5_1 + (IntKind.u64.wrap (Int.tmod (rd l0_2 x16_1) 3))), y106⟩ : S78) [.int .u64 (IntKind.u64.wrap (x4_1 + 1)), .int .u64 (IntKind.u64.wrap (x5_1 + (IntKind.u64.wrap (Int.tmod (rd l0_2 x16_1) 3)))), .slice Ao10 y106.length co10] (fun _ => True) (fun k_ => some k_ = (.slice Ao10 y106.length co10 : Value).ownBlock) rfl rfl ?aP (fun k_ hk_ => ((Kd.R_mono (ok' := fun k_ => ((fun _ => True)) k_ ∧ some k_ ≠ (u3 : Value).ownBlock) (Kd.R_apart' (HO108.out) (Kd.S_typed HO_3.out) (by decide)) (fun k_ hk => ⟨trivial, hk.2⟩))).1 k_ hk_.symm) ?aF ?aO ?aB ?aS ?aL ?_; (case aP => exact k78_mkM _ _ _ (⟨IntKind.u64.wrap (x4_1 + 1), IntKind.u64.wrap (x5_1 + (IntKind.u64.wrap (Int.tmod (rd l0_2 x16_1) 3))), y106⟩ : S78) (Kd.R_mono (Kd.R_tight rfl (Kd.R_mono (ok' := fun k_ => ((fun _ => True)) k_ ∧ some k_ ≠ (u3 : Value).ownBlock) (Kd.R_apart' (HO108.out) (Kd.S_typed HO_3.out) (by decide)) (fun k_ hk => ⟨trivial, hk.2⟩))) (fun _ h_ => h_))); (case aB => exact (by repeat (first | (with_reducible first | exact HB.out | apply below_alloc | apply pw_below_drewN | apply below_drew1 | refine below_set ?_ GE104.out) | exact HB.out))); (case aF => exact (fun _ _ => trivial)); (case aO => exact (by (with_reducible repeat (first | apply Kd.S_alloc | apply Kd.S_drewN | apply Kd.S_drew)); exact Kd.S_mono HO_3.out (fun k_ hk => ⟨trivial, fun e_ => hk.2 e_⟩))); (case aS => exact (below_size (by repeat (first | (with_reducible first | exact HB.out | apply below_alloc | apply pw_below_drewN | apply below_drew1 | refine below_set ?_ GE104.out) | exact HB.out)))); (case aL => have := LMc7.out; omega); intro v110 w11 ho hb hg hat; rw [← Ny109.out] at ho; have n0_ := Aside0.mk (blk_grown (g := gb104) (o := .cells #[.int .u64 a0_0, .int .u64 a0_1, .slice (some ad105) l0_2.length c0_2, .int .u8 a0_3] 60 (0, 0)) (by (with_reducible repeat (first | refine blk_drewN ?_ _ | refine blk_drew ?_ | refine blk_alloc ?_ _)); exact BK104.out) hg (Kd.S_ne HO_3.out BK104.out (by decide))); have n1_ := Aside0.mk (hb); have n2_ := Aside0.mk (ho); clear BK104; clear HB; clear HO_3; clear HO108; have BK104 := n0_; have HB := n1_; have HO111 := n2_; clear n0_ n1_ n2_; clear ho hb hg hat)); try go_wp2_with (first | ((with_reducible refine gate_dst (N := 34) rfl ?_); refine Kd.R_lit (Kd.int .u8) _ 5 ?hg (N := 34) ?hd (xs := ([rd l0_2 x16_1, (x16_1) % 256] : List Int)) (inner := [.int .u8 (rd l0_2 x16_1), .int .u8 ((x16_1) % 256)]) (ok := fun _ => True) (okp := fun _ => True) ?hr ?hp (fun _ hk => hk) trivial (Below.refl _ _) (Nat.le_refl _) (by simp) ?_; (case hd => rfl); (case hg => rfl); (case hr => first | (go_simp; done) | (go_simp; rfl)); (case hp => exact (Reps.one (show Kd.M (Kd.int .u8) _ _ _ (rd l0_2 x16_1) [.int .u8 (rd l0_2 x16_1)] from rfl) (Reps.one (show Kd.M (Kd.int .u8) _ _ _ ((x16_1) % 256) [.int .u8 ((x16_1) % 256)] from rfl) (Reps.none _ _)))); intro v107 w8 ho9 hb hg_ hnew_; clear hg_ hnew_; (first | rw [← Ny106.out] at ho9 | (simp only [Int.reduceToNat] at ho9; rw [← Ny106.out] at ho9)); have n0_ := Aside0.mk (Kd.S_elder' (by (with_reducible repeat (first | apply Kd.S_alloc | apply Kd.S_drewN | apply Kd.S_drew)); exact HO_3.out) (Kd.R_base ho9) hb); have n1_ := Aside0.mk (Kd.R_lower ho9 (below_size (by repeat (first | (with_reducible first | exact HB.out | apply below_alloc | apply pw_below_drewN | apply below_drew1 | refine below_set ?_ GE104.out) | exact HB.out)))); have n2_ := Aside0.mk (blk_below (g := gb104) (o := .cells #[.int .u64 a0_0, .int .u64 a0_1, .slice (some ad105) l0_2.length c0_2, .int .u8 a0_3] 60 (0, 0)) (by (with_reducible repeat (first | refine blk_drewN ?_ _ | refine blk_drew ?_ | refine blk_alloc ?_ _)); exact BK104.out) hb); have n3_ := Aside0.mk (below_step (by repeat (first | (with_reducible first | exact HB.out | apply below_alloc | apply pw_below_drewN | apply below_drew1 | refine below_set ?_ GE104.out) | exact HB.out)) hb); clear HO_3; clear BK104; clear HB; have HO_3 := n0_; have HO108 := n1_; have BK104 := n2_; have HB := n3_; clear n0_ n1_ n2_ n3_; clear hb ho9; obtain ⟨Ao10, co10, eo10⟩ := Kd.R_slice HO108.out; subst eo10) | ((with_reducible refine gate_builtin (b := .append) (xs := #[.tmp 28, .tmp 36]) rfl ?_); at_builtin; refine Kd.S_append k78 (w0 := w) w.heap.size rfl (.tmp 28) (.tmp 36) 72 78 (.agg #[(.int .u64 0), (.int .u64 0), (.slice none 0 0)]) 40 rfl Try.underlying72 info78 rfl (by decide) (by omega) u3 x3_1 (⟨IntKind.u64.wrap (x4_1 + 1), IntKind.u64.wrap (x5_1 + (IntKind.u64.wrap (Int.tmod (rd l0_2 x16_1) 3))), y106⟩ : S78) [.int .u64 (IntKind.u64.wrap (x4_1 + 1)), .int .u64 (IntKind.u64.wrap (x5_1 + (IntKind.u64.wrap (Int.tmod (rd l0_2 x16_1) 3)))), .slice Ao10 y106.length co10] (fun _ => True) (fun k_ => some k_ = (.slice Ao10 y106.length co10 : Value).ownBlock) rfl rfl ?aP (fun k_ hk_ => ((Kd.R_mono (ok' := fun k_ => ((fun _ => True)) k_ ∧ some k_ ≠ (u3 : Value).ownBlock) (Kd.R_apart' (HO108.out) (Kd.S_typed HO_3.out) (by decide)) (fun k_ hk => ⟨trivial, hk.2⟩))).1 k_ hk_.symm) ?aF ?aO ?aB ?aS ?aL ?_; (case aP => exact k78_mkM _ _ _ (⟨IntKind.u64.wrap (x4_1 + 1), IntKind.u64.wrap (x5_1 + (IntKind.u64.wrap (Int.tmod (rd l0_2 x16_1) 3))), y106⟩ : S78) (Kd.R_mono (Kd.R_tight rfl (Kd.R_mono (ok' := fun k_ => ((fun _ => True)) k_ ∧ some k_ ≠ (u3 : Value).ownBlock) (Kd.R_apart' (HO108.out) (Kd.S_typed HO_3.out) (by decide)) (fun k_ hk => ⟨trivial, hk.2⟩))) (fun _ h_ => h_))); (case aB => exact (by repeat (first | (with_reducible first | exact HB.out | apply below_alloc | apply pw_below_drewN | apply below_drew1 | refine below_set ?_ GE104.out) | exact HB.out))); (case aF => exact (fun _ _ => trivial)); (case aO => exact (by (with_reducible repeat (first | apply Kd.S_alloc | apply Kd.S_drewN | apply Kd.S_drew)); exact Kd.S_mono HO_3.out (fun k_ hk => ⟨trivial, fun e_ => hk.2 e_⟩))); (case aS => exact (below_size (by repeat (first | (with_reducible first | exact HB.out | apply below_alloc | apply pw_below_drewN | apply below_drew1 | refine below_set ?_ GE104.out) | exact HB.out)))); (case aL => have := LMc7.out; omega); intro v110 w11 ho hb hg hat; rw [← Ny109.out] at ho; have n0_ := Aside0.mk (blk_grown (g := gb104) (o := .cells #[.int .u64 a0_0, .int .u64 a0_1, .slice (some ad105) l0_2.length c0_2, .int .u8 a0_3] 60 (0, 0)) (by (with_reducible repeat (first | refine blk_drewN ?_ _ | refine blk_drew ?_ | refine blk_alloc ?_ _)); exact BK104.out) hg (Kd.S_ne HO_3.out BK104.out (by decide))); have n1_ := Aside0.mk (hb); have n2_ := Aside0.mk (ho); clear BK104; clear HB; clear HO_3; clear HO108; have BK104 := n0_; have HB := n1_; have HO111 := n2_; clear n0_ n1_ n2_; clear ho hb hg hat)))
              go_roundg k1
              case measure => have := HK1.out; omega
              case rel => exact ⟨(y109), (IntKind.u64.wrap (x4_1 + 1)), (IntKind.u64.wrap (x5_1 + (IntKind.u64.wrap (Int.tmod (rd l0_2 x16_1) 3)))), (wrap64 (x16_1 + 1)), (by first | rfl | (simp; done) | (simp [*]; done)), (by first | rfl | (simp; done) | (simp [*]; done)), (by first | rfl | (simp; done) | (simp [*]; done)), H', ⟨by have := HK1.out; omega⟩, ⟨by (with_reducible repeat (first | apply Kd.S_alloc | apply Kd.S_drewN | apply Kd.S_drew)); exact HO111.out⟩, ⟨by (with_reducible repeat (first | refine blk_drewN ?_ _ | refine blk_drew ?_ | refine blk_alloc ?_ _)); exact BK104.out⟩, ⟨by repeat (first | (with_reducible first | exact HB.out | apply below_alloc | apply pw_below_drewN | apply below_drew1 | refine below_set ?_ GE104.out) | exact HB.out)⟩⟩
            · rw [if_neg c7] at H
              exact absurd H (by simp)
          · rw [if_neg c6] at H
            exact absurd H (by simp)
        · rw [if_neg c5] at H
          exact absurd H (by simp)
      · rw [if_neg c4] at H
        have c4b0 : decide (x16_1 < (l0_2.length : Int)) = false := decide_eq_false c4
        clear c4
        by_cases c12 : (x3_1.length : Int) > 0
        · rw [if_pos c12] at H
          have c12b0 : decide (0 < (x3_1.length : Int)) = true := decide_eq_true c12
          have c12b1 : decide (0 < x3_1.length) = true := decide_eq_true (by omega)
          clear c12
          by_cases c13 : a0_3 = 1
          · rw [if_pos c13] at H
            have c13b0 : (a0_3 == 1) = true := beq_iff_eq.mpr c13
            have c13b1 : (a0_3 != 1) = false := bne_eq_false_iff_eq.mpr c13
            clear c13
            obtain ⟨ji14, hji14⟩ : ∃ j_ : Int, (wrap64 ((x3_1.length : Int) - 1)) = j_ := ⟨_, rfl⟩
            replace H : (if 0 ≤ (ji14) then (if (ji14) < (x3_1.length : Int) then (some (x3_1.set ((ji14) : Int).toNat (⟨IntKind.u64.wrap (((rd_T78 x3_1 (ji14)).f0) + 1), (rd_T78 x3_1 (ji14)).f1, (rd_T78 x3_1 (ji14)).f2⟩ : S78))) else (none)) else (none)) = some r := by first | (rw [hji14] at H; exact H) | (simp only [hji14] at H ⊢; exact H)
            have hji14w : (IntKind.i64.wrap ((x3_1.length : Int) - 1)) = ji14 := (i64_w _).trans hji14
            by_cases c15 : 0 ≤ (ji14)
            · rw [if_pos c15] at H
              have c15b0 : decide (0 ≤ (ji14)) = true := decide_eq_true c15
              clear c15
              by_cases c16 : (ji14) < (x3_1.length : Int)
              · rw [if_pos c16] at H
                have c16b0 : decide ((ji14) < (x3_1.length : Int)) = true := decide_eq_true c16
                clear c16
                obtain ⟨y113, hy113⟩ : ∃ y_ : List (S78), y_ = (x3_1.set ((ji14) : Int).toNat (⟨IntKind.u64.wrap (((rd_T78 x3_1 (ji14)).f0) + 1), (rd_T78 x3_1 (ji14)).f1, (rd_T78 x3_1 (ji14)).f2⟩ : S78)) := ⟨_, rfl⟩
                replace H : (some y113) = some r := by first | (rw [hy113]; with_reducible exact H) | (have H2_ := (Option.bind_some _ _).symm.trans H; rw [hy113]; with_reducible exact H2_) | (have H2_ := (Option.bind_some _ _).symm.trans H; with_reducible exact H2_) | with_reducible exact H | (rw [hy113]; exact H) | exact H
                have Ny113 := Aside0.mk hy113
                clear hy113
                obtain rfl := Option.some.inj H
                obtain ⟨Ao18, co18, eo18⟩ := Kd.S_slice HO_3.out
                subst eo18
                have hcz19_0 : wr.cell? ⟨gb104, 0, none⟩ = some (.int .u64 a0_0) := (blk_cell BK104.out 0).trans rfl
                have hcz19_1 : wr.cell? ⟨gb104, 1, none⟩ = some (.int .u64 a0_1) := (blk_cell BK104.out 1).trans rfl
                have hcz19_2 : wr.cell? ⟨gb104, 2, none⟩ = some (.slice A0_2 l0_2.length c0_2) := (blk_cell BK104.out 2).trans rfl
                have hcz19_3 : wr.cell? ⟨gb104, 3, none⟩ = some (.int .u8 a0_3) := (blk_cell BK104.out 3).trans rfl
                have hfz19_0 := blk_frozen BK104.out 0
                have hfz19_1 := blk_frozen BK104.out 1
                have hfz19_2 := blk_frozen BK104.out 2
                have hfz19_3 := blk_frozen BK104.out 3
                have p112 : 0 ≤ ((ji14) : Int) := of_decide_eq_true (by first | (with_reducible assumption) | assumption)
                have q112 : (ji14) < (x3_1.length : Int) := of_decide_eq_true (by first | (with_reducible assumption) | assumption)
                obtain ⟨ad112, A112_2, c112_2, e112, hx112_0, hx112_1, hx112_2, hl112_2, hi112_2⟩ := at_T78 (Kd.S_reads' HO_3.out).2.2 (ji14) p112 q112
                cases e112
                obtain ⟨ce112, hce112, hMe112, hcc112⟩ := Kd.S_get HO_3.out z78 (ji14) p112 (by first | exact q112 | exact of_decide_eq_true (by first | (with_reducible assumption) | assumption) | (have e_ := (Kd.S_reads' HO_3.out).1; omega))
                obtain ⟨ve112_2, rfl, ge112_2⟩ := k78_openM hMe112
                have hv112_2 := hcc112 2 _ rfl
                rw [add_field _ _ 2 (by omega)] at hv112_2
                replace hv112_2 := Option.some.inj (hv112_2.symm.trans hx112_2)
                rw [hv112_2] at ge112_2
                have HL112_2 := Aside0.mk (show Kd.R (Kd.int .u8) 5 _ _ _ _ ((rd_T78 x3_1 (ji14)).f2) from ge112_2)
                clear hv112_2 ge112_2
                clear hcc112 hce112
                have HR112_2 := Aside0.mk hi112_2
                have HC112_2 := Aside0.mk hl112_2
                clear hi112_2 hl112_2
                replace p112 := eq_true p112
                replace q112 := eq_true q112
                have p17 : 0 ≤ ((ji14) : Int) := of_decide_eq_true (by first | (with_reducible assumption) | assumption)
                have q17 : ((ji14) : Int) < ((x3_1.length : Int) : Int) := of_decide_eq_true (by first | (with_reducible assumption) | assumption)
                obtain ⟨go17, co17, eo17, gb17, gl17, cl17, HG17⟩ := Kd.S_form HO_3.out (by omega)
                (first | cases eo17 | (injection eo17 with ea_ en_ ec_; (first | subst ea_ | (injection ea_ with ea_; subst ea_)); subst ec_; clear en_))
                have GB17 := Aside0.mk gb17
                have GG17 := Aside0.mk HG17
                clear gb17 gl17 HG17
                (first | simp only [add_plain] at hx112_0 | skip)
                (first | simp only [add_plain] at hx112_1 | skip)
                (first | simp only [add_plain] at hx112_2 | skip)
                obtain ⟨_, ce17, hcl17, hM17, hcc17, hfr17, _, _⟩ := Kd.S_elem HO_3.out z78 ((ji14) : Int) p17 q17
                obtain ⟨ve17_2, rfl, ge17_2⟩ := k78_openM hM17
                have hx17_0 : wr.cell? ⟨go17, ((ji14) : Int).toNat * 3, none⟩ = some (.int .u64 ((rd_T78 x3_1 (ji14)).f0)) := hcc17 0 _ rfl
                have hx17_1 : wr.cell? ⟨go17, ((ji14) : Int).toNat * 3 + 1, none⟩ = some (.int .u64 ((rd_T78 x3_1 (ji14)).f1)) := hcc17 1 _ rfl
                have hx17_2 : wr.cell? ⟨go17, ((ji14) : Int).toNat * 3 + 2, none⟩ = some (ve17_2) := hcc17 2 _ rfl
                have hf17_0 : wr.frozen? ⟨go17, ((ji14) : Int).toNat * 3, none⟩ = false := hfr17 0
                have hf17_1 : wr.frozen? ⟨go17, ((ji14) : Int).toNat * 3 + 1, none⟩ = false := hfr17 1
                have hf17_2 : wr.frozen? ⟨go17, ((ji14) : Int).toNat * 3 + 2, none⟩ = false := hfr17 2
                clear hcl17 hcc17 hfr17 hM17
                replace p17 := eq_true p17
                replace q17 := eq_true q17
                have HX20 := Aside0.mk (show Kd.S k78 78 wr w.heap.size (fun k_ => ((fun _ => True)) k_ ∧ ¬ ((fun _ => False)) k_) (.slice (some ⟨go17, 0, none⟩) x3_1.length co18) x3_1 from (by (with_reducible repeat (first | apply Kd.S_alloc | apply Kd.S_drewN | apply Kd.S_drew)); exact Kd.S_mono HO_3.out (fun k_ hk => ⟨trivial, fun e_ => e_⟩)))
                obtain ⟨oki20, ce20, hcl20, hM20, hcc20, hfr20, hoki20, hH20⟩ := Kd.S_elem HX20.out z78 ((ji14) : Int) (of_decide_eq_true (by first | (with_reducible assumption) | assumption)) (by have h_ : ((ji14) : Int) < ((x3_1.length : Int) : Int) := of_decide_eq_true (by first | (with_reducible assumption) | assumption); first | exact h_ | (have e_ := (Kd.S_reads' HO_3.out).1; omega) | simpa using h_)
                obtain ⟨ve20_2, rfl, ge20_2⟩ := k78_openM hM20
                have HP20 := Kd.S_seg hH20 (of_decide_eq_true (by first | (with_reducible assumption) | assumption)) (by have h_ : ((ji14) : Int) < ((x3_1.length : Int) : Int) := of_decide_eq_true (by first | (with_reducible assumption) | assumption); first | exact h_ | (have e_ := (Kd.S_reads' HO_3.out).1; omega) | simpa using h_) (seg := [.int .u64 (IntKind.u64.wrap (((rd_T78 x3_1 (ji14)).f0) + 1))]) (j := 0) (show 1 ≤ 3 from by decide) (x' := (⟨IntKind.u64.wrap (((rd_T78 x3_1 (ji14)).f0) + 1), (rd_T78 x3_1 (ji14)).f1, (rd_T78 x3_1 (ji14)).f2⟩ : S78)) (k78_mkM _ _ _ (⟨IntKind.u64.wrap (((rd_T78 x3_1 (ji14)).f0) + 1), (rd_T78 x3_1 (ji14)).f1, (rd_T78 x3_1 (ji14)).f2⟩ : S78) (Kd.R_mono ge20_2 (fun _ h_ => Or.inl h_))) (fun _ hk => hk) (fun k_ hk_ => hk_.elim)
                have hx20_0 := hcc20 0 _ rfl
                (try simp only [show (k78).sz = 3 from rfl, Nat.mul_one, Nat.add_zero] at hx20_0)
                have hf20_0 := hfr20 0
                (try simp only [show (k78).sz = 3 from rfl, Nat.mul_one, Nat.add_zero] at hf20_0)
                clear hcl20 hcc20 hfr20 hM20 hoki20 hH20
                go_wp2_with (first | ((with_reducible refine gate_store (t := 58) (p := 55) rfl ?_); (try (rw [drewN_self wr]; generalize hq_ : World.drewN wr _ = wr; have n0_ := Aside0.mk (Kd.S_at hq_ HO_3.out); have n1_ := Aside0.mk (Kd.R_at hq_ HL112_2.out); have n2_ := Aside0.mk (blk_at hq_ BK104.out); have n3_ := Aside0.mk (below_at hq_ HB.out); clear hq_ HO_3 HL112_2 BK104 HB; have HO_3 := n0_; have HL112_2 := n1_; have BK104 := n2_; have HB := n3_; clear n0_ n1_ n2_ n3_; (try (have HX20 := Aside0.mk (show Kd.S k78 78 wr w.heap.size (fun k_ => ((fun _ => True)) k_ ∧ ¬ ((fun _ => False)) k_) (.slice (some ⟨go17, 0, none⟩) x3_1.length co18) x3_1 from (by (with_reducible repeat (first | apply Kd.S_alloc | apply Kd.S_drewN | apply Kd.S_drew)); exact Kd.S_mono HO_3.out (fun k_ hk => ⟨trivial, fun e_ => e_⟩))))); (try (obtain ⟨oki20, ce20, hcl20, hM20, hcc20, hfr20, hoki20, hH20⟩ := Kd.S_elem HX20.out z78 ((ji14) : Int) (of_decide_eq_true (by first | (with_reducible assumption) | assumption)) (by have h_ : ((ji14) : Int) < ((x3_1.length : Int) : Int) := of_decide_eq_true (by first | (with_reducible assumption) | assumption); first | exact h_ | (have e_ := (Kd.S_reads' HO_3.out).1; omega) | simpa using h_))); (try (obtain ⟨ve20_2, rfl, ge20_2⟩ := k78_openM hM20)); (try (have HP20 := Kd.S_seg hH20 (of_decide_eq_true (by first | (with_reducible assumption) | assumption)) (by have h_ : ((ji14) : Int) < ((x3_1.length : Int) : Int) := of_decide_eq_true (by first | (with_reducible assumption) | assumption); first | exact h_ | (have e_ := (Kd.S_reads' HO_3.out).1; omega) | simpa using h_) (seg := [.int .u64 (IntKind.u64.wrap (((rd_T78 x3_1 (ji14)).f0) + 1))]) (j := 0) (show 1 ≤ 3 from by decide) (x' := (⟨IntKind.u64.wrap (((rd_T78 x3_1 (ji14)).f0) + 1), (rd_T78 x3_1 (ji14)).f1, (rd_T78 x3_1 (ji14)).f2⟩ : S78)) (k78_mkM _ _ _ (⟨IntKind.u64.wrap (((rd_T78 x3_1 (ji14)).f0) + 1), (rd_T78 x3_1 (ji14)).f1, (rd_T78 x3_1 (ji14)).f2⟩ : S78) (Kd.R_mono ge20_2 (fun _ h_ => Or.inl h_))) (fun _ hk => hk) (fun k_ hk_ => hk_.elim))); (try (have hx20_0 := hcc20 0 _ rfl)); (try (try simp only [show (k78).sz = 3 from rfl, Nat.mul_one, Nat.add_zero] at hx20_0)); (try (have hf20_0 := hfr20 0)); (try (try simp only [show (k78).sz = 3 from rfl, Nat.mul_one, Nat.add_zero] at hf20_0)); (try (clear hcl20 hcc20 hfr20 hM20 hoki20 hH20)))); refine store_event (t := 58) (p := 55) (v := ?vo_w21) (w1 := (wr.setCell ⟨go17, ((ji14) : Int).toNat * 3, none⟩ (.int .u64 (IntKind.u64.wrap (((rd_T78 x3_1 (ji14)).f0) + 1))))) ?hg ?ho ?hn ?hr ?_; (case ho => rfl); (case hg => rfl); (case hn => rfl); (case hr => first | (go_simp; done) | (go_simp; rfl)); intro w21 hw; have hg : wr.grownBy w21 (some go17) := (by rw [hw]; exact HP20.2); have hp_ : Kd.S k78 78 w21 w.heap.size (fun _ => True) (.slice (some ⟨go17, 0, none⟩) x3_1.length co18) y113 := (by rw [hw, Ny113.out]; exact HP20.1); clear HP20; have n0_ := Aside0.mk (hp_); have n1_ := Aside0.mk (blk_grown (g := gb104) (o := .cells #[.int .u64 a0_0, .int .u64 a0_1, .slice A0_2 l0_2.length c0_2, .int .u8 a0_3] 60 (0, 0)) (by (with_reducible repeat (first | refine blk_drewN ?_ _ | refine blk_drew ?_ | refine blk_alloc ?_ _)); exact BK104.out) hg (Kd.S_ne HO_3.out BK104.out (by decide))); have n2_ := Aside0.mk (Kd.R_after (v := (.slice (some ⟨go17, 0, none⟩) x3_1.length co18)) (v1 := (.slice (some ⟨go17, 0, none⟩) x3_1.length co18)) (ok := (fun _ => True)) (by (with_reducible repeat (first | apply Kd.R_alloc | apply Kd.R_drewN | apply Kd.R_drew)); exact HL112_2.out) hg (.inl rfl)); have n3_ := Aside0.mk ((by rw [hw]; exact below_set (HB.out) GB17.out : Below w.heap.size w w21)); clear HO_3; clear BK104; clear HL112_2; clear HB; have HO_3 := n0_; have BK104 := n1_; have HL112_2 := n2_; have HB := n3_; clear n0_ n1_ n2_ n3_; clear hg hw hp_))
                repeat (go_quiet (first | ((with_reducible refine gate_store (t := 58) (p := 55) rfl ?_); (try (rw [drewN_self wr]; generalize hq_ : World.drewN wr _ = wr; have n0_ := Aside0.mk (Kd.S_at hq_ HO_3.out); have n1_ := Aside0.mk (Kd.R_at hq_ HL112_2.out); have n2_ := Aside0.mk (blk_at hq_ BK104.out); have n3_ := Aside0.mk (below_at hq_ HB.out); clear hq_ HO_3 HL112_2 BK104 HB; have HO_3 := n0_; have HL112_2 := n1_; have BK104 := n2_; have HB := n3_; clear n0_ n1_ n2_ n3_; (try (have HX20 := Aside0.mk (show Kd.S k78 78 wr w.heap.size (fun k_ => ((fun _ => True)) k_ ∧ ¬ ((fun _ => False)) k_) (.slice (some ⟨go17, 0, none⟩) x3_1.length co18) x3_1 from (by (with_reducible repeat (first | apply Kd.S_alloc | apply Kd.S_drewN | apply Kd.S_drew)); exact Kd.S_mono HO_3.out (fun k_ hk => ⟨trivial, fun e_ => e_⟩))))); (try (obtain ⟨oki20, ce20, hcl20, hM20, hcc20, hfr20, hoki20, hH20⟩ := Kd.S_elem HX20.out z78 ((ji14) : Int) (of_decide_eq_true (by first | (with_reducible assumption) | assumption)) (by have h_ : ((ji14) : Int) < ((x3_1.length : Int) : Int) := of_decide_eq_true (by first | (with_reducible assumption) | assumption); first | exact h_ | (have e_ := (Kd.S_reads' HO_3.out).1; omega) | simpa using h_))); (try (obtain ⟨ve20_2, rfl, ge20_2⟩ := k78_openM hM20)); (try (have HP20 := Kd.S_seg hH20 (of_decide_eq_true (by first | (with_reducible assumption) | assumption)) (by have h_ : ((ji14) : Int) < ((x3_1.length : Int) : Int) := of_decide_eq_true (by first | (with_reducible assumption) | assumption); first | exact h_ | (have e_ := (Kd.S_reads' HO_3.out).1; omega) | simpa using h_) (seg := [.int .u64 (IntKind.u64.wrap (((rd_T78 x3_1 (ji14)).f0) + 1))]) (j := 0) (show 1 ≤ 3 from by decide) (x' := (⟨IntKind.u64.wrap (((rd_T78 x3_1 (ji14)).f0) + 1), (rd_T78 x3_1 (ji14)).f1, (rd_T78 x3_1 (ji14)).f2⟩ : S78)) (k78_mkM _ _ _ (⟨IntKind.u64.wrap (((rd_T78 x3_1 (ji14)).f0) + 1), (rd_T78 x3_1 (ji14)).f1, (rd_T78 x3_1 (ji14)).f2⟩ : S78) (Kd.R_mono ge20_2 (fun _ h_ => Or.inl h_))) (fun _ hk => hk) (fun k_ hk_ => hk_.elim))); (try (have hx20_0 := hcc20 0 _ rfl)); (try (try simp only [show (k78).sz = 3 from rfl, Nat.mul_one, Nat.add_zero] at hx20_0)); (try (have hf20_0 := hfr20 0)); (try (try simp only [show (k78).sz = 3 from rfl, Nat.mul_one, Nat.add_zero] at hf20_0)); (try (clear hcl20 hcc20 hfr20 hM20 hoki20 hH20)))); refine store_event (t := 58) (p := 55) (v := ?vo_w21) (w1 := (wr.setCell ⟨go17, ((ji14) : Int).toNat * 3, none⟩ (.int .u64 (IntKind.u64.wrap (((rd_T78 x3_1 (ji14)).f0) + 1))))) ?hg ?ho ?hn ?hr ?_; (case ho => rfl); (case hg => rfl); (case hn => rfl); (case hr => first | (go_simp; done) | (go_simp; rfl)); intro w21 hw; have hg : wr.grownBy w21 (some go17) := (by rw [hw]; exact HP20.2); have hp_ : Kd.S k78 78 w21 w.heap.size (fun _ => True) (.slice (some ⟨go17, 0, none⟩) x3_1.length co18) y113 := (by rw [hw, Ny113.out]; exact HP20.1); clear HP20; have n0_ := Aside0.mk (hp_); have n1_ := Aside0.mk (blk_grown (g := gb104) (o := .cells #[.int .u64 a0_0, .int .u64 a0_1, .slice A0_2 l0_2.length c0_2, .int .u8 a0_3] 60 (0, 0)) (by (with_reducible repeat (first | refine blk_drewN ?_ _ | refine blk_drew ?_ | refine blk_alloc ?_ _)); exact BK104.out) hg (Kd.S_ne HO_3.out BK104.out (by decide))); have n2_ := Aside0.mk (Kd.R_after (v := (.slice (some ⟨go17, 0, none⟩) x3_1.length co18)) (v1 := (.slice (some ⟨go17, 0, none⟩) x3_1.length co18)) (ok := (fun _ => True)) (by (with_reducible repeat (first | apply Kd.R_alloc | apply Kd.R_drewN | apply Kd.R_drew)); exact HL112_2.out) hg (.inl rfl)); have n3_ := Aside0.mk ((by rw [hw]; exact below_set (HB.out) GB17.out : Below w.heap.size w w21)); clear HO_3; clear BK104; clear HL112_2; clear HB; have HO_3 := n0_; have BK104 := n1_; have HL112_2 := n2_; have HB := n3_; clear n0_ n1_ n2_ n3_; clear hg hw hp_)); try go_wp2_with (first | ((with_reducible refine gate_store (t := 58) (p := 55) rfl ?_); (try (rw [drewN_self wr]; generalize hq_ : World.drewN wr _ = wr; have n0_ := Aside0.mk (Kd.S_at hq_ HO_3.out); have n1_ := Aside0.mk (Kd.R_at hq_ HL112_2.out); have n2_ := Aside0.mk (blk_at hq_ BK104.out); have n3_ := Aside0.mk (below_at hq_ HB.out); clear hq_ HO_3 HL112_2 BK104 HB; have HO_3 := n0_; have HL112_2 := n1_; have BK104 := n2_; have HB := n3_; clear n0_ n1_ n2_ n3_; (try (have HX20 := Aside0.mk (show Kd.S k78 78 wr w.heap.size (fun k_ => ((fun _ => True)) k_ ∧ ¬ ((fun _ => False)) k_) (.slice (some ⟨go17, 0, none⟩) x3_1.length co18) x3_1 from (by (with_reducible repeat (first | apply Kd.S_alloc | apply Kd.S_drewN | apply Kd.S_drew)); exact Kd.S_mono HO_3.out (fun k_ hk => ⟨trivial, fun e_ => e_⟩))))); (try (obtain ⟨oki20, ce20, hcl20, hM20, hcc20, hfr20, hoki20, hH20⟩ := Kd.S_elem HX20.out z78 ((ji14) : Int) (of_decide_eq_true (by first | (with_reducible assumption) | assumption)) (by have h_ : ((ji14) : Int) < ((x3_1.length : Int) : Int) := of_decide_eq_true (by first | (with_reducible assumption) | assumption); first | exact h_ | (have e_ := (Kd.S_reads' HO_3.out).1; omega) | simpa using h_))); (try (obtain ⟨ve20_2, rfl, ge20_2⟩ := k78_openM hM20)); (try (have HP20 := Kd.S_seg hH20 (of_decide_eq_true (by first | (with_reducible assumption) | assumption)) (by have h_ : ((ji14) : Int) < ((x3_1.length : Int) : Int) := of_decide_eq_true (by first | (with_reducible assumption) | assumption); first | exact h_ | (have e_ := (Kd.S_reads' HO_3.out).1; omega) | simpa using h_) (seg := [.int .u64 (IntKind.u64.wrap (((rd_T78 x3_1 (ji14)).f0) + 1))]) (j := 0) (show 1 ≤ 3 from by decide) (x' := (⟨IntKind.u64.wrap (((rd_T78 x3_1 (ji14)).f0) + 1), (rd_T78 x3_1 (ji14)).f1, (rd_T78 x3_1 (ji14)).f2⟩ : S78)) (k78_mkM _ _ _ (⟨IntKind.u64.wrap (((rd_T78 x3_1 (ji14)).f0) + 1), (rd_T78 x3_1 (ji14)).f1, (rd_T78 x3_1 (ji14)).f2⟩ : S78) (Kd.R_mono ge20_2 (fun _ h_ => Or.inl h_))) (fun _ hk => hk) (fun k_ hk_ => hk_.elim))); (try (have hx20_0 := hcc20 0 _ rfl)); (try (try simp only [show (k78).sz = 3 from rfl, Nat.mul_one, Nat.add_zero] at hx20_0)); (try (have hf20_0 := hfr20 0)); (try (try simp only [show (k78).sz = 3 from rfl, Nat.mul_one, Nat.add_zero] at hf20_0)); (try (clear hcl20 hcc20 hfr20 hM20 hoki20 hH20)))); refine store_event (t := 58) (p := 55) (v := ?vo_w21) (w1 := (wr.setCell ⟨go17, ((ji14) : Int).toNat * 3, none⟩ (.int .u64 (IntKind.u64.wrap (((rd_T78 x3_1 (ji14)).f0) + 1))))) ?hg ?ho ?hn ?hr ?_; (case ho => rfl); (case hg => rfl); (case hn => rfl); (case hr => first | (go_simp; done) | (go_simp; rfl)); intro w21 hw; have hg : wr.grownBy w21 (some go17) := (by rw [hw]; exact HP20.2); have hp_ : Kd.S k78 78 w21 w.heap.size (fun _ => True) (.slice (some ⟨go17, 0, none⟩) x3_1.length co18) y113 := (by rw [hw, Ny113.out]; exact HP20.1); clear HP20; have n0_ := Aside0.mk (hp_); have n1_ := Aside0.mk (blk_grown (g := gb104) (o := .cells #[.int .u64 a0_0, .int .u64 a0_1, .slice A0_2 l0_2.length c0_2, .int .u8 a0_3] 60 (0, 0)) (by (with_reducible repeat (first | refine blk_drewN ?_ _ | refine blk_drew ?_ | refine blk_alloc ?_ _)); exact BK104.out) hg (Kd.S_ne HO_3.out BK104.out (by decide))); have n2_ := Aside0.mk (Kd.R_after (v := (.slice (some ⟨go17, 0, none⟩) x3_1.length co18)) (v1 := (.slice (some ⟨go17, 0, none⟩) x3_1.length co18)) (ok := (fun _ => True)) (by (with_reducible repeat (first | apply Kd.R_alloc | apply Kd.R_drewN | apply Kd.R_drew)); exact HL112_2.out) hg (.inl rfl)); have n3_ := Aside0.mk ((by rw [hw]; exact below_set (HB.out) GB17.out : Below w.heap.size w w21)); clear HO_3; clear BK104; clear HL112_2; clear HB; have HO_3 := n0_; have BK104 := n1_; have HL112_2 := n2_; have HB := n3_; clear n0_ n1_ n2_ n3_; clear hg hw hp_)))
                go_ret
                exact ⟨_, by first | rfl | (simp [errW_none, errW_some] <;> rfl) | (simp only [← hji14]; first | rfl | (simp [errW_none, errW_some] <;> rfl)) | (simp [*, errW_none, errW_some] <;> rfl), by (with_reducible repeat (first | apply Kd.S_alloc | apply Kd.S_drewN | apply Kd.S_drew)); exact HO_3.out, by repeat (first | (with_reducible first | exact HB.out | apply below_alloc | apply pw_below_drewN | apply below_drew1 | refine below_set ?_ GE104.out) | exact HB.out)⟩
              · rw [if_neg c16] at H
                exact absurd H (by simp)
            · rw [if_neg c15] at H
              exact absurd H (by simp)
          · rw [if_neg c13] at H
            have c13b0 : (a0_3 == 1) = false := beq_eq_false_iff_ne.mpr c13
            have c13b1 : (a0_3 != 1) = true := bne_iff_ne.mpr c13
            by_cases c22 : a0_3 = 2
            · rw [if_pos c22] at H
              have c22b0 : (a0_3 == 2) = true := beq_iff_eq.mpr c22
              have c22b1 : (a0_3 != 2) = false := bne_eq_false_iff_eq.mpr c22
              clear c22
              obtain ⟨ji23, hji23⟩ : ∃ j_ : Int, (wrap64 ((x3_1.length : Int) - 1)) = j_ := ⟨_, rfl⟩
              replace H : (if 0 ≤ (ji23) then (if (ji23) < (x3_1.length : Int) then (some (x3_1.set ((ji23) : Int).toNat (⟨(rd_T78 x3_1 (ji23)).f0, IntKind.u64.wrap (((rd_T78 x3_1 (ji23)).f1) - 1), (rd_T78 x3_1 (ji23)).f2⟩ : S78))) else (none)) else (none)) = some r := by first | (rw [hji23] at H; exact H) | (simp only [hji23] at H ⊢; exact H)
              have hji23w : (IntKind.i64.wrap ((x3_1.length : Int) - 1)) = ji23 := (i64_w _).trans hji23
              by_cases c24 : 0 ≤ (ji23)
              · rw [if_pos c24] at H
                have c24b0 : decide (0 ≤ (ji23)) = true := decide_eq_true c24
                clear c24
                by_cases c25 : (ji23) < (x3_1.length : Int)
                · rw [if_pos c25] at H
                  have c25b0 : decide ((ji23) < (x3_1.length : Int)) = true := decide_eq_true c25
                  clear c25
                  obtain ⟨y115, hy115⟩ : ∃ y_ : List (S78), y_ = (x3_1.set ((ji23) : Int).toNat (⟨(rd_T78 x3_1 (ji23)).f0, IntKind.u64.wrap (((rd_T78 x3_1 (ji23)).f1) - 1), (rd_T78 x3_1 (ji23)).f2⟩ : S78)) := ⟨_, rfl⟩
                  replace H : (some y115) = some r := by first | (rw [hy115]; with_reducible exact H) | (have H2_ := (Option.bind_some _ _).symm.trans H; rw [hy115]; with_reducible exact H2_) | (have H2_ := (Option.bind_some _ _).symm.trans H; with_reducible exact H2_) | with_reducible exact H | (rw [hy115]; exact H) | exact H
                  have Ny115 := Aside0.mk hy115
                  clear hy115
                  obtain rfl := Option.some.inj H
                  obtain ⟨Ao27, co27, eo27⟩ := Kd.S_slice HO_3.out
                  subst eo27
                  have hcz28_0 : wr.cell? ⟨gb104, 0, none⟩ = some (.int .u64 a0_0) := (blk_cell BK104.out 0).trans rfl
                  have hcz28_1 : wr.cell? ⟨gb104, 1, none⟩ = some (.int .u64 a0_1) := (blk_cell BK104.out 1).trans rfl
                  have hcz28_2 : wr.cell? ⟨gb104, 2, none⟩ = some (.slice A0_2 l0_2.length c0_2) := (blk_cell BK104.out 2).trans rfl
                  have hcz28_3 : wr.cell? ⟨gb104, 3, none⟩ = some (.int .u8 a0_3) := (blk_cell BK104.out 3).trans rfl
                  have hfz28_0 := blk_frozen BK104.out 0
                  have hfz28_1 := blk_frozen BK104.out 1
                  have hfz28_2 := blk_frozen BK104.out 2
                  have hfz28_3 := blk_frozen BK104.out 3
                  have p114 : 0 ≤ ((ji23) : Int) := of_decide_eq_true (by first | (with_reducible assumption) | assumption)
                  have q114 : (ji23) < (x3_1.length : Int) := of_decide_eq_true (by first | (with_reducible assumption) | assumption)
                  obtain ⟨ad114, A114_2, c114_2, e114, hx114_0, hx114_1, hx114_2, hl114_2, hi114_2⟩ := at_T78 (Kd.S_reads' HO_3.out).2.2 (ji23) p114 q114
                  cases e114
                  obtain ⟨ce114, hce114, hMe114, hcc114⟩ := Kd.S_get HO_3.out z78 (ji23) p114 (by first | exact q114 | exact of_decide_eq_true (by first | (with_reducible assumption) | assumption) | (have e_ := (Kd.S_reads' HO_3.out).1; omega))
                  obtain ⟨ve114_2, rfl, ge114_2⟩ := k78_openM hMe114
                  have hv114_2 := hcc114 2 _ rfl
                  rw [add_field _ _ 2 (by omega)] at hv114_2
                  replace hv114_2 := Option.some.inj (hv114_2.symm.trans hx114_2)
                  rw [hv114_2] at ge114_2
                  have HL114_2 := Aside0.mk (show Kd.R (Kd.int .u8) 5 _ _ _ _ ((rd_T78 x3_1 (ji23)).f2) from ge114_2)
                  clear hv114_2 ge114_2
                  clear hcc114 hce114
                  have HR114_2 := Aside0.mk hi114_2
                  have HC114_2 := Aside0.mk hl114_2
                  clear hi114_2 hl114_2
                  replace p114 := eq_true p114
                  replace q114 := eq_true q114
                  have p26 : 0 ≤ ((ji23) : Int) := of_decide_eq_true (by first | (with_reducible assumption) | assumption)
                  have q26 : ((ji23) : Int) < ((x3_1.length : Int) : Int) := of_decide_eq_true (by first | (with_reducible assumption) | assumption)
                  obtain ⟨go26, co26, eo26, gb26, gl26, cl26, HG26⟩ := Kd.S_form HO_3.out (by omega)
                  (first | cases eo26 | (injection eo26 with ea_ en_ ec_; (first | subst ea_ | (injection ea_ with ea_; subst ea_)); subst ec_; clear en_))
                  have GB26 := Aside0.mk gb26
                  have GG26 := Aside0.mk HG26
                  clear gb26 gl26 HG26
                  (first | simp only [add_plain] at hx114_0 | skip)
                  (first | simp only [add_plain] at hx114_1 | skip)
                  (first | simp only [add_plain] at hx114_2 | skip)
                  obtain ⟨_, ce26, hcl26, hM26, hcc26, hfr26, _, _⟩ := Kd.S_elem HO_3.out z78 ((ji23) : Int) p26 q26
                  obtain ⟨ve26_2, rfl, ge26_2⟩ := k78_openM hM26
                  have hx26_0 : wr.cell? ⟨go26, ((ji23) : Int).toNat * 3, none⟩ = some (.int .u64 ((rd_T78 x3_1 (ji23)).f0)) := hcc26 0 _ rfl
                  have hx26_1 : wr.cell? ⟨go26, ((ji23) : Int).toNat * 3 + 1, none⟩ = some (.int .u64 ((rd_T78 x3_1 (ji23)).f1)) := hcc26 1 _ rfl
                  have hx26_2 : wr.cell? ⟨go26, ((ji23) : Int).toNat * 3 + 2, none⟩ = some (ve26_2) := hcc26 2 _ rfl
                  have hf26_0 : wr.frozen? ⟨go26, ((ji23) : Int).toNat * 3, none⟩ = false := hfr26 0
                  have hf26_1 : wr.frozen? ⟨go26, ((ji23) : Int).toNat * 3 + 1, none⟩ = false := hfr26 1
                  have hf26_2 : wr.frozen? ⟨go26, ((ji23) : Int).toNat * 3 + 2, none⟩ = false := hfr26 2
                  clear hcl26 hcc26 hfr26 hM26
                  replace p26 := eq_true p26
                  replace q26 := eq_true q26
                  have HX29 := Aside0.mk (show Kd.S k78 78 wr w.heap.size (fun k_ => ((fun _ => True)) k_ ∧ ¬ ((fun _ => False)) k_) (.slice (some ⟨go26, 0, none⟩) x3_1.length co27) x3_1 from (by (with_reducible repeat (first | apply Kd.S_alloc | apply Kd.S_drewN | apply Kd.S_drew)); exact Kd.S_mono HO_3.out (fun k_ hk => ⟨trivial, fun e_ => e_⟩)))
                  obtain ⟨oki29, ce29, hcl29, hM29, hcc29, hfr29, hoki29, hH29⟩ := Kd.S_elem HX29.out z78 ((ji23) : Int) (of_decide_eq_true (by first | (with_reducible assumption) | assumption)) (by have h_ : ((ji23) : Int) < ((x3_1.length : Int) : Int) := of_decide_eq_true (by first | (with_reducible assumption) | assumption); first | exact h_ | (have e_ := (Kd.S_reads' HO_3.out).1; omega) | simpa using h_)
                  obtain ⟨ve29_2, rfl, ge29_2⟩ := k78_openM hM29
                  have HP29 := Kd.S_seg hH29 (of_decide_eq_true (by first | (with_reducible assumption) | assumption)) (by have h_ : ((ji23) : Int) < ((x3_1.length : Int) : Int) := of_decide_eq_true (by first | (with_reducible assumption) | assumption); first | exact h_ | (have e_ := (Kd.S_reads' HO_3.out).1; omega) | simpa using h_) (seg := [.int .u64 (IntKind.u64.wrap (((rd_T78 x3_1 (ji23)).f1) - 1))]) (j := 1) (show 2 ≤ 3 from by decide) (x' := (⟨(rd_T78 x3_1 (ji23)).f0, IntKind.u64.wrap (((rd_T78 x3_1 (ji23)).f1) - 1), (rd_T78 x3_1 (ji23)).f2⟩ : S78)) (k78_mkM _ _ _ (⟨(rd_T78 x3_1 (ji23)).f0, IntKind.u64.wrap (((rd_T78 x3_1 (ji23)).f1) - 1), (rd_T78 x3_1 (ji23)).f2⟩ : S78) (Kd.R_mono ge29_2 (fun _ h_ => Or.inl h_))) (fun _ hk => hk) (fun k_ hk_ => hk_.elim)
                  have hx29_1 := hcc29 1 _ rfl
                  (try simp only [show (k78).sz = 3 from rfl, Nat.mul_one, Nat.add_zero] at hx29_1)
                  have hf29_1 := hfr29 1
                  (try simp only [show (k78).sz = 3 from rfl, Nat.mul_one, Nat.add_zero] at hf29_1)
                  clear hcl29 hcc29 hfr29 hM29 hoki29 hH29
                  go_wp2_with (first | ((with_reducible refine gate_store (t := 58) (p := 66) rfl ?_); (try (rw [drewN_self wr]; generalize hq_ : World.drewN wr _ = wr; have n0_ := Aside0.mk (Kd.S_at hq_ HO_3.out); have n1_ := Aside0.mk (Kd.R_at hq_ HL114_2.out); have n2_ := Aside0.mk (blk_at hq_ BK104.out); have n3_ := Aside0.mk (below_at hq_ HB.out); clear hq_ HO_3 HL114_2 BK104 HB; have HO_3 := n0_; have HL114_2 := n1_; have BK104 := n2_; have HB := n3_; clear n0_ n1_ n2_ n3_; (try (have HX29 := Aside0.mk (show Kd.S k78 78 wr w.heap.size (fun k_ => ((fun _ => True)) k_ ∧ ¬ ((fun _ => False)) k_) (.slice (some ⟨go26, 0, none⟩) x3_1.length co27) x3_1 from (by (with_reducible repeat (first | apply Kd.S_alloc | apply Kd.S_drewN | apply Kd.S_drew)); exact Kd.S_mono HO_3.out (fun k_ hk => ⟨trivial, fun e_ => e_⟩))))); (try (obtain ⟨oki29, ce29, hcl29, hM29, hcc29, hfr29, hoki29, hH29⟩ := Kd.S_elem HX29.out z78 ((ji23) : Int) (of_decide_eq_true (by first | (with_reducible assumption) | assumption)) (by have h_ : ((ji23) : Int) < ((x3_1.length : Int) : Int) := of_decide_eq_true (by first | (with_reducible assumption) | assumption); first | exact h_ | (have e_ := (Kd.S_reads' HO_3.out).1; omega) | simpa using h_))); (try (obtain ⟨ve29_2, rfl, ge29_2⟩ := k78_openM hM29)); (try (have HP29 := Kd.S_seg hH29 (of_decide_eq_true (by first | (with_reducible assumption) | assumption)) (by have h_ : ((ji23) : Int) < ((x3_1.length : Int) : Int) := of_decide_eq_true (by first | (with_reducible assumption) | assumption); first | exact h_ | (have e_ := (Kd.S_reads' HO_3.out).1; omega) | simpa using h_) (seg := [.int .u64 (IntKind.u64.wrap (((rd_T78 x3_1 (ji23)).f1) - 1))]) (j := 1) (show 2 ≤ 3 from by decide) (x' := (⟨(rd_T78 x3_1 (ji23)).f0, IntKind.u64.wrap (((rd_T78 x3_1 (ji23)).f1) - 1), (rd_T78 x3_1 (ji23)).f2⟩ : S78)) (k78_mkM _ _ _ (⟨(rd_T78 x3_1 (ji23)).f0, IntKind.u64.wrap (((rd_T78 x3_1 (ji23)).f1) - 1), (rd_T78 x3_1 (ji23)).f2⟩ : S78) (Kd.R_mono ge29_2 (fun _ h_ => Or.inl h_))) (fun _ hk => hk) (fun k_ hk_ => hk_.elim))); (try (have hx29_1 := hcc29 1 _ rfl)); (try (try simp only [show (k78).sz = 3 from rfl, Nat.mul_one, Nat.add_zero] at hx29_1)); (try (have hf29_1 := hfr29 1)); (try (try simp only [show (k78).sz = 3 from rfl, Nat.mul_one, Nat.add_zero] at hf29_1)); (try (clear hcl29 hcc29 hfr29 hM29 hoki29 hH29)))); refine store_event (t := 58) (p := 66) (v := ?vo_w30) (w1 := (wr.setCell ⟨go26, ((ji23) : Int).toNat * 3 + 1, none⟩ (.int .u64 (IntKind.u64.wrap (((rd_T78 x3_1 (ji23)).f1) - 1))))) ?hg ?ho ?hn ?hr ?_; (case ho => rfl); (case hg => rfl); (case hn => rfl); (case hr => first | (go_simp; done) | (go_simp; rfl)); intro w30 hw; have hg : wr.grownBy w30 (some go26) := (by rw [hw]; exact HP29.2); have hp_ : Kd.S k78 78 w30 w.heap.size (fun _ => True) (.slice (some ⟨go26, 0, none⟩) x3_1.length co27) y115 := (by rw [hw, Ny115.out]; exact HP29.1); clear HP29; have n0_ := Aside0.mk (hp_); have n1_ := Aside0.mk (blk_grown (g := gb104) (o := .cells #[.int .u64 a0_0, .int .u64 a0_1, .slice A0_2 l0_2.length c0_2, .int .u8 a0_3] 60 (0, 0)) (by (with_reducible repeat (first | refine blk_drewN ?_ _ | refine blk_drew ?_ | refine blk_alloc ?_ _)); exact BK104.out) hg (Kd.S_ne HO_3.out BK104.out (by decide))); have n2_ := Aside0.mk (Kd.R_after (v := (.slice (some ⟨go26, 0, none⟩) x3_1.length co27)) (v1 := (.slice (some ⟨go26, 0, none⟩) x3_1.length co27)) (ok := (fun _ => True)) (by (with_reducible repeat (first | apply Kd.R_alloc | apply Kd.R_drewN | apply Kd.R_drew)); exact HL114_2.out) hg (.inl rfl)); have n3_ := Aside0.mk ((by rw [hw]; exact below_set (HB.out) GB26.out : Below w.heap.size w w30)); clear HO_3; clear BK104; clear HL114_2; clear HB; have HO_3 := n0_; have BK104 := n1_; have HL114_2 := n2_; have HB := n3_; clear n0_ n1_ n2_ n3_; clear hg hw hp_))
                  repeat (go_quiet (first | ((with_reducible refine gate_store (t := 58) (p := 66) rfl ?_); (try (rw [drewN_self wr]; generalize hq_ : World.drewN wr _ = wr; have n0_ := Aside0.mk (Kd.S_at hq_ HO_3.out); have n1_ := Aside0.mk (Kd.R_at hq_ HL114_2.out); have n2_ := Aside0.mk (blk_at hq_ BK104.out); have n3_ := Aside0.mk (below_at hq_ HB.out); clear hq_ HO_3 HL114_2 BK104 HB; have HO_3 := n0_; have HL114_2 := n1_; have BK104 := n2_; have HB := n3_; clear n0_ n1_ n2_ n3_; (try (have HX29 := Aside0.mk (show Kd.S k78 78 wr w.heap.size (fun k_ => ((fun _ => True)) k_ ∧ ¬ ((fun _ => False)) k_) (.slice (some ⟨go26, 0, none⟩) x3_1.length co27) x3_1 from (by (with_reducible repeat (first | apply Kd.S_alloc | apply Kd.S_drewN | apply Kd.S_drew)); exact Kd.S_mono HO_3.out (fun k_ hk => ⟨trivial, fun e_ => e_⟩))))); (try (obtain ⟨oki29, ce29, hcl29, hM29, hcc29, hfr29, hoki29, hH29⟩ := Kd.S_elem HX29.out z78 ((ji23) : Int) (of_decide_eq_true (by first | (with_reducible assumption) | assumption)) (by have h_ : ((ji23) : Int) < ((x3_1.length : Int) : Int) := of_decide_eq_true (by first | (with_reducible assumption) | assumption); first | exact h_ | (have e_ := (Kd.S_reads' HO_3.out).1; omega) | simpa using h_))); (try (obtain ⟨ve29_2, rfl, ge29_2⟩ := k78_openM hM29)); (try (have HP29 := Kd.S_seg hH29 (of_decide_eq_true (by first | (with_reducible assumption) | assumption)) (by have h_ : ((ji23) : Int) < ((x3_1.length : Int) : Int) := of_decide_eq_true (by first | (with_reducible assumption) | assumption); first | exact h_ | (have e_ := (Kd.S_reads' HO_3.out).1; omega) | simpa using h_) (seg := [.int .u64 (IntKind.u64.wrap (((rd_T78 x3_1 (ji23)).f1) - 1))]) (j := 1) (show 2 ≤ 3 from by decide) (x' := (⟨(rd_T78 x3_1 (ji23)).f0, IntKind.u64.wrap (((rd_T78 x3_1 (ji23)).f1) - 1), (rd_T78 x3_1 (ji23)).f2⟩ : S78)) (k78_mkM _ _ _ (⟨(rd_T78 x3_1 (ji23)).f0, IntKind.u64.wrap (((rd_T78 x3_1 (ji23)).f1) - 1), (rd_T78 x3_1 (ji23)).f2⟩ : S78) (Kd.R_mono ge29_2 (fun _ h_ => Or.inl h_))) (fun _ hk => hk) (fun k_ hk_ => hk_.elim))); (try (have hx29_1 := hcc29 1 _ rfl)); (try (try simp only [show (k78).sz = 3 from rfl, Nat.mul_one, Nat.add_zero] at hx29_1)); (try (have hf29_1 := hfr29 1)); (try (try simp only [show (k78).sz = 3 from rfl, Nat.mul_one, Nat.add_zero] at hf29_1)); (try (clear hcl29 hcc29 hfr29 hM29 hoki29 hH29)))); refine store_event (t := 58) (p := 66) (v := ?vo_w30) (w1 := (wr.setCell ⟨go26, ((ji23) : Int).toNat * 3 + 1, none⟩ (.int .u64 (IntKind.u64.wrap (((rd_T78 x3_1 (ji23)).f1) - 1))))) ?hg ?ho ?hn ?hr ?_; (case ho => rfl); (case hg => rfl); (case hn => rfl); (case hr => first | (go_simp; done) | (go_simp; rfl)); intro w30 hw; have hg : wr.grownBy w30 (some go26) := (by rw [hw]; exact HP29.2); have hp_ : Kd.S k78 78 w30 w.heap.size (fun _ => True) (.slice (some ⟨go26, 0, none⟩) x3_1.length co27) y115 := (by rw [hw, Ny115.out]; exact HP29.1); clear HP29; have n0_ := Aside0.mk (hp_); have n1_ := Aside0.mk (blk_grown (g := gb104) (o := .cells #[.int .u64 a0_0, .int .u64 a0_1, .slice A0_2 l0_2.length c0_2, .int .u8 a0_3] 60 (0, 0)) (by (with_reducible repeat (first | refine blk_drewN ?_ _ | refine blk_drew ?_ | refine blk_alloc ?_ _)); exact BK104.out) hg (Kd.S_ne HO_3.out BK104.out (by decide))); have n2_ := Aside0.mk (Kd.R_after (v := (.slice (some ⟨go26, 0, none⟩) x3_1.length co27)) (v1 := (.slice (some ⟨go26, 0, none⟩) x3_1.length co27)) (ok := (fun _ => True)) (by (with_reducible repeat (first | apply Kd.R_alloc | apply Kd.R_drewN | apply Kd.R_drew)); exact HL114_2.out) hg (.inl rfl)); have n3_ := Aside0.mk ((by rw [hw]; exact below_set (HB.out) GB26.out : Below w.heap.size w w30)); clear HO_3; clear BK104; clear HL114_2; clear HB; have HO_3 := n0_; have BK104 := n1_; have HL114_2 := n2_; have HB := n3_; clear n0_ n1_ n2_ n3_; clear hg hw hp_)); try go_wp2_with (first | ((with_reducible refine gate_store (t := 58) (p := 66) rfl ?_); (try (rw [drewN_self wr]; generalize hq_ : World.drewN wr _ = wr; have n0_ := Aside0.mk (Kd.S_at hq_ HO_3.out); have n1_ := Aside0.mk (Kd.R_at hq_ HL114_2.out); have n2_ := Aside0.mk (blk_at hq_ BK104.out); have n3_ := Aside0.mk (below_at hq_ HB.out); clear hq_ HO_3 HL114_2 BK104 HB; have HO_3 := n0_; have HL114_2 := n1_; have BK104 := n2_; have HB := n3_; clear n0_ n1_ n2_ n3_; (try (have HX29 := Aside0.mk (show Kd.S k78 78 wr w.heap.size (fun k_ => ((fun _ => True)) k_ ∧ ¬ ((fun _ => False)) k_) (.slice (some ⟨go26, 0, none⟩) x3_1.length co27) x3_1 from (by (with_reducible repeat (first | apply Kd.S_alloc | apply Kd.S_drewN | apply Kd.S_drew)); exact Kd.S_mono HO_3.out (fun k_ hk => ⟨trivial, fun e_ => e_⟩))))); (try (obtain ⟨oki29, ce29, hcl29, hM29, hcc29, hfr29, hoki29, hH29⟩ := Kd.S_elem HX29.out z78 ((ji23) : Int) (of_decide_eq_true (by first | (with_reducible assumption) | assumption)) (by have h_ : ((ji23) : Int) < ((x3_1.length : Int) : Int) := of_decide_eq_true (by first | (with_reducible assumption) | assumption); first | exact h_ | (have e_ := (Kd.S_reads' HO_3.out).1; omega) | simpa using h_))); (try (obtain ⟨ve29_2, rfl, ge29_2⟩ := k78_openM hM29)); (try (have HP29 := Kd.S_seg hH29 (of_decide_eq_true (by first | (with_reducible assumption) | assumption)) (by have h_ : ((ji23) : Int) < ((x3_1.length : Int) : Int) := of_decide_eq_true (by first | (with_reducible assumption) | assumption); first | exact h_ | (have e_ := (Kd.S_reads' HO_3.out).1; omega) | simpa using h_) (seg := [.int .u64 (IntKind.u64.wrap (((rd_T78 x3_1 (ji23)).f1) - 1))]) (j := 1) (show 2 ≤ 3 from by decide) (x' := (⟨(rd_T78 x3_1 (ji23)).f0, IntKind.u64.wrap (((rd_T78 x3_1 (ji23)).f1) - 1), (rd_T78 x3_1 (ji23)).f2⟩ : S78)) (k78_mkM _ _ _ (⟨(rd_T78 x3_1 (ji23)).f0, IntKind.u64.wrap (((rd_T78 x3_1 (ji23)).f1) - 1), (rd_T78 x3_1 (ji23)).f2⟩ : S78) (Kd.R_mono ge29_2 (fun _ h_ => Or.inl h_))) (fun _ hk => hk) (fun k_ hk_ => hk_.elim))); (try (have hx29_1 := hcc29 1 _ rfl)); (try (try simp only [show (k78).sz = 3 from rfl, Nat.mul_one, Nat.add_zero] at hx29_1)); (try (have hf29_1 := hfr29 1)); (try (try simp only [show (k78).sz = 3 from rfl, Nat.mul_one, Nat.add_zero] at hf29_1)); (try (clear hcl29 hcc29 hfr29 hM29 hoki29 hH29)))); refine store_event (t := 58) (p := 66) (v := ?vo_w30) (w1 := (wr.setCell ⟨go26, ((ji23) : Int).toNat * 3 + 1, none⟩ (.int .u64 (IntKind.u64.wrap (((rd_T78 x3_1 (ji23)).f1) - 1))))) ?hg ?ho ?hn ?hr ?_; (case ho => rfl); (case hg => rfl); (case hn => rfl); (case hr => first | (go_simp; done) | (go_simp; rfl)); intro w30 hw; have hg : wr.grownBy w30 (some go26) := (by rw [hw]; exact HP29.2); have hp_ : Kd.S k78 78 w30 w.heap.size (fun _ => True) (.slice (some ⟨go26, 0, none⟩) x3_1.length co27) y115 := (by rw [hw, Ny115.out]; exact HP29.1); clear HP29; have n0_ := Aside0.mk (hp_); have n1_ := Aside0.mk (blk_grown (g := gb104) (o := .cells #[.int .u64 a0_0, .int .u64 a0_1, .slice A0_2 l0_2.length c0_2, .int .u8 a0_3] 60 (0, 0)) (by (with_reducible repeat (first | refine blk_drewN ?_ _ | refine blk_drew ?_ | refine blk_alloc ?_ _)); exact BK104.out) hg (Kd.S_ne HO_3.out BK104.out (by decide))); have n2_ := Aside0.mk (Kd.R_after (v := (.slice (some ⟨go26, 0, none⟩) x3_1.length co27)) (v1 := (.slice (some ⟨go26, 0, none⟩) x3_1.length co27)) (ok := (fun _ => True)) (by (with_reducible repeat (first | apply Kd.R_alloc | apply Kd.R_drewN | apply Kd.R_drew)); exact HL114_2.out) hg (.inl rfl)); have n3_ := Aside0.mk ((by rw [hw]; exact below_set (HB.out) GB26.out : Below w.heap.size w w30)); clear HO_3; clear BK104; clear HL114_2; clear HB; have HO_3 := n0_; have BK104 := n1_; have HL114_2 := n2_; have HB := n3_; clear n0_ n1_ n2_ n3_; clear hg hw hp_)))
                  go_ret
                  exact ⟨_, by first | rfl | (simp [errW_none, errW_some] <;> rfl) | (simp only [← hji23]; first | rfl | (simp [errW_none, errW_some] <;> rfl)) | (simp [*, errW_none, errW_some] <;> rfl), by (with_reducible repeat (first | apply Kd.S_alloc | apply Kd.S_drewN | apply Kd.S_drew)); exact HO_3.out, by repeat (first | (with_reducible first | exact HB.out | apply below_alloc | apply pw_below_drewN | apply below_drew1 | refine below_set ?_ GE104.out) | exact HB.out)⟩
                · rw [if_neg c25] at H
                  exact absurd H (by simp)
              · rw [if_neg c24] at H
                exact absurd H (by simp)
            · rw [if_neg c22] at H
              have c22b0 : (a0_3 == 2) = false := beq_eq_false_iff_ne.mpr c22
              have c22b1 : (a0_3 != 2) = true := bne_iff_ne.mpr c22
              by_cases c31 : a0_3 = 3
              · rw [if_pos c31] at H
                have c31b0 : (a0_3 == 3) = true := beq_iff_eq.mpr c31
                have c31b1 : (a0_3 != 3) = false := bne_eq_false_iff_eq.mpr c31
                clear c31
                obtain ⟨ji32, hji32⟩ : ∃ j_ : Int, (wrap64 ((x3_1.length : Int) - 1)) = j_ := ⟨_, rfl⟩
                replace H : (if 0 ≤ (ji32) then (if (ji32) < (x3_1.length : Int) then (some (x3_1.set ((ji32) : Int).toNat (⟨18446744073709551615, (rd_T78 x3_1 (ji32)).f1, (rd_T78 x3_1 (ji32)).f2⟩ : S78))) else (none)) else (none)) = some r := by first | (rw [hji32] at H; exact H) | (simp only [hji32] at H ⊢; exact H)
                have hji32w : (IntKind.i64.wrap ((x3_1.length : Int) - 1)) = ji32 := (i64_w _).trans hji32
                by_cases c33 : 0 ≤ (ji32)
                · rw [if_pos c33] at H
                  have c33b0 : decide (0 ≤ (ji32)) = true := decide_eq_true c33
                  clear c33
                  by_cases c34 : (ji32) < (x3_1.length : Int)
                  · rw [if_pos c34] at H
                    have c34b0 : decide ((ji32) < (x3_1.length : Int)) = true := decide_eq_true c34
                    clear c34
                    obtain ⟨y116, hy116⟩ : ∃ y_ : List (S78), y_ = (x3_1.set ((ji32) : Int).toNat (⟨18446744073709551615, (rd_T78 x3_1 (ji32)).f1, (rd_T78 x3_1 (ji32)).f2⟩ : S78)) := ⟨_, rfl⟩
                    replace H : (some y116) = some r := by first | (rw [hy116]; with_reducible exact H) | (have H2_ := (Option.bind_some _ _).symm.trans H; rw [hy116]; with_reducible exact H2_) | (have H2_ := (Option.bind_some _ _).symm.trans H; with_reducible exact H2_) | with_reducible exact H | (rw [hy116]; exact H) | exact H
                    have Ny116 := Aside0.mk hy116
                    clear hy116
                    obtain rfl := Option.some.inj H
                    obtain ⟨Ao36, co36, eo36⟩ := Kd.S_slice HO_3.out
                    subst eo36
                    have hcz37_0 : wr.cell? ⟨gb104, 0, none⟩ = some (.int .u64 a0_0) := (blk_cell BK104.out 0).trans rfl
                    have hcz37_1 : wr.cell? ⟨gb104, 1, none⟩ = some (.int .u64 a0_1) := (blk_cell BK104.out 1).trans rfl
                    have hcz37_2 : wr.cell? ⟨gb104, 2, none⟩ = some (.slice A0_2 l0_2.length c0_2) := (blk_cell BK104.out 2).trans rfl
                    have hcz37_3 : wr.cell? ⟨gb104, 3, none⟩ = some (.int .u8 a0_3) := (blk_cell BK104.out 3).trans rfl
                    have hfz37_0 := blk_frozen BK104.out 0
                    have hfz37_1 := blk_frozen BK104.out 1
                    have hfz37_2 := blk_frozen BK104.out 2
                    have hfz37_3 := blk_frozen BK104.out 3
                    have p35 : 0 ≤ ((ji32) : Int) := of_decide_eq_true (by first | (with_reducible assumption) | assumption)
                    have q35 : ((ji32) : Int) < ((x3_1.length : Int) : Int) := of_decide_eq_true (by first | (with_reducible assumption) | assumption)
                    obtain ⟨go35, co35, eo35, gb35, gl35, cl35, HG35⟩ := Kd.S_form HO_3.out (by omega)
                    (first | cases eo35 | (injection eo35 with ea_ en_ ec_; (first | subst ea_ | (injection ea_ with ea_; subst ea_)); subst ec_; clear en_))
                    have GB35 := Aside0.mk gb35
                    have GG35 := Aside0.mk HG35
                    clear gb35 gl35 HG35
                    obtain ⟨_, ce35, hcl35, hM35, hcc35, hfr35, _, _⟩ := Kd.S_elem HO_3.out z78 ((ji32) : Int) p35 q35
                    obtain ⟨ve35_2, rfl, ge35_2⟩ := k78_openM hM35
                    have hx35_0 : wr.cell? ⟨go35, ((ji32) : Int).toNat * 3, none⟩ = some (.int .u64 ((rd_T78 x3_1 (ji32)).f0)) := hcc35 0 _ rfl
                    have hx35_1 : wr.cell? ⟨go35, ((ji32) : Int).toNat * 3 + 1, none⟩ = some (.int .u64 ((rd_T78 x3_1 (ji32)).f1)) := hcc35 1 _ rfl
                    have hx35_2 : wr.cell? ⟨go35, ((ji32) : Int).toNat * 3 + 2, none⟩ = some (ve35_2) := hcc35 2 _ rfl
                    have hf35_0 : wr.frozen? ⟨go35, ((ji32) : Int).toNat * 3, none⟩ = false := hfr35 0
                    have hf35_1 : wr.frozen? ⟨go35, ((ji32) : Int).toNat * 3 + 1, none⟩ = false := hfr35 1
                    have hf35_2 : wr.frozen? ⟨go35, ((ji32) : Int).toNat * 3 + 2, none⟩ = false := hfr35 2
                    clear hcl35 hcc35 hfr35 hM35
                    replace p35 := eq_true p35
                    replace q35 := eq_true q35
                    have HX38 := Aside0.mk (show Kd.S k78 78 wr w.heap.size (fun k_ => ((fun _ => True)) k_ ∧ ¬ ((fun _ => False)) k_) (.slice (some ⟨go35, 0, none⟩) x3_1.length co36) x3_1 from (by (with_reducible repeat (first | apply Kd.S_alloc | apply Kd.S_drewN | apply Kd.S_drew)); exact Kd.S_mono HO_3.out (fun k_ hk => ⟨trivial, fun e_ => e_⟩)))
                    obtain ⟨oki38, ce38, hcl38, hM38, hcc38, hfr38, hoki38, hH38⟩ := Kd.S_elem HX38.out z78 ((ji32) : Int) (of_decide_eq_true (by first | (with_reducible assumption) | assumption)) (by have h_ : ((ji32) : Int) < ((x3_1.length : Int) : Int) := of_decide_eq_true (by first | (with_reducible assumption) | assumption); first | exact h_ | (have e_ := (Kd.S_reads' HO_3.out).1; omega) | simpa using h_)
                    obtain ⟨ve38_2, rfl, ge38_2⟩ := k78_openM hM38
                    have HP38 := Kd.S_seg hH38 (of_decide_eq_true (by first | (with_reducible assumption) | assumption)) (by have h_ : ((ji32) : Int) < ((x3_1.length : Int) : Int) := of_decide_eq_true (by first | (with_reducible assumption) | assumption); first | exact h_ | (have e_ := (Kd.S_reads' HO_3.out).1; omega) | simpa using h_) (seg := [.int .u64 18446744073709551615]) (j := 0) (show 1 ≤ 3 from by decide) (x' := (⟨18446744073709551615, (rd_T78 x3_1 (ji32)).f1, (rd_T78 x3_1 (ji32)).f2⟩ : S78)) (k78_mkM _ _ _ (⟨18446744073709551615, (rd_T78 x3_1 (ji32)).f1, (rd_T78 x3_1 (ji32)).f2⟩ : S78) (Kd.R_mono ge38_2 (fun _ h_ => Or.inl h_))) (fun _ hk => hk) (fun k_ hk_ => hk_.elim)
                    have hx38_0 := hcc38 0 _ rfl
                    (try simp only [show (k78).sz = 3 from rfl, Nat.mul_one, Nat.add_zero] at hx38_0)
                    have hf38_0 := hfr38 0
                    (try simp only [show (k78).sz = 3 from rfl, Nat.mul_one, Nat.add_zero] at hf38_0)
                    clear hcl38 hcc38 hfr38 hM38 hoki38 hH38
                    go_wp2_with (first | ((with_reducible refine gate_store (t := 58) (p := 73) rfl ?_); (try (rw [drewN_self wr]; generalize hq_ : World.drewN wr _ = wr; have n0_ := Aside0.mk (Kd.S_at hq_ HO_3.out); have n1_ := Aside0.mk (blk_at hq_ BK104.out); have n2_ := Aside0.mk (below_at hq_ HB.out); clear hq_ HO_3 BK104 HB; have HO_3 := n0_; have BK104 := n1_; have HB := n2_; clear n0_ n1_ n2_; (try (have HX38 := Aside0.mk (show Kd.S k78 78 wr w.heap.size (fun k_ => ((fun _ => True)) k_ ∧ ¬ ((fun _ => False)) k_) (.slice (some ⟨go35, 0, none⟩) x3_1.length co36) x3_1 from (by (with_reducible repeat (first | apply Kd.S_alloc | apply Kd.S_drewN | apply Kd.S_drew)); exact Kd.S_mono HO_3.out (fun k_ hk => ⟨trivial, fun e_ => e_⟩))))); (try (obtain ⟨oki38, ce38, hcl38, hM38, hcc38, hfr38, hoki38, hH38⟩ := Kd.S_elem HX38.out z78 ((ji32) : Int) (of_decide_eq_true (by first | (with_reducible assumption) | assumption)) (by have h_ : ((ji32) : Int) < ((x3_1.length : Int) : Int) := of_decide_eq_true (by first | (with_reducible assumption) | assumption); first | exact h_ | (have e_ := (Kd.S_reads' HO_3.out).1; omega) | simpa using h_))); (try (obtain ⟨ve38_2, rfl, ge38_2⟩ := k78_openM hM38)); (try (have HP38 := Kd.S_seg hH38 (of_decide_eq_true (by first | (with_reducible assumption) | assumption)) (by have h_ : ((ji32) : Int) < ((x3_1.length : Int) : Int) := of_decide_eq_true (by first | (with_reducible assumption) | assumption); first | exact h_ | (have e_ := (Kd.S_reads' HO_3.out).1; omega) | simpa using h_) (seg := [.int .u64 18446744073709551615]) (j := 0) (show 1 ≤ 3 from by decide) (x' := (⟨18446744073709551615, (rd_T78 x3_1 (ji32)).f1, (rd_T78 x3_1 (ji32)).f2⟩ : S78)) (k78_mkM _ _ _ (⟨18446744073709551615, (rd_T78 x3_1 (ji32)).f1, (rd_T78 x3_1 (ji32)).f2⟩ : S78) (Kd.R_mono ge38_2 (fun _ h_ => Or.inl h_))) (fun _ hk => hk) (fun k_ hk_ => hk_.elim))); (try (have hx38_0 := hcc38 0 _ rfl)); (try (try simp only [show (k78).sz = 3 from rfl, Nat.mul_one, Nat.add_zero] at hx38_0)); (try (have hf38_0 := hfr38 0)); (try (try simp only [show (k78).sz = 3 from rfl, Nat.mul_one, Nat.add_zero] at hf38_0)); (try (clear hcl38 hcc38 hfr38 hM38 hoki38 hH38)))); refine store_event (t := 58) (p := 73) (v := ?vo_w39) (w1 := (wr.setCell ⟨go35, ((ji32) : Int).toNat * 3, none⟩ (.int .u64 18446744073709551615))) ?hg ?ho ?hn ?hr ?_; (case ho => rfl); (case hg => rfl); (case hn => rfl); (case hr => first | (go_simp; done) | (go_simp; rfl)); intro w39 hw; have hg : wr.grownBy w39 (some go35) := (by rw [hw]; exact HP38.2); have hp_ : Kd.S k78 78 w39 w.heap.size (fun _ => True) (.slice (some ⟨go35, 0, none⟩) x3_1.length co36) y116 := (by rw [hw, Ny116.out]; exact HP38.1); clear HP38; have n0_ := Aside0.mk (hp_); have n1_ := Aside0.mk (blk_grown (g := gb104) (o := .cells #[.int .u64 a0_0, .int .u64 a0_1, .slice A0_2 l0_2.length c0_2, .int .u8 a0_3] 60 (0, 0)) (by (with_reducible repeat (first | refine blk_drewN ?_ _ | refine blk_drew ?_ | refine blk_alloc ?_ _)); exact BK104.out) hg (Kd.S_ne HO_3.out BK104.out (by decide))); have n2_ := Aside0.mk ((by rw [hw]; exact below_set (HB.out) GB35.out : Below w.heap.size w w39)); clear HO_3; clear BK104; clear HB; have HO_3 := n0_; have BK104 := n1_; have HB := n2_; clear n0_ n1_ n2_; clear hg hw hp_))
                    repeat (go_quiet (first | ((with_reducible refine gate_store (t := 58) (p := 73) rfl ?_); (try (rw [drewN_self wr]; generalize hq_ : World.drewN wr _ = wr; have n0_ := Aside0.mk (Kd.S_at hq_ HO_3.out); have n1_ := Aside0.mk (blk_at hq_ BK104.out); have n2_ := Aside0.mk (below_at hq_ HB.out); clear hq_ HO_3 BK104 HB; have HO_3 := n0_; have BK104 := n1_; have HB := n2_; clear n0_ n1_ n2_; (try (have HX38 := Aside0.mk (show Kd.S k78 78 wr w.heap.size (fun k_ => ((fun _ => True)) k_ ∧ ¬ ((fun _ => False)) k_) (.slice (some ⟨go35, 0, none⟩) x3_1.length co36) x3_1 from (by (with_reducible repeat (first | apply Kd.S_alloc | apply Kd.S_drewN | apply Kd.S_drew)); exact Kd.S_mono HO_3.out (fun k_ hk => ⟨trivial, fun e_ => e_⟩))))); (try (obtain ⟨oki38, ce38, hcl38, hM38, hcc38, hfr38, hoki38, hH38⟩ := Kd.S_elem HX38.out z78 ((ji32) : Int) (of_decide_eq_true (by first | (with_reducible assumption) | assumption)) (by have h_ : ((ji32) : Int) < ((x3_1.length : Int) : Int) := of_decide_eq_true (by first | (with_reducible assumption) | assumption); first | exact h_ | (have e_ := (Kd.S_reads' HO_3.out).1; omega) | simpa using h_))); (try (obtain ⟨ve38_2, rfl, ge38_2⟩ := k78_openM hM38)); (try (have HP38 := Kd.S_seg hH38 (of_decide_eq_true (by first | (with_reducible assumption) | assumption)) (by have h_ : ((ji32) : Int) < ((x3_1.length : Int) : Int) := of_decide_eq_true (by first | (with_reducible assumption) | assumption); first | exact h_ | (have e_ := (Kd.S_reads' HO_3.out).1; omega) | simpa using h_) (seg := [.int .u64 18446744073709551615]) (j := 0) (show 1 ≤ 3 from by decide) (x' := (⟨18446744073709551615, (rd_T78 x3_1 (ji32)).f1, (rd_T78 x3_1 (ji32)).f2⟩ : S78)) (k78_mkM _ _ _ (⟨18446744073709551615, (rd_T78 x3_1 (ji32)).f1, (rd_T78 x3_1 (ji32)).f2⟩ : S78) (Kd.R_mono ge38_2 (fun _ h_ => Or.inl h_))) (fun _ hk => hk) (fun k_ hk_ => hk_.elim))); (try (have hx38_0 := hcc38 0 _ rfl)); (try (try simp only [show (k78).sz = 3 from rfl, Nat.mul_one, Nat.add_zero] at hx38_0)); (try (have hf38_0 := hfr38 0)); (try (try simp only [show (k78).sz = 3 from rfl, Nat.mul_one, Nat.add_zero] at hf38_0)); (try (clear hcl38 hcc38 hfr38 hM38 hoki38 hH38)))); refine store_event (t := 58) (p := 73) (v := ?vo_w39) (w1 := (wr.setCell ⟨go35, ((ji32) : Int).toNat * 3, none⟩ (.int .u64 18446744073709551615))) ?hg ?ho ?hn ?hr ?_; (case ho => rfl); (case hg => rfl); (case hn => rfl); (case hr => first | (go_simp; done) | (go_simp; rfl)); intro w39 hw; have hg : wr.grownBy w39 (some go35) := (by rw [hw]; exact HP38.2); have hp_ : Kd.S k78 78 w39 w.heap.size (fun _ => True) (.slice (some ⟨go35, 0, none⟩) x3_1.length co36) y116 := (by rw [hw, Ny116.out]; exact HP38.1); clear HP38; have n0_ := Aside0.mk (hp_); have n1_ := Aside0.mk (blk_grown (g := gb104) (o := .cells #[.int .u64 a0_0, .int .u64 a0_1, .slice A0_2 l0_2.length c0_2, .int .u8 a0_3] 60 (0, 0)) (by (with_reducible repeat (first | refine blk_drewN ?_ _ | refine blk_drew ?_ | refine blk_alloc ?_ _)); exact BK104.out) hg (Kd.S_ne HO_3.out BK104.out (by decide))); have n2_ := Aside0.mk ((by rw [hw]; exact below_set (HB.out) GB35.out : Below w.heap.size w w39)); clear HO_3; clear BK104; clear HB; have HO_3 := n0_; have BK104 := n1_; have HB := n2_; clear n0_ n1_ n2_; clear hg hw hp_)); try go_wp2_with (first | ((with_reducible refine gate_store (t := 58) (p := 73) rfl ?_); (try (rw [drewN_self wr]; generalize hq_ : World.drewN wr _ = wr; have n0_ := Aside0.mk (Kd.S_at hq_ HO_3.out); have n1_ := Aside0.mk (blk_at hq_ BK104.out); have n2_ := Aside0.mk (below_at hq_ HB.out); clear hq_ HO_3 BK104 HB; have HO_3 := n0_; have BK104 := n1_; have HB := n2_; clear n0_ n1_ n2_; (try (have HX38 := Aside0.mk (show Kd.S k78 78 wr w.heap.size (fun k_ => ((fun _ => True)) k_ ∧ ¬ ((fun _ => False)) k_) (.slice (some ⟨go35, 0, none⟩) x3_1.length co36) x3_1 from (by (with_reducible repeat (first | apply Kd.S_alloc | apply Kd.S_drewN | apply Kd.S_drew)); exact Kd.S_mono HO_3.out (fun k_ hk => ⟨trivial, fun e_ => e_⟩))))); (try (obtain ⟨oki38, ce38, hcl38, hM38, hcc38, hfr38, hoki38, hH38⟩ := Kd.S_elem HX38.out z78 ((ji32) : Int) (of_decide_eq_true (by first | (with_reducible assumption) | assumption)) (by have h_ : ((ji32) : Int) < ((x3_1.length : Int) : Int) := of_decide_eq_true (by first | (with_reducible assumption) | assumption); first | exact h_ | (have e_ := (Kd.S_reads' HO_3.out).1; omega) | simpa using h_))); (try (obtain ⟨ve38_2, rfl, ge38_2⟩ := k78_openM hM38)); (try (have HP38 := Kd.S_seg hH38 (of_decide_eq_true (by first | (with_reducible assumption) | assumption)) (by have h_ : ((ji32) : Int) < ((x3_1.length : Int) : Int) := of_decide_eq_true (by first | (with_reducible assumption) | assumption); first | exact h_ | (have e_ := (Kd.S_reads' HO_3.out).1; omega) | simpa using h_) (seg := [.int .u64 18446744073709551615]) (j := 0) (show 1 ≤ 3 from by decide) (x' := (⟨18446744073709551615, (rd_T78 x3_1 (ji32)).f1, (rd_T78 x3_1 (ji32)).f2⟩ : S78)) (k78_mkM _ _ _ (⟨18446744073709551615, (rd_T78 x3_1 (ji32)).f1, (rd_T78 x3_1 (ji32)).f2⟩ : S78) (Kd.R_mono ge38_2 (fun _ h_ => Or.inl h_))) (fun _ hk => hk) (fun k_ hk_ => hk_.elim))); (try (have hx38_0 := hcc38 0 _ rfl)); (try (try simp only [show (k78).sz = 3 from rfl, Nat.mul_one, Nat.add_zero] at hx38_0)); (try (have hf38_0 := hfr38 0)); (try (try simp only [show (k78).sz = 3 from rfl, Nat.mul_one, Nat.add_zero] at hf38_0)); (try (clear hcl38 hcc38 hfr38 hM38 hoki38 hH38)))); refine store_event (t := 58) (p := 73) (v := ?vo_w39) (w1 := (wr.setCell ⟨go35, ((ji32) : Int).toNat * 3, none⟩ (.int .u64 18446744073709551615))) ?hg ?ho ?hn ?hr ?_; (case ho => rfl); (case hg => rfl); (case hn => rfl); (case hr => first | (go_simp; done) | (go_simp; rfl)); intro w39 hw; have hg : wr.grownBy w39 (some go35) := (by rw [hw]; exact HP38.2); have hp_ : Kd.S k78 78 w39 w.heap.size (fun _ => True) (.slice (some ⟨go35, 0, none⟩) x3_1.length co36) y116 := (by rw [hw, Ny116.out]; exact HP38.1); clear HP38; have n0_ := Aside0.mk (hp_); have n1_ := Aside0.mk (blk_grown (g := gb104) (o := .cells #[.int .u64 a0_0, .int .u64 a0_1, .slice A0_2 l0_2.length c0_2, .int .u8 a0_3] 60 (0, 0)) (by (with_reducible repeat (first | refine blk_drewN ?_ _ | refine blk_drew ?_ | refine blk_alloc ?_ _)); exact BK104.out) hg (Kd.S_ne HO_3.out BK104.out (by decide))); have n2_ := Aside0.mk ((by rw [hw]; exact below_set (HB.out) GB35.out : Below w.heap.size w w39)); clear HO_3; clear BK104; clear HB; have HO_3 := n0_; have BK104 := n1_; have HB := n2_; clear n0_ n1_ n2_; clear hg hw hp_)))
                    go_ret
                    exact ⟨_, by first | rfl | (simp [errW_none, errW_some] <;> rfl) | (simp only [← hji32]; first | rfl | (simp [errW_none, errW_some] <;> rfl)) | (simp [*, errW_none, errW_some] <;> rfl), by (with_reducible repeat (first | apply Kd.S_alloc | apply Kd.S_drewN | apply Kd.S_drew)); exact HO_3.out, by repeat (first | (with_reducible first | exact HB.out | apply below_alloc | apply pw_below_drewN | apply below_drew1 | refine below_set ?_ GE104.out) | exact HB.out)⟩
                  · rw [if_neg c34] at H
                    exact absurd H (by simp)
                · rw [if_neg c33] at H
                  exact absurd H (by simp)
              · rw [if_neg c31] at H
                have c31b0 : (a0_3 == 3) = false := beq_eq_false_iff_ne.mpr c31
                have c31b1 : (a0_3 != 3) = true := bne_iff_ne.mpr c31
                obtain rfl := Option.some.inj H
                obtain ⟨Ao40, co40, eo40⟩ := Kd.S_slice HO_3.out
                subst eo40
                have hcz41_0 : wr.cell? ⟨gb104, 0, none⟩ = some (.int .u64 a0_0) := (blk_cell BK104.out 0).trans rfl
                have hcz41_1 : wr.cell? ⟨gb104, 1, none⟩ = some (.int .u64 a0_1) := (blk_cell BK104.out 1).trans rfl
                have hcz41_2 : wr.cell? ⟨gb104, 2, none⟩ = some (.slice A0_2 l0_2.length c0_2) := (blk_cell BK104.out 2).trans rfl
                have hcz41_3 : wr.cell? ⟨gb104, 3, none⟩ = some (.int .u8 a0_3) := (blk_cell BK104.out 3).trans rfl
                have hfz41_0 := blk_frozen BK104.out 0
                have hfz41_1 := blk_frozen BK104.out 1
                have hfz41_2 := blk_frozen BK104.out 2
                have hfz41_3 := blk_frozen BK104.out 3
                go_wp2
                repeat (go_quiet (fail); try go_wp2)
                go_ret
                exact ⟨_, by first | rfl | (simp [errW_none, errW_some] <;> rfl) | (simp [*, errW_none, errW_some] <;> rfl), by (with_reducible repeat (first | apply Kd.S_alloc | apply Kd.S_drewN | apply Kd.S_drew)); exact HO_3.out, by repeat (first | (with_reducible first | exact HB.out | apply below_alloc | apply pw_below_drewN | apply below_drew1 | refine below_set ?_ GE104.out) | exact HB.out)⟩
        · rw [if_neg c12] at H
          have c12b0 : decide (0 < (x3_1.length : Int)) = false := decide_eq_false c12
          have c12b1 : decide (0 < x3_1.length) = false := decide_eq_false (by omega)
          clear c12
          obtain rfl := Option.some.inj H
          obtain ⟨Ao42, co42, eo42⟩ := Kd.S_slice HO_3.out
          subst eo42
          go_wp2
          repeat (go_quiet (fail); try go_wp2)
          go_ret
          exact ⟨_, by first | rfl | (simp [errW_none, errW_some] <;> rfl) | (simp [*, errW_none, errW_some] <;> rfl), by (with_reducible repeat (first | apply Kd.S_alloc | apply Kd.S_drewN | apply Kd.S_drew)); exact HO_3.out, by repeat (first | (with_reducible first | exact HB.out | apply below_alloc | apply pw_below_drewN | apply below_drew1 | refine below_set ?_ GE104.out) | exact HB.out)⟩

end Go.Proofs.Ythkhfhhbldjdlaa.Chp
