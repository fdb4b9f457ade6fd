/- Printed by this session's wip/drive.py over the translation; some functions by hand. -/
import Derived.Test.YtjjnbcaemognhaaZClrx0
import Derived.Test.YtjjnbcaemognhaaZClrx6
import Derived.Test.YtjjnbcaemognhaaZClrx7
import Derived.Test.YtjjnbcaemognhaaZClrx8
namespace Go.Proofs.Ytjjnbcaemognhaa.Clr
open Go.RowKit Go.Proofs.YtjjnbcaemognhaaW.PrintWords Go.Proofs.YtjjnbcaemognhaaW.PrintLast Go.Proofs.YtjjnbcaemognhaaW.PrintMore
attribute [local go_sem] max2_int min2_int max_two min_two max_three min_three max_four min_four
set_option linter.unusedVariables false
set_option linter.unusedSimpArgs false
set_option maxHeartbeats 8000000 in
set_option maxRecDepth 100000 in
theorem trim_quiet (a0 a1 t : Int) (w : World) (h : limits_Trim.f a0 a1 = some t) : Calls Try.prog 38 #[.int .i64 a0, .int .i64 a1] w fun e w' => e = .returned (.int .i64 t) ∧ ∃ m, w' = w.drewN m := by
  have H : (if (mn a0 a1) < 1 then (some 0) else (if a0 = 0 then (none) else (some (wrap64 (a1 - (Int.tmod a1 a0)))))) = some t := h
  clear h
  obtain ⟨ji3, hji3⟩ : ∃ j_ : Int, (mn a0 a1) = j_ := ⟨_, rfl⟩
  rw [hji3] at H
  have hji3_ : (if a1 < a0 then a1 else a0) = ji3 := hji3
  by_cases c4 : (ji3) < 1
  · rw [if_pos c4] at H
    have c4b0 : decide ((ji3) < 1) = true := decide_eq_true c4
    clear c4
    obtain rfl := Option.some.inj H
    go_enter Try.func38, Try.ntmps38
    go_wp2
    go_ret
    exact ⟨rfl, 0, rfl⟩
  · rw [if_neg c4] at H
    have c4b0 : decide ((ji3) < 1) = false := decide_eq_false c4
    clear c4
    by_cases c5 : a0 = 0
    · rw [if_pos c5] at H
      exact absurd H (by simp)
    · rw [if_neg c5] at H
      have c5b0 : (a0 == 0) = false := beq_eq_false_iff_ne.mpr c5
      have c5b1 : (a0 != 0) = true := bne_iff_ne.mpr c5
      obtain rfl := Option.some.inj H
      go_enter Try.func38, Try.ntmps38
      go_wp2
      go_ret
      exact ⟨rfl, 0, rfl⟩
structure ShB (g0 g1 g2 g3 : Nat) (A0 : Option Addr) (n c0 : Nat) (lot left : Int) (v : Value) (W : World) : Prop where
  b0 : W.heap[g0]? = some (.cells #[.slice A0 n c0] 22 (0, 0))
  b1 : W.heap[g1]? = some (.cells #[.int .i64 lot] 2 (0, 0))
  b2 : W.heap[g2]? = some (.cells #[v] 31 (0, 0))
  b3 : W.heap[g3]? = some (.cells #[.int .i64 left] 2 (0, 0))
theorem ShB.below {g0 g1 g2 g3 : Nat} {A0 : Option Addr} {n c0 : Nat} {lot left : Int} {v : Value} {W W2 : World} (h : ShB g0 g1 g2 g3 A0 n c0 lot left v W) (hb : Below W.heap.size W W2) : ShB g0 g1 g2 g3 A0 n c0 lot left v W2 :=
  ⟨blk_below h.b0 hb, blk_below h.b1 hb, blk_below h.b2 hb, blk_below h.b3 hb⟩
theorem ShB.far {g0 g1 g2 g3 : Nat} {A0 : Option Addr} {n c0 : Nat} {lot left : Int} {v : Value} {W : World} (h : ShB g0 g1 g2 g3 A0 n c0 lot left v W) {g i : Nat} (u : Value) (n0 : g ≠ g0) (n1 : g ≠ g1) (n2 : g ≠ g2) (n3 : g ≠ g3) : ShB g0 g1 g2 g3 A0 n c0 lot left v (W.setCell ⟨g, i, none⟩ u) :=
  ⟨blk_far h.b0 (Ne.symm n0) u, blk_far h.b1 (Ne.symm n1) u, blk_far h.b2 (Ne.symm n2) u, blk_far h.b3 (Ne.symm n3) u⟩
theorem ShB.put {g0 g1 g2 g3 : Nat} {A0 : Option Addr} {n c0 : Nat} {lot left : Int} {v : Value} {W : World} (h : ShB g0 g1 g2 g3 A0 n c0 lot left v W) (l2 : Int) (n0 : g0 ≠ g3) (n1 : g1 ≠ g3) (n2 : g2 ≠ g3) : ShB g0 g1 g2 g3 A0 n c0 lot l2 v (W.setCell ⟨g3, 0, none⟩ (.int .i64 l2)) :=
  ⟨blk_far h.b0 n0 _, blk_far h.b1 n1 _, blk_far h.b2 n2 _, blk_put h.b3 0 _ rfl⟩
def shOk (g0 g1 g2 g3 : Nat) (k : Nat) : Prop := k ≠ g0 ∧ k ≠ g1 ∧ k ≠ g2 ∧ k ≠ g3
set_option maxHeartbeats 8000000 in
set_option maxRecDepth 100000 in
theorem share_give (w : World) (g0 g1 g2 g3 : Nat) (A0 : Option Addr) (c0 : Nat) (l0 : List S42) (xs : List Int) (v : Value) (lot left i t : Int) (W : World)
    (hr0 : Kd.C k42 w A0 l0.length l0) (hb : Below w.heap.size w W) (hg : w.heap.size ≤ g3) (hd0 : g0 ≠ g3) (hd1 : g1 ≠ g3) (hd2 : g2 ≠ g3)
    (hs : ShB g0 g1 g2 g3 A0 l0.length c0 lot left v W) (ho : Kd.R (Kd.int .i64) 2 W w.heap.size (shOk g0 g1 g2 g3) v xs)
    (h0 : 0 ≤ i) (h1 : i < (l0.length : Int)) (hx : xs.length = l0.length) (ht : limits_Trim.f lot (rd_T42 l0 i).f4 = some t) :
    Calls Try.prog 40 #[.int .i64 i, .pointer (some ⟨g3, 0, none⟩), .pointer (some ⟨g1, 0, none⟩), .pointer (some ⟨g0, 0, none⟩), .pointer (some ⟨g2, 0, none⟩)] W fun e W' => e = .returned (.tuple #[]) ∧ Below w.heap.size w W' ∧
      ShB g0 g1 g2 g3 A0 l0.length c0 lot (wrap64 (left - mn left (wrap64 (t - rd xs i)))) v W' ∧ Kd.R (Kd.int .i64) 2 W' w.heap.size (shOk g0 g1 g2 g3) v (xs.set i.toNat (wrap64 (rd xs i + mn left (wrap64 (t - rd xs i))))) := by
  have hu42 := Try.underlying42
  obtain ⟨g, cap, hv, hge, hlt, cells, hcl⟩ := Kd.R_form ho (by omega)
  subst hv
  have hq : shOk g0 g1 g2 g3 g := ho.1 g rfl
  obtain ⟨ad, e1, hx0, hx1, hx2, hx3, hx4, hx5⟩ := at_T42 hr0 i h0 h1
  subst e1
  have y4 := (hb.cell (World.block_lt_of_cell? w _ hx4)).trans hx4
  obtain ⟨z1, z2⟩ := Kd.R_celln 0 ho i h0 (by omega)
  replace z1 : W.cell? ⟨g, i.toNat, none⟩ = some (.int .i64 (rd xs i)) := z1
  have l0c : W.cell? ⟨g0, 0, none⟩ = some (.slice (some ad) l0.length c0) := (blk_cell hs.b0 0).trans rfl
  have l1c : W.cell? ⟨g1, 0, none⟩ = some (.int .i64 lot) := (blk_cell hs.b1 0).trans rfl
  have l2c : W.cell? ⟨g2, 0, none⟩ = some (.slice (some ⟨g, 0, none⟩) xs.length cap) := (blk_cell hs.b2 0).trans rfl
  have l3c : W.cell? ⟨g3, 0, none⟩ = some (.int .i64 left) := (blk_cell hs.b3 0).trans rfl
  have HT := Aside0.mk (fun W => trim_quiet lot (rd_T42 l0 i).f4 t W ht)
  have HP := Aside0.mk (fun W2 (hb2 : Below W.heap.size W W2) => Kd.R_putg (Kd.R_below ho hb2) i (wrap64 (rd xs i + mn left (wrap64 (t - rd xs i)))))
  have HZ := Aside0.mk (fun W2 (hb2 : Below W.heap.size W W2) => Kd.R_celln 0 (Kd.R_below ho hb2) i h0 (by omega))
  have HS := Aside0.mk (fun W2 (hb2 : Below W.heap.size W W2) => hs.below hb2)
  have HB := Aside0.mk hb
  have p1 := eq_true h0
  have p2 := eq_true h1
  have p3 : (i < (xs.length : Int)) = True := eq_true (by omega)
  obtain ⟨mr, hmr⟩ : ∃ m, mn left (wrap64 (t - rd xs i)) = m := ⟨_, rfl⟩
  rw [hmr] at HP ⊢
  have hmr_ : (if wrap64 (t - rd xs i) < left then wrap64 (t - rd xs i) else left) = mr := hmr
  have L3 : ∀ n u, ((W.drewN n).setCell ⟨g, i.toNat, none⟩ u).cell? ⟨g3, 0, none⟩ = some (.int .i64 left) := fun n u => (blk_cell (blk_far (HS.out (W.drewN n) (pw_below_drewN (Below.refl _ _) n)).b3 (Ne.symm hq.2.2.2) u) 0).trans rfl
  have F3 : ∀ n u, ((W.drewN n).setCell ⟨g, i.toNat, none⟩ u).frozen? ⟨g3, 0, none⟩ = false := fun n u => blk_frozen (blk_far (HS.out (W.drewN n) (pw_below_drewN (Below.refl _ _) n)).b3 (Ne.symm hq.2.2.2) u) 0
  clear hx0 hx1 hx2 hx3 hx5 hs hb ho hr0 ht hcl hx4 h1 hmr
  go_enter Try.func40, Try.ntmps40
  go_wp2
  go_quiet ((go_at_call 38; refine Calls.quiet_of (HT.out _)))
  go_wp2
  have hbq := Aside0.mk (pw_below_drewN (Below.refl W.heap.size W) nq)
  exact bodyPost_end (results_none rfl _ _ _) rfl ⟨rfl, below_set (below_set (below_step HB.out hbq.out) hge) hg, ((HS.out _ hbq.out).far _ hq.1 hq.2.1 hq.2.2.1 hq.2.2.2).put _ hd0 hd1 hd2, Kd.R_far (HP.out _ hbq.out).1 (fun k hk => hk.2.2.2) _⟩
def shGive (lot : Int) (l : List S42) : Nat → Int → List Int → Int → Option (List Int)
  | 0, _, xs, _ => some xs
  | n + 1, i, xs, left => (limits_Trim.f lot (rd_T42 l i).f4).bind fun t => shGive lot l n (wrap64 (i + 1)) (xs.set i.toNat (wrap64 (rd xs i + mn left (wrap64 (t - rd xs i))))) (wrap64 (left - mn left (wrap64 (t - rd xs i))))
def shTake (q : Int) (xs : List Int) : Int := xs.foldl (fun a n => wrap64 (a - n)) q
def share_Share.f (k : Nat) (a0 : Int) (l1 : List S42) (a2 a3 : Int) : Option (List Int) := (share_Total.f k l1 a3).bind fun total => (if total = 0 then some [] else (if a2 < 1 then some [] else (if a2 > 4611686018427387904 then some [] else ((limits_Trim.f a3 a2).bind fun q0 => (if a0 = 1 then (if l1.length ≤ 35184372088832 then shGive a3 l1 l1.length 0 (List.replicate l1.length 0) (shTake (mn q0 total) (List.replicate l1.length 0)) else none) else (if a0 = 2 then ((share_parts.f k l1 (mn q0 total) a3 total).bind fun xs => (if xs.length = l1.length then shGive a3 l1 l1.length 0 xs (shTake (mn q0 total) xs) else none)) else some []))))))
theorem share_Share.mono : ∀ a0 l1 a2 a3 k, LeO (share_Share.f k a0 l1 a2 a3) (share_Share.f (k + 1) a0 l1 a2 a3) := by
  intro a0 l1 a2 a3 k
  unfold share_Share.f
  repeat' first
      | (with_reducible exact share_Total.mono _ _ _)
      | (with_reducible exact share_parts.mono _ _ _ _ _)
      | (with_reducible exact LeO.refl _)
      | (with_reducible exact LeO.none _)
      | (with_reducible refine LeO.ite ?_ ?_)
      | (with_reducible refine LeO.bind ?_ (fun _ => ?_))
theorem shTake_step {xs : List Int} {i : Int} (h0 : 0 ≤ i) (h1 : i < (xs.length : Int)) (q : Int) : shTake q (xs.take (i + 1).toNat) = wrap64 (shTake q (xs.take i.toNat) - rd xs i) := by
  have hl : i.toNat < xs.length := by omega
  unfold shTake
  rw [show (i + 1).toNat = i.toNat + 1 by omega, List.take_add_one, List.foldl_append, List.getElem?_eq_getElem hl]
  have e : rd xs i = xs[i.toNat] := by unfold rd; simp [hl]
  rw [e]; rfl
set_option maxHeartbeats 8000000 in
set_option maxRecDepth 100000 in
theorem share_Share.calls (k : Nat) (a0 : Int) (A1 : Option Addr) (c1 : Nat) (l1 : List S42) (a2 a3 : Int) (r : List Int) (w : World) (hr1 : Kd.C k42 w A1 l1.length l1) (hc1 : l1.length ≤ c1) (h : share_Share.f k a0 l1 a2 a3 = some r) :
    Calls Try.prog 24 #[.int .i64 a0, .slice A1 l1.length c1, .int .i64 a2, .int .i64 a3] w fun e w' => ∃ v0_ : Value, e = .returned (v0_) ∧ Kd.R (Kd.int .i64) 2 w' w.heap.size (fun _ => True) v0_ r ∧ Below w.heap.size w w' := by
  unfold share_Share.f at h
  obtain ⟨total, htot, h'⟩ := Option.bind_eq_some_iff.mp h
  clear h
  have hu42 := Try.underlying42
  obtain ⟨W, hW⟩ : ∃ W, W = (w.alloc (.cells #[.slice A1 l1.length c1] 22)).alloc (.cells #[.int .i64 a3] 2) := ⟨_, rfl⟩
  have HB : Aside0 (Below w.heap.size w W) := ⟨by rw [hW]; exact below_alloc (below_alloc (Below.refl _ _) _) _⟩
  have BK0 : Aside0 (W.heap[w.heap.size]? = some (.cells #[.slice A1 l1.length c1] 22 (0, 0))) := ⟨by rw [hW]; exact blk_alloc (blk_new w _) _⟩
  have BK1 : Aside0 (W.heap[w.heap.size + 1]? = some (.cells #[.int .i64 a3] 2 (0, 0))) := ⟨by rw [hW]; have := blk_new (w.alloc (.cells #[.slice A1 l1.length c1] 22)) (.cells #[.int .i64 a3] 2); simpa using this⟩
  have HWS : Aside0 (W.heap.size = w.heap.size + 2) := ⟨by rw [hW]; simp⟩
  have HW := Aside0.mk hW
  have HR := Aside0.mk hr1
  have HT1 : Aside0 (Calls Try.prog 37 #[.slice A1 l1.length c1, .int .i64 a3] W fun e w' => e = .returned (.int .i64 total) ∧ Below W.heap.size W w') := ⟨share_Total.calls k A1 c1 l1 a3 total W (Kd.C_below hr1 HB.out) hc1 htot⟩
  have HC := Aside0.mk hc1
  have HM := Aside0.mk hr1.2.1
  clear hW hr1 htot hc1
  have C0 := Aside0.mk (fun W2 (hb : Below W.heap.size W W2) => (blk_cell (blk_below BK0.out hb) 0).trans (rfl : (#[Value.slice A1 l1.length c1])[0]? = some (.slice A1 l1.length c1)))
  have C1 := Aside0.mk (fun W2 (hb : Below W.heap.size W W2) => (blk_cell (blk_below BK1.out hb) 0).trans (rfl : (#[Value.int .i64 a3])[0]? = some (.int .i64 a3)))
  have ld0 : W.cell? ⟨w.heap.size, 0, none⟩ = some (.slice A1 l1.length c1) := C0.out _ (Below.refl _ _)
  have ld1 : W.cell? ⟨w.heap.size + 1, 0, none⟩ = some (.int .i64 a3) := C1.out _ (Below.refl _ _)
  by_cases c1 : total = 0
  · rw [if_pos c1] at h'
    obtain rfl := Option.some.inj h'
    have d1 : (total == 0) = true := beq_iff_eq.mpr c1
    clear h' c1
    go_enter Try.func24, Try.ntmps24
    go_wp2_with (go_at_call 37; rw [← HW.out]; refine HT1.out.mono ?_; rintro e w1 ⟨rfl, hb⟩; have HB2 := Aside0.mk (below_step HB.out hb); clear hb)
    go_ret
    exact ⟨_, rfl, Kd.R_nil _ _ _ _ _, HB2.out⟩
  rw [if_neg c1] at h'
  have d1 : (total == 0) = false := beq_eq_false_iff_ne.mpr c1
  clear c1
  by_cases c2 : a2 < 1
  · rw [if_pos c2] at h'
    obtain rfl := Option.some.inj h'
    have d2 : decide (a2 < 1) = true := decide_eq_true c2
    clear h' c2
    go_enter Try.func24, Try.ntmps24
    go_wp2_with (go_at_call 37; rw [← HW.out]; refine HT1.out.mono ?_; rintro e w1 ⟨rfl, hb⟩; have HB2 := Aside0.mk (below_step HB.out hb); clear hb)
    go_ret
    exact ⟨_, rfl, Kd.R_nil _ _ _ _ _, HB2.out⟩
  rw [if_neg c2] at h'
  have d2 : decide (a2 < 1) = false := decide_eq_false c2
  clear c2
  by_cases c3 : a2 > 4611686018427387904
  · rw [if_pos c3] at h'
    obtain rfl := Option.some.inj h'
    have d3 : decide (4611686018427387904 < a2) = true := decide_eq_true c3
    clear h' c3
    go_enter Try.func24, Try.ntmps24
    go_wp2_with (go_at_call 37; rw [← HW.out]; refine HT1.out.mono ?_; rintro e w1 ⟨rfl, hb⟩; have HB2 := Aside0.mk (below_step HB.out hb); clear hb)
    go_ret
    exact ⟨_, rfl, Kd.R_nil _ _ _ _ _, HB2.out⟩
  rw [if_neg c3] at h'
  have d3 : decide (4611686018427387904 < a2) = false := decide_eq_false c3
  clear c3
  obtain ⟨q0, hq0, h⟩ := Option.bind_eq_some_iff.mp h'
  clear h'
  have HT2 : Aside0 (∀ W2, Calls Try.prog 38 #[.int .i64 a3, .int .i64 a2] W2 fun e w' => e = .returned (.int .i64 q0) ∧ Below W2.heap.size W2 w') := ⟨fun W2 => limits_Trim.calls a3 a2 q0 W2 hq0⟩
  clear hq0
  obtain ⟨q, hq⟩ : ∃ q, mn q0 total = q := ⟨_, rfl⟩
  rw [hq] at h
  have hq_ : (if total < q0 then total else q0) = q := hq
  clear hq
  by_cases m1 : a0 = 1
  · rw [if_pos m1] at h
    have e1 : (a0 == 1) = true := beq_iff_eq.mpr m1
    clear m1
    by_cases hl : l1.length ≤ 35184372088832
    · rw [if_pos hl] at h
      have HL := Aside0.mk hl
      obtain ⟨ys, hys⟩ : ∃ ys : List Int, ys = List.replicate ((l1.length : Int)).toNat 0 := ⟨_, rfl⟩
      have hys2 : List.replicate l1.length (0 : Int) = ys := by rw [hys]; simp
      have HYL : Aside0 (ys.length = l1.length) := ⟨by rw [← hys2]; simp⟩
      rw [hys2] at h
      have HY := Aside0.mk hys
      have HG := Aside0.mk h
      clear h hl hys hys2
      go_enter Try.func24, Try.ntmps24
      go_upto_region 12 with (first | (go_at_call 37; rw [← HW.out]; refine HT1.out.mono ?_; rintro e w1 ⟨rfl, hb⟩; have HBA := Aside0.mk hb; have y1 := C1.out _ hb; clear hb) | (go_at_call 38; refine (HT2.out _).mono ?_; rintro e w2 ⟨rfl, hb⟩; have HBB := Aside0.mk (below_step HBA.out hb); have y2 := fun o => C0.out (w2.alloc o) (below_alloc HBB.out o); clear hb) | ((with_reducible refine gate_dst (N := 39) rfl ?_); refine Kd.R_make (Kd.int .i64) _ 2 rfl (N := 39) rfl 31 _ _ rfl (l1.length : Int) rfl rfl Try.underlying31 (.int .i64 0) 8 info2 rfl (by decide) (by omega) 0 (ok := fun _ => True) (okp := fun _ => True) rfl (fun _ hk => hk) trivial (by omega) (by have := HL.out; omega) (Below.refl _ _) (Nat.le_refl _) ?_; intro v7 w7 ho8 hb hg_ hnew_; clear hg_ hnew_; rw [← HY.out] at ho8; have HO := Aside0.mk ho8; obtain ⟨A7, c7, e7⟩ := Kd.R_slice ho8; subst e7; have HBC := Aside0.mk hb; have B2 := Aside0.mk (blk_below (blk_new w2 (.cells #[.slice none 0 0] 31)) hb); have y3 : w7.cell? ⟨w2.heap.size, 0, none⟩ = some (.slice none 0 0) := (blk_cell B2.out 0).trans rfl; have y4 := blk_frozen B2.out 0; clear hb ho8))
      have hB7 : Below W.heap.size W w7 := below_step (below_alloc HBB.out _) HBC.out
      have hWS := HWS.out
      have hg2 : W.heap.size ≤ w2.heap.size := below_size HBB.out
      obtain ⟨W4, hW4⟩ : ∃ W4, W4 = w7.setCell ⟨w2.heap.size, 0, none⟩ (.slice A7 ys.length c7) := ⟨_, rfl⟩
      rw [← hW4]
      have P0 := Aside0.mk (show W4.heap[w.heap.size]? = some (.cells #[.slice A1 l1.length c1] 22 (0, 0)) by rw [hW4]; exact blk_far (blk_below BK0.out hB7) (by show w.heap.size ≠ w2.heap.size; omega) _)
      have P1 := Aside0.mk (show W4.heap[w.heap.size + 1]? = some (.cells #[.int .i64 a3] 2 (0, 0)) by rw [hW4]; exact blk_far (blk_below BK1.out hB7) (by show w.heap.size + 1 ≠ w2.heap.size; omega) _)
      have P2 := Aside0.mk (show W4.heap[w2.heap.size]? = some (.cells #[.slice A7 ys.length c7] 31 (0, 0)) by rw [hW4]; exact blk_put B2.out 0 _ rfl)
      have P3 := Aside0.mk (show Kd.R (Kd.int .i64) 2 W4 w.heap.size (fun k => k ≠ w.heap.size ∧ k ≠ w.heap.size + 1 ∧ k ≠ w2.heap.size ∧ k < W4.heap.size) (.slice A7 ys.length c7) ys by
        have h1 := Kd.R_bound HO.out
        have h2 := Kd.R_lower h1 (base' := w.heap.size) (by simp; omega)
        have hsz : W4.heap.size = w7.heap.size := by rw [hW4]; simp
        have h3 : Kd.R (Kd.int .i64) 2 w7 w.heap.size (fun k => k ≠ w.heap.size ∧ k ≠ w.heap.size + 1 ∧ k ≠ w2.heap.size ∧ k < W4.heap.size) (.slice A7 ys.length c7) ys := Kd.R_mono h2 (fun k hk => by
          have := hk.2.1
          have := hk.2.2.1
          simp at *
          omega)
        rw [hW4]
        rw [hW4] at h3
        exact Kd.R_far h3 (fun k hk => hk.2.2.1) _)
      have P4 := Aside0.mk (show Below w.heap.size w W4 by rw [hW4]; exact below_set (below_step HB.out hB7) (by omega))
      have P5 := Aside0.mk (show w2.heap.size < W4.heap.size ∧ w.heap.size + 1 < w2.heap.size by
        have := below_size HBC.out
        rw [hW4]; simp at *; omega)
      clear hB7 hWS hg2 hW4 y1 y2 y3 y4 B2 HBC HO
      obtain ⟨g2, hg2⟩ : ∃ g2, w2.heap.size = g2 := ⟨_, rfl⟩
      rw [hg2] at P2 P3 P5 ⊢
      obtain ⟨g3, hg3⟩ : ∃ g3, W4.heap.size = g3 := ⟨_, rfl⟩
      go_upto_region 13 with (fail)
      obtain ⟨W5, hW5⟩ : ∃ W5, W5 = W4.alloc (.cells #[.int .i64 q] 2) := ⟨_, rfl⟩
      rw [← hW5]
      have h5 := P5.out
      have S5 := Aside0.mk (show ShB w.heap.size (w.heap.size + 1) g2 g3 A1 l1.length c1 a3 q (.slice A7 ys.length c7) W5 by
        rw [hW5]
        exact ⟨blk_alloc P0.out _, blk_alloc P1.out _, blk_alloc P2.out _, by have h0 := blk_new W4 (.cells #[.int .i64 q] 2 (0, 0)); rw [hg3] at h0; exact h0⟩)
      have R5 := Aside0.mk (show Kd.R (Kd.int .i64) 2 W5 w.heap.size (shOk w.heap.size (w.heap.size + 1) g2 g3) (.slice A7 ys.length c7) ys by
        have h1 : Kd.R (Kd.int .i64) 2 W4 w.heap.size (shOk w.heap.size (w.heap.size + 1) g2 g3) (.slice A7 ys.length c7) ys := Kd.R_mono P3.out (fun k hk => ⟨hk.1, hk.2.1, hk.2.2.1, by have := hk.2.2.2; omega⟩)
        rw [hW5]
        exact Kd.R_alloc h1 _)
      have B5 := Aside0.mk (show Below w.heap.size w W5 by rw [hW5]; exact below_alloc P4.out _)
      have G3 := Aside0.mk (show w.heap.size ≤ g3 ∧ w.heap.size ≠ g3 ∧ w.heap.size + 1 ≠ g3 ∧ g2 ≠ g3 by have := below_size P4.out; omega)
      have ld2 : W5.cell? ⟨g2, 0, none⟩ = some (.slice A7 ys.length c7) := (blk_cell S5.out.b2 0).trans rfl
      clear hg2 hg3
      clear h5 hW5 P0 P1 P2 P3 P4 P5
      go_wp2
      go_loopg [51] ys.length (fun kq v51 wr => ∃ (i left : Int), v51 = .int .i64 i ∧ Aside0 (0 ≤ i ∧ i + kq = ys.length) ∧ Aside0 (left = shTake q (ys.take i.toNat)) ∧ Aside0 (ShB w.heap.size (w.heap.size + 1) g2 g3 A1 l1.length c1 a3 left (.slice A7 ys.length c7) wr) ∧ Aside0 (Kd.R (Kd.int .i64) 2 wr w.heap.size (shOk w.heap.size (w.heap.size + 1) g2 g3) (.slice A7 ys.length c7) ys) ∧ Aside0 (Below w.heap.size w wr))
      case atStart => exact ⟨0, q, rfl, ⟨by omega⟩, ⟨rfl⟩, S5, R5, B5⟩
      case round =>
        clear S5 R5 B5 ld2
        obtain ⟨i, left, rfl, HI, HLF, HS, HRR, HBB⟩ := hrel
        by_cases hlt : i < (ys.length : Int)
        · have hd : decide (i < (ys.length : Int)) = true := decide_eq_true hlt
          obtain ⟨g, cap, hv, hge, hltg, cells, hcl⟩ := Kd.R_form HRR.out (by have := HI.out; omega)
          injection hv with e1 e2 e3
          subst e1 e3
          obtain ⟨z1, z2⟩ := Kd.R_celln 0 HRR.out i HI.out.1 hlt
          replace z1 : wr.cell? ⟨g, i.toNat, none⟩ = some (.int .i64 (rd ys i)) := z1
          have z3 : wr.cell? ⟨g3, 0, none⟩ = some (.int .i64 left) := (blk_cell HS.out.b3 0).trans rfl
          have z4 := blk_frozen HS.out.b3 0
          have p1 := eq_true HI.out.1
          have p2 := eq_true hlt
          have ST := Aside0.mk (shTake_step HI.out.1 hlt q)
          have hw := Aside0.mk (show wrap64 (i + 1) = i + 1 by have := HYL.out; have := HM.out; have := HI.out; unfold wrap64; omega)
          clear hcl
          go_wp2
          go_roundg (gk - 1)
          case measure => have := HI.out; omega
          case rel => exact ⟨wrap64 (i + 1), wrap64 (left - rd ys i), rfl, ⟨by have := HI.out; rw [hw.out]; omega⟩, ⟨by rw [hw.out, ST.out, HLF.out]⟩, ⟨HS.out.put _ G3.out.2.1 G3.out.2.2.1 G3.out.2.2.2⟩, ⟨Kd.R_far HRR.out (fun k hk => hk.2.2.2) _⟩, ⟨below_set HBB.out G3.out.1⟩⟩
        · have hd : decide (i < (ys.length : Int)) = false := decide_eq_false hlt
          have HLE : Aside0 (left = shTake q ys) := ⟨by rw [HLF.out, show i.toNat = ys.length by have := HI.out; omega, List.take_length]⟩
          have z0 : wr.cell? ⟨w.heap.size, 0, none⟩ = some (.slice A1 l1.length c1) := (blk_cell HS.out.b0 0).trans rfl
          have HGG := Aside0.mk (show shGive a3 l1 l1.length 0 ys left = some r by rw [HLE.out]; exact HG.out)
          go_wp2
          go_loopg [61] l1.length (fun kq v61 wr => ∃ (i left : Int) (xs : List Int), v61 = .int .i64 i ∧ Aside0 (0 ≤ i ∧ i + kq = l1.length) ∧ Aside0 (xs.length = l1.length) ∧ Aside0 (shGive a3 l1 kq i xs left = some r) ∧ Aside0 (ShB w.heap.size (w.heap.size + 1) g2 g3 A1 l1.length c1 a3 left (.slice A7 ys.length c7) wr) ∧ Aside0 (Kd.R (Kd.int .i64) 2 wr w.heap.size (shOk w.heap.size (w.heap.size + 1) g2 g3) (.slice A7 ys.length c7) xs) ∧ Aside0 (Below w.heap.size w wr))
          case atStart => exact ⟨0, left, ys, rfl, ⟨by omega⟩, HYL, HGG, HS, HRR, HBB⟩
          case round =>
            clear HGG HS HRR HBB z0 HLE
            obtain ⟨j, lf, xs, rfl, HJ, HXL, HA, HS, HRR, HBB⟩ := hrel
            by_cases hlj : j < (l1.length : Int)
            · have hdj : decide (j < (l1.length : Int)) = true := decide_eq_true hlj
              cases gk with
              | zero => exact absurd HJ.out.2 (by omega)
              | succ m =>
                have HA2 := HA.out
                rw [shGive] at HA2
                obtain ⟨t, ht, HA3⟩ := Option.bind_eq_some_iff.mp HA2
                have HGV := Aside0.mk (share_give w w.heap.size (w.heap.size + 1) g2 g3 A1 c1 l1 xs (.slice A7 ys.length c7) a3 lf j t wr HR.out HBB.out G3.out.1 G3.out.2.1 G3.out.2.2.1 G3.out.2.2.2 HS.out HRR.out HJ.out.1 hlj HXL.out ht)
                have HA4 := Aside0.mk HA3
                have hw := Aside0.mk (show wrap64 (j + 1) = j + 1 by have := HM.out; have := HJ.out; unfold wrap64; omega)
                clear HA HA2 HA3 ht
                go_wp2_with (go_at_call 40; refine HGV.out.mono ?_; rintro e w9 ⟨rfl, hb9, hs9, hr9⟩; have HB9 := Aside0.mk hb9; have HS9 := Aside0.mk hs9; have HR9 := Aside0.mk hr9; clear hb9 hs9 hr9)
                go_roundg m
                case measure => have := HJ.out; omega
                case rel => exact ⟨wrap64 (j + 1), _, _, rfl, ⟨by have := HJ.out; rw [hw.out]; omega⟩, ⟨by rw [List.length_set]; exact HXL.out⟩, HA4, HS9, HR9, HB9⟩
            · have hdj : decide (j < (l1.length : Int)) = false := decide_eq_false hlj
              have z2 : wr.cell? ⟨g2, 0, none⟩ = some (.slice A7 ys.length c7) := (blk_cell HS.out.b2 0).trans rfl
              have HX : Aside0 (xs = r) := ⟨by
                have h1 := HA.out
                rw [show gk = 0 by have := HJ.out; omega] at h1
                exact Option.some.inj h1⟩
              go_wp2
              go_ret
              exact ⟨_, rfl, by rw [← HX.out]; exact Kd.R_mono HRR.out (fun _ _ => trivial), HBB.out⟩
    · rw [if_neg hl] at h; cases h
  · rw [if_neg m1] at h
    have e1 : (a0 == 1) = false := beq_eq_false_iff_ne.mpr m1
    clear m1
    by_cases m2 : a0 = 2
    · rw [if_pos m2] at h
      have e2 : (a0 == 2) = true := beq_iff_eq.mpr m2
      clear m2
      obtain ⟨ys, hys, h2⟩ := Option.bind_eq_some_iff.mp h
      clear h
      have HPT : Aside0 (∀ W2, Below W.heap.size W W2 → Calls Try.prog 39 #[.slice A1 l1.length c1, .int .i64 q, .int .i64 a3, .int .i64 total] W2 fun e w' => ∃ v0_ : Value, e = .returned (v0_) ∧ Kd.R (Kd.int .i64) 2 w' W2.heap.size (fun _ => True) v0_ ys ∧ Below W2.heap.size W2 w') := ⟨fun W2 hb => share_parts.calls k A1 c1 l1 q a3 total ys W2 (Kd.C_below HR.out (below_step HB.out hb)) HC.out hys⟩
      clear hys
      by_cases hl : ys.length = l1.length
      · rw [if_pos hl] at h2
        have HYL := Aside0.mk hl
        have HG := Aside0.mk h2
        clear h2 hl
        go_enter Try.func24, Try.ntmps24
        go_upto_region 12 with (first | (go_at_call 37; rw [← HW.out]; refine HT1.out.mono ?_; rintro e w1 ⟨rfl, hb⟩; have HBA := Aside0.mk hb; have y1 := C1.out _ hb; clear hb) | (go_at_call 38; refine (HT2.out _).mono ?_; rintro e w2 ⟨rfl, hb⟩; have HBB := Aside0.mk (below_step HBA.out hb); have y2 := fun o => C0.out (w2.alloc o) (below_alloc HBB.out o); have y2' := fun o => C1.out (w2.alloc o) (below_alloc HBB.out o); clear hb) | (go_at_call 39; refine (HPT.out _ (below_alloc HBB.out _)).mono ?_; rintro e w7 ⟨v7, rfl, ho8, hb⟩; have HO := Aside0.mk ho8; obtain ⟨A7, c7, e7⟩ := Kd.R_slice ho8; subst e7; have HBC := Aside0.mk hb; have B2 := Aside0.mk (blk_below (blk_new w2 (.cells #[.slice none 0 0] 31)) hb); have y3 : w7.cell? ⟨w2.heap.size, 0, none⟩ = some (.slice none 0 0) := (blk_cell B2.out 0).trans rfl; have y4 := blk_frozen B2.out 0; clear hb ho8))
        have hB7 : Below W.heap.size W w7 := below_step (below_alloc HBB.out _) HBC.out
        have hWS := HWS.out
        have hg2 : W.heap.size ≤ w2.heap.size := below_size HBB.out
        obtain ⟨W4, hW4⟩ : ∃ W4, W4 = w7.setCell ⟨w2.heap.size, 0, none⟩ (.slice A7 ys.length c7) := ⟨_, rfl⟩
        rw [← hW4]
        have P0 := Aside0.mk (show W4.heap[w.heap.size]? = some (.cells #[.slice A1 l1.length c1] 22 (0, 0)) by rw [hW4]; exact blk_far (blk_below BK0.out hB7) (by show w.heap.size ≠ w2.heap.size; omega) _)
        have P1 := Aside0.mk (show W4.heap[w.heap.size + 1]? = some (.cells #[.int .i64 a3] 2 (0, 0)) by rw [hW4]; exact blk_far (blk_below BK1.out hB7) (by show w.heap.size + 1 ≠ w2.heap.size; omega) _)
        have P2 := Aside0.mk (show W4.heap[w2.heap.size]? = some (.cells #[.slice A7 ys.length c7] 31 (0, 0)) by rw [hW4]; exact blk_put B2.out 0 _ rfl)
        have P3 := Aside0.mk (show Kd.R (Kd.int .i64) 2 W4 w.heap.size (fun k => k ≠ w.heap.size ∧ k ≠ w.heap.size + 1 ∧ k ≠ w2.heap.size ∧ k < W4.heap.size) (.slice A7 ys.length c7) ys by
          have h1 := Kd.R_bound HO.out
          have h2 := Kd.R_lower h1 (base' := w.heap.size) (by simp; omega)
          have hsz : W4.heap.size = w7.heap.size := by rw [hW4]; simp
          have h3 : Kd.R (Kd.int .i64) 2 w7 w.heap.size (fun k => k ≠ w.heap.size ∧ k ≠ w.heap.size + 1 ∧ k ≠ w2.heap.size ∧ k < W4.heap.size) (.slice A7 ys.length c7) ys := Kd.R_mono h2 (fun k hk => by
            have := hk.2.1
            have := hk.2.2.1
            simp at *
            omega)
          rw [hW4]
          rw [hW4] at h3
          exact Kd.R_far h3 (fun k hk => hk.2.2.1) _)
        have P4 := Aside0.mk (show Below w.heap.size w W4 by rw [hW4]; exact below_set (below_step HB.out hB7) (by omega))
        have P5 := Aside0.mk (show w2.heap.size < W4.heap.size ∧ w.heap.size + 1 < w2.heap.size by
          have := below_size HBC.out
          rw [hW4]; simp at *; omega)
        clear hB7 hWS hg2 hW4 y1 y2 y2' y3 y4 B2 HBC HO
        obtain ⟨g2, hg2⟩ : ∃ g2, w2.heap.size = g2 := ⟨_, rfl⟩
        rw [hg2] at P2 P3 P5 ⊢
        obtain ⟨g3, hg3⟩ : ∃ g3, W4.heap.size = g3 := ⟨_, rfl⟩
        go_upto_region 13 with (fail)
        obtain ⟨W5, hW5⟩ : ∃ W5, W5 = W4.alloc (.cells #[.int .i64 q] 2) := ⟨_, rfl⟩
        rw [← hW5]
        have h5 := P5.out
        have S5 := Aside0.mk (show ShB w.heap.size (w.heap.size + 1) g2 g3 A1 l1.length c1 a3 q (.slice A7 ys.length c7) W5 by
          rw [hW5]
          exact ⟨blk_alloc P0.out _, blk_alloc P1.out _, blk_alloc P2.out _, by have h0 := blk_new W4 (.cells #[.int .i64 q] 2 (0, 0)); rw [hg3] at h0; exact h0⟩)
        have R5 := Aside0.mk (show Kd.R (Kd.int .i64) 2 W5 w.heap.size (shOk w.heap.size (w.heap.size + 1) g2 g3) (.slice A7 ys.length c7) ys by
          have h1 : Kd.R (Kd.int .i64) 2 W4 w.heap.size (shOk w.heap.size (w.heap.size + 1) g2 g3) (.slice A7 ys.length c7) ys := Kd.R_mono P3.out (fun k hk => ⟨hk.1, hk.2.1, hk.2.2.1, by have := hk.2.2.2; omega⟩)
          rw [hW5]
          exact Kd.R_alloc h1 _)
        have B5 := Aside0.mk (show Below w.heap.size w W5 by rw [hW5]; exact below_alloc P4.out _)
        have G3 := Aside0.mk (show w.heap.size ≤ g3 ∧ w.heap.size ≠ g3 ∧ w.heap.size + 1 ≠ g3 ∧ g2 ≠ g3 by have := below_size P4.out; omega)
        have ld2 : W5.cell? ⟨g2, 0, none⟩ = some (.slice A7 ys.length c7) := (blk_cell S5.out.b2 0).trans rfl
        clear hg2 hg3
        clear h5 hW5 P0 P1 P2 P3 P4 P5
        go_wp2
        go_loopg [51] ys.length (fun kq v51 wr => ∃ (i left : Int), v51 = .int .i64 i ∧ Aside0 (0 ≤ i ∧ i + kq = ys.length) ∧ Aside0 (left = shTake q (ys.take i.toNat)) ∧ Aside0 (ShB w.heap.size (w.heap.size + 1) g2 g3 A1 l1.length c1 a3 left (.slice A7 ys.length c7) wr) ∧ Aside0 (Kd.R (Kd.int .i64) 2 wr w.heap.size (shOk w.heap.size (w.heap.size + 1) g2 g3) (.slice A7 ys.length c7) ys) ∧ Aside0 (Below w.heap.size w wr))
        case atStart => exact ⟨0, q, rfl, ⟨by omega⟩, ⟨rfl⟩, S5, R5, B5⟩
        case round =>
          clear S5 R5 B5 ld2
          obtain ⟨i, left, rfl, HI, HLF, HS, HRR, HBB⟩ := hrel
          by_cases hlt : i < (ys.length : Int)
          · have hd : decide (i < (ys.length : Int)) = true := decide_eq_true hlt
            obtain ⟨g, cap, hv, hge, hltg, cells, hcl⟩ := Kd.R_form HRR.out (by have := HI.out; omega)
            injection hv with e1 e2 e3
            subst e1 e3
            obtain ⟨z1, z2⟩ := Kd.R_celln 0 HRR.out i HI.out.1 hlt
            replace z1 : wr.cell? ⟨g, i.toNat, none⟩ = some (.int .i64 (rd ys i)) := z1
            have z3 : wr.cell? ⟨g3, 0, none⟩ = some (.int .i64 left) := (blk_cell HS.out.b3 0).trans rfl
            have z4 := blk_frozen HS.out.b3 0
            have p1 := eq_true HI.out.1
            have p2 := eq_true hlt
            have ST := Aside0.mk (shTake_step HI.out.1 hlt q)
            have hw := Aside0.mk (show wrap64 (i + 1) = i + 1 by have := HYL.out; have := HM.out; have := HI.out; unfold wrap64; omega)
            clear hcl
            go_wp2
            go_roundg (gk - 1)
            case measure => have := HI.out; omega
            case rel => exact ⟨wrap64 (i + 1), wrap64 (left - rd ys i), rfl, ⟨by have := HI.out; rw [hw.out]; omega⟩, ⟨by rw [hw.out, ST.out, HLF.out]⟩, ⟨HS.out.put _ G3.out.2.1 G3.out.2.2.1 G3.out.2.2.2⟩, ⟨Kd.R_far HRR.out (fun k hk => hk.2.2.2) _⟩, ⟨below_set HBB.out G3.out.1⟩⟩
          · have hd : decide (i < (ys.length : Int)) = false := decide_eq_false hlt
            have HLE : Aside0 (left = shTake q ys) := ⟨by rw [HLF.out, show i.toNat = ys.length by have := HI.out; omega, List.take_length]⟩
            have z0 : wr.cell? ⟨w.heap.size, 0, none⟩ = some (.slice A1 l1.length c1) := (blk_cell HS.out.b0 0).trans rfl
            have HGG := Aside0.mk (show shGive a3 l1 l1.length 0 ys left = some r by rw [HLE.out]; exact HG.out)
            go_wp2
            go_loopg [61] l1.length (fun kq v61 wr => ∃ (i left : Int) (xs : List Int), v61 = .int .i64 i ∧ Aside0 (0 ≤ i ∧ i + kq = l1.length) ∧ Aside0 (xs.length = l1.length) ∧ Aside0 (shGive a3 l1 kq i xs left = some r) ∧ Aside0 (ShB w.heap.size (w.heap.size + 1) g2 g3 A1 l1.length c1 a3 left (.slice A7 ys.length c7) wr) ∧ Aside0 (Kd.R (Kd.int .i64) 2 wr w.heap.size (shOk w.heap.size (w.heap.size + 1) g2 g3) (.slice A7 ys.length c7) xs) ∧ Aside0 (Below w.heap.size w wr))
            case atStart => exact ⟨0, left, ys, rfl, ⟨by omega⟩, HYL, HGG, HS, HRR, HBB⟩
            case round =>
              clear HGG HS HRR HBB z0 HLE
              obtain ⟨j, lf, xs, rfl, HJ, HXL, HA, HS, HRR, HBB⟩ := hrel
              by_cases hlj : j < (l1.length : Int)
              · have hdj : decide (j < (l1.length : Int)) = true := decide_eq_true hlj
                cases gk with
                | zero => exact absurd HJ.out.2 (by omega)
                | succ m =>
                  have HA2 := HA.out
                  rw [shGive] at HA2
                  obtain ⟨t, ht, HA3⟩ := Option.bind_eq_some_iff.mp HA2
                  have HGV := Aside0.mk (share_give w w.heap.size (w.heap.size + 1) g2 g3 A1 c1 l1 xs (.slice A7 ys.length c7) a3 lf j t wr HR.out HBB.out G3.out.1 G3.out.2.1 G3.out.2.2.1 G3.out.2.2.2 HS.out HRR.out HJ.out.1 hlj HXL.out ht)
                  have HA4 := Aside0.mk HA3
                  have hw := Aside0.mk (show wrap64 (j + 1) = j + 1 by have := HM.out; have := HJ.out; unfold wrap64; omega)
                  clear HA HA2 HA3 ht
                  go_wp2_with (go_at_call 40; refine HGV.out.mono ?_; rintro e w9 ⟨rfl, hb9, hs9, hr9⟩; have HB9 := Aside0.mk hb9; have HS9 := Aside0.mk hs9; have HR9 := Aside0.mk hr9; clear hb9 hs9 hr9)
                  go_roundg m
                  case measure => have := HJ.out; omega
                  case rel => exact ⟨wrap64 (j + 1), _, _, rfl, ⟨by have := HJ.out; rw [hw.out]; omega⟩, ⟨by rw [List.length_set]; exact HXL.out⟩, HA4, HS9, HR9, HB9⟩
              · have hdj : decide (j < (l1.length : Int)) = false := decide_eq_false hlj
                have z2 : wr.cell? ⟨g2, 0, none⟩ = some (.slice A7 ys.length c7) := (blk_cell HS.out.b2 0).trans rfl
                have HX : Aside0 (xs = r) := ⟨by
                  have h1 := HA.out
                  rw [show gk = 0 by have := HJ.out; omega] at h1
                  exact Option.some.inj h1⟩
                go_wp2
                go_ret
                exact ⟨_, rfl, by rw [← HX.out]; exact Kd.R_mono HRR.out (fun _ _ => trivial), HBB.out⟩
      · rw [if_neg hl] at h2; cases h2
    · rw [if_neg m2] at h
      have e2 : (a0 == 2) = false := beq_eq_false_iff_ne.mpr m2
      obtain rfl := Option.some.inj h
      clear h m2
      go_enter Try.func24, Try.ntmps24
      go_wp2_with (first | (go_at_call 37; rw [← HW.out]; refine HT1.out.mono ?_; rintro e w1 ⟨rfl, hb⟩; have HBA := Aside0.mk hb; have y1 := C1.out _ hb; clear hb) | (go_at_call 38; refine (HT2.out _).mono ?_; rintro e w2 ⟨rfl, hb⟩; have HBB := Aside0.mk (below_step HBA.out hb); clear hb))
      go_ret
      exact ⟨_, rfl, Kd.R_nil _ _ _ _ _, below_alloc (below_step HB.out HBB.out) _⟩
end Go.Proofs.Ytjjnbcaemognhaa.Clr
