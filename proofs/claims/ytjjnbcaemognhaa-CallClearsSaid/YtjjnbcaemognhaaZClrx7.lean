/- Printed by this session's wip/drive.py over the translation; some functions by hand. -/
import Derived.Test.YtjjnbcaemognhaaZClrx0
import Derived.Test.YtjjnbcaemognhaaZClrx6
namespace Go.Proofs.Ytjjnbcaemognhaa.Clr
open Go.RowKit Go.Proofs.YtjjnbcaemognhaaW.PrintWords Go.Proofs.YtjjnbcaemognhaaW.PrintLast Go.Proofs.YtjjnbcaemognhaaW.PrintMore
attribute [local go_sem] max2_int min2_int max_two min_two max_three min_three max_four min_four
set_option linter.unusedVariables false
set_option linter.unusedSimpArgs false
mutual
def share_Total.j0 : Nat → List (S42) → Int → Int → Bool → Option (Int)
  | 0, _, _, _, _ => none
  | k + 1, x0, x1, x4, x17 => if x17 = true then (some 0) else (share_Total.l0 k x1 x4 x0 (x0.length : Int) 0)
def share_Total.l0 : Nat → Int → Int → List (S42) → Int → Int → Option (Int)
  | 0, _, _, _, _, _ => none
  | k + 1, x1, x4, x18, x19, x20 => if x20 < x19 then (if 0 ≤ x20 then (if x20 < (x18.length : Int) then (if ((rd_T42 x18 x20).f4) < 0 then (some 0) else (if ((rd_T42 x18 x20).f4) > 1099511627776 then (some 0) else ((limits_Trim.f x1 ((rd_T42 x18 x20).f4)).bind fun t143 => (share_Total.l0 k x1 (wrap64 (x4 + t143)) x18 x19 (wrap64 (x20 + 1)))))) else (none)) else (none)) else (some x4)
end
def share_Total.f (k : Nat) (l0 : List (S42)) (a1 : Int) : Option (Int) := if a1 < 1 then (share_Total.j0 k l0 a1 0 true) else (if a1 > 1099511627776 then (share_Total.j0 k l0 a1 0 true) else (share_Total.j0 k l0 a1 0 (decide ((l0.length : Int) > 64))))
theorem share_Total.mono_l : ∀ k, (∀ y0 y1 y2 y3, LeO (share_Total.j0 k y0 y1 y2 y3) (share_Total.j0 (k + 1) y0 y1 y2 y3)) ∧ (∀ y0 y1 y2 y3 y4, LeO (share_Total.l0 k y0 y1 y2 y3 y4) (share_Total.l0 (k + 1) y0 y1 y2 y3 y4))
  | 0 => ⟨fun _ _ _ _ r h => by simp [share_Total.j0] at h, fun _ _ _ _ _ r h => by simp [share_Total.l0] at h⟩
  | k + 1 => by
    obtain ⟨ih0, ih1⟩ := share_Total.mono_l k
    refine ⟨?_, ?_⟩
    · intro y0 y1 y2 y3
      unfold share_Total.j0
      repeat' first
      | (with_reducible exact ih0 _ _ _ _)
      | (with_reducible exact ih1 _ _ _ _ _)
      | (with_reducible exact LeO.refl _)
      | (with_reducible exact LeO.none _)
      | (with_reducible refine LeO.ite ?_ ?_)
      | (with_reducible refine LeO.bind ?_ (fun _ => ?_))
      | exact ih0 _ _ _ _
      | exact ih1 _ _ _ _ _
      | exact LeO.none _
      | refine LeO.ite ?_ ?_
      | refine LeO.bind ?_ (fun _ => ?_)
    · intro y0 y1 y2 y3 y4
      unfold share_Total.l0
      repeat' first
      | (with_reducible exact ih0 _ _ _ _)
      | (with_reducible exact ih1 _ _ _ _ _)
      | (with_reducible exact LeO.refl _)
      | (with_reducible exact LeO.none _)
      | (with_reducible refine LeO.ite ?_ ?_)
      | (with_reducible refine LeO.bind ?_ (fun _ => ?_))
      | exact ih0 _ _ _ _
      | exact ih1 _ _ _ _ _
      | exact LeO.none _
      | refine LeO.ite ?_ ?_
      | refine LeO.bind ?_ (fun _ => ?_)
theorem share_Total.mono : ∀ a0 a1 k, LeO (share_Total.f k a0 a1) (share_Total.f (k + 1) a0 a1) := by
  intro a0 a1 k
  obtain ⟨ih0, ih1⟩ := share_Total.mono_l k
  unfold share_Total.f
  repeat' first
      | (with_reducible exact ih0 _ _ _ _)
      | (with_reducible exact ih1 _ _ _ _ _)
      | (with_reducible exact LeO.refl _)
      | (with_reducible exact LeO.none _)
      | (with_reducible refine LeO.ite ?_ ?_)
      | (with_reducible refine LeO.bind ?_ (fun _ => ?_))
      | exact ih0 _ _ _ _
      | exact ih1 _ _ _ _ _
      | exact LeO.none _
      | refine LeO.ite ?_ ?_
      | refine LeO.bind ?_ (fun _ => ?_)
set_option maxHeartbeats 8000000 in
set_option maxRecDepth 100000 in
theorem share_Total.calls (k : Nat) (A0 : Option Addr) (c0 : Nat) (l0 : List (S42)) (a1 : Int) (r : Int) (w : World) (hr0 : Kd.C k42 w A0 l0.length l0) (hc0 : l0.length ≤ c0) (h : share_Total.f k l0 a1 = some r) :
    Calls Try.prog 37 #[.slice A0 l0.length c0, .int .i64 a1] w fun e w' => e = .returned (.int .i64 r) ∧ Below w.heap.size w w' := by
  have hu42 := Try.underlying42
  have HR0 := Aside0.mk hr0
  have HC0 := Aside0.mk hc0
  clear hr0 hc0
  have HB := Aside0.mk (Below.refl w.heap.size w)
  have H : (if a1 < 1 then (share_Total.j0 k l0 a1 0 true) else (if a1 > 1099511627776 then (share_Total.j0 k l0 a1 0 true) else (share_Total.j0 k l0 a1 0 (decide ((l0.length : Int) > 64))))) = some r := h
  clear h
  have HC3 := Aside0.mk H
  clear H
  go_enter Try.func37, Try.ntmps37
  go_upto_region 1 with (fail)
  go_cut [17] (fun v17 wc => ∃ (kq : Nat) (x17_2 : Bool), v17 = .bool x17_2 ∧ Aside0 (share_Total.j0 kq l0 a1 0 x17_2 = some r) ∧ Aside0 (kq ≤ k) ∧ Aside0 (Below w.heap.size w wc))
  case first =>
    have H := HC3.out
    clear HC3
    by_cases c4 : a1 < 1
    · rw [if_pos c4] at H
      have c4b0 : decide (a1 < 1) = true := decide_eq_true c4
      clear c4
      (first | rw [c4b0] | (simp only [i64_w, i32_w]; rw [c4b0]) | skip)
      have H' := Aside0.mk H
      clear H
      go_wp2
      go_meet
      case rel => exact ⟨_, (true), (by first | rfl | (simp; done) | (simp [*]; done)), H', ⟨by first | omega | exact Nat.le_refl _⟩, ⟨by repeat (first | (with_reducible first | exact HB.out | apply below_alloc | apply pw_below_drewN | apply below_drew1) | exact HB.out)⟩⟩
    · rw [if_neg c4] at H
      have c4b0 : decide (a1 < 1) = false := decide_eq_false c4
      clear c4
      (first | rw [c4b0] | (simp only [i64_w, i32_w]; rw [c4b0]) | skip)
      by_cases c5 : a1 > 1099511627776
      · rw [if_pos c5] at H
        have c5b0 : decide (1099511627776 < a1) = true := decide_eq_true c5
        clear c5
        have H' := Aside0.mk H
        clear H
        go_wp2
        go_meet
        case rel => exact ⟨_, (true), (by first | rfl | (simp; done) | (simp [*]; done)), H', ⟨by first | omega | exact Nat.le_refl _⟩, ⟨by repeat (first | (with_reducible first | exact HB.out | apply below_alloc | apply pw_below_drewN | apply below_drew1) | exact HB.out)⟩⟩
      · rw [if_neg c5] at H
        have c5b0 : decide (1099511627776 < a1) = false := decide_eq_false c5
        clear c5
        have H' := Aside0.mk H
        clear H
        go_wp2
        go_meet
        case rel => exact ⟨_, (decide ((l0.length : Int) > 64)), (by first | rfl | (simp; done) | (simp [*]; done)), H', ⟨by first | omega | exact Nat.le_refl _⟩, ⟨by repeat (first | (with_reducible first | exact HB.out | apply below_alloc | apply pw_below_drewN | apply below_drew1) | exact HB.out)⟩⟩
  case rest =>
    clear HC3
    try clear p2
    try clear c3
    try clear c4
    try clear c4b0
    try clear c5
    try clear c5b0
    obtain ⟨kq, x17_2, rfl, HA, HJ2, HB⟩ := hcut
    cases kq with
    | zero => exact absurd HA.out (by simp [share_Total.j0])
    | succ kj2 =>
      have H := HA.out
      clear HA
      simp only [share_Total.j0] at H
      by_cases c6 : x17_2 = true
      · subst c6
        have H1 : (some 0) = some r := by rw [if_pos rfl] at H; exact H
        clear H
        have H := H1
        clear H1
        obtain rfl := Option.some.inj H
        go_wp2
        go_ret
        exact ⟨by first | rfl | (simp [errW_none, errW_some] <;> rfl) | (simp [*, errW_none, errW_some] <;> rfl), by repeat (first | (with_reducible first | exact HB.out | apply below_alloc | apply pw_below_drewN | apply below_drew1) | exact HB.out)⟩
      · replace c6 := Bool.eq_false_iff.mpr c6
        subst c6
        have H1 : (share_Total.l0 kj2 a1 0 l0 (l0.length : Int) 0) = some r := by rw [if_neg (show ¬ (false = true) by decide)] at H; exact H
        clear H
        have H := H1
        clear H1
        have H' := Aside0.mk H
        clear H
        go_wp2
        go_loopg [4, 20] kj2 (fun kq v4 v20 w' => ∃ (x4_2 : Int) (x20_2 : Int), v4 = .int .i64 x4_2 ∧ v20 = .int .i64 x20_2 ∧ Aside0 (share_Total.l0 kq a1 x4_2 l0 (l0.length : Int) x20_2 = some r) ∧ Aside0 (kq ≤ kj2) ∧ Aside0 (Below w.heap.size w w'))
        case atStart => exact ⟨(0), (0), (by first | rfl | (simp; done) | (simp [*]; done)), (by first | rfl | (simp; done) | (simp [*]; done)), H', ⟨Nat.le_refl _⟩, ⟨by repeat (first | (with_reducible first | exact HB.out | apply below_alloc | apply pw_below_drewN | apply below_drew1) | exact HB.out)⟩⟩
        case round =>
          clear H'
          try clear p2
          try clear c3
          try clear c4
          try clear c4b0
          try clear c5
          try clear c5b0
          try clear c6
          try clear p2
          obtain ⟨x4_2, x20_2, rfl, rfl, HA, HK2, HB⟩ := hrel
          cases gk with
          | zero => exact absurd HA.out (by simp [share_Total.l0])
          | succ k2 =>
            have H := HA.out
            clear HA
            simp only [share_Total.l0] at H
            by_cases c7 : x20_2 < (l0.length : Int)
            · rw [if_pos c7] at H
              have c7b0 : decide (x20_2 < (l0.length : Int)) = true := decide_eq_true c7
              clear c7
              by_cases c8 : 0 ≤ x20_2
              · rw [if_pos c8] at H
                have c8b0 : decide (0 ≤ x20_2) = true := decide_eq_true c8
                clear c8
                by_cases c9 : x20_2 < (l0.length : Int)
                · rw [if_pos c9] at H
                  have c9b0 : decide (x20_2 < (l0.length : Int)) = true := decide_eq_true c9
                  clear c9
                  by_cases c10 : ((rd_T42 l0 x20_2).f4) < 0
                  · rw [if_pos c10] at H
                    have c10b0 : decide (((rd_T42 l0 x20_2).f4) < 0) = true := decide_eq_true c10
                    clear c10
                    obtain rfl := Option.some.inj H
                    have p141 : 0 ≤ (x20_2 : Int) := of_decide_eq_true (by first | (with_reducible assumption) | assumption)
                    have q141 : x20_2 < (l0.length : Int) := of_decide_eq_true (by first | (with_reducible assumption) | assumption)
                    obtain ⟨ad141, e141, hx141_0, hx141_1, hx141_2, hx141_3, hx141_4, hx141_5⟩ := at_T42 HR0.out x20_2 p141 q141
                    cases e141
                    replace hx141_0 := (HB.out.cell (World.block_lt_of_cell? w _ hx141_0)).trans hx141_0
                    replace hx141_1 := (HB.out.cell (World.block_lt_of_cell? w _ hx141_1)).trans hx141_1
                    replace hx141_2 := (HB.out.cell (World.block_lt_of_cell? w _ hx141_2)).trans hx141_2
                    replace hx141_3 := (HB.out.cell (World.block_lt_of_cell? w _ hx141_3)).trans hx141_3
                    replace hx141_4 := (HB.out.cell (World.block_lt_of_cell? w _ hx141_4)).trans hx141_4
                    replace hx141_5 := (HB.out.cell (World.block_lt_of_cell? w _ hx141_5)).trans hx141_5
                    replace p141 := eq_true p141
                    replace q141 := eq_true q141
                    go_wp2_with (first | ((with_reducible refine gate_dst (N := 6) rfl ?_); (try (refine gate_guard (by rfl) ?_; dsimp only)); refine box_event ?hg (N := 6) ?hd (cs := #[.int .u64 0, .int .i64 0, .int .i64 0, .int .i64 0, .int .i64 0, .int .u64 0]) (t := 42) ?hr ?_; (case hd => rfl); (case hg => rfl); (case hr => first | (go_simp; done) | (go_simp; rfl)); intro gb142 hg w11 hbox hb; have n0_ := Aside0.mk (below_step (by repeat (first | (with_reducible first | exact HB.out | apply below_alloc | apply pw_below_drewN | apply below_drew1) | exact HB.out)) hb); have n1_ := Aside0.mk (hbox); have n2_ := Aside0.mk ((by rw [hg]; exact (below_size (by repeat (first | (with_reducible first | exact HB.out | apply below_alloc | apply pw_below_drewN | apply below_drew1) | exact HB.out))) : w.heap.size ≤ gb142)); have n3_ := Aside0.mk ((by rw [hg]; exact (below_size (by repeat (first | (with_reducible first | exact HB.out | apply below_alloc | apply pw_below_drewN | apply below_drew1) | exact HB.out))) : w.heap.size ≤ gb142)); clear HB; have HB := n0_; have BK142 := n1_; have GW142 := n2_; have GE142 := n3_; clear n0_ n1_ n2_ n3_; clear hb hbox hg; have hcz12_0 : w11.cell? ⟨gb142, 0, none⟩ = some (.int .u64 0) := (blk_cell BK142.out 0).trans rfl; have hcz12_1 : w11.cell? ⟨gb142, 1, none⟩ = some (.int .i64 0) := (blk_cell BK142.out 1).trans rfl; have hcz12_2 : w11.cell? ⟨gb142, 2, none⟩ = some (.int .i64 0) := (blk_cell BK142.out 2).trans rfl; have hcz12_3 : w11.cell? ⟨gb142, 3, none⟩ = some (.int .i64 0) := (blk_cell BK142.out 3).trans rfl; have hcz12_4 : w11.cell? ⟨gb142, 4, none⟩ = some (.int .i64 0) := (blk_cell BK142.out 4).trans rfl; have hcz12_5 : w11.cell? ⟨gb142, 5, none⟩ = some (.int .u64 0) := (blk_cell BK142.out 5).trans rfl; have hfz12_0 := blk_frozen BK142.out 0; have hfz12_1 := blk_frozen BK142.out 1; have hfz12_2 := blk_frozen BK142.out 2; have hfz12_3 := blk_frozen BK142.out 3; have hfz12_4 := blk_frozen BK142.out 4; have hfz12_5 := blk_frozen BK142.out 5))
                    go_ret
                    exact ⟨by first | rfl | (simp [errW_none, errW_some] <;> rfl) | (simp [*, errW_none, errW_some] <;> rfl), by repeat (first | (with_reducible first | exact HB.out | apply below_alloc | apply pw_below_drewN | apply below_drew1 | refine below_set ?_ GE142.out) | exact HB.out)⟩
                  · rw [if_neg c10] at H
                    have c10b0 : decide (((rd_T42 l0 x20_2).f4) < 0) = false := decide_eq_false c10
                    clear c10
                    by_cases c13 : ((rd_T42 l0 x20_2).f4) > 1099511627776
                    · rw [if_pos c13] at H
                      have c13b0 : decide (1099511627776 < ((rd_T42 l0 x20_2).f4)) = true := decide_eq_true c13
                      clear c13
                      obtain rfl := Option.some.inj H
                      have p141 : 0 ≤ (x20_2 : Int) := of_decide_eq_true (by first | (with_reducible assumption) | assumption)
                      have q141 : x20_2 < (l0.length : Int) := of_decide_eq_true (by first | (with_reducible assumption) | assumption)
                      obtain ⟨ad141, e141, hx141_0, hx141_1, hx141_2, hx141_3, hx141_4, hx141_5⟩ := at_T42 HR0.out x20_2 p141 q141
                      cases e141
                      replace hx141_0 := (HB.out.cell (World.block_lt_of_cell? w _ hx141_0)).trans hx141_0
                      replace hx141_1 := (HB.out.cell (World.block_lt_of_cell? w _ hx141_1)).trans hx141_1
                      replace hx141_2 := (HB.out.cell (World.block_lt_of_cell? w _ hx141_2)).trans hx141_2
                      replace hx141_3 := (HB.out.cell (World.block_lt_of_cell? w _ hx141_3)).trans hx141_3
                      replace hx141_4 := (HB.out.cell (World.block_lt_of_cell? w _ hx141_4)).trans hx141_4
                      replace hx141_5 := (HB.out.cell (World.block_lt_of_cell? w _ hx141_5)).trans hx141_5
                      replace p141 := eq_true p141
                      replace q141 := eq_true q141
                      go_wp2_with (first | ((with_reducible refine gate_dst (N := 6) rfl ?_); (try (refine gate_guard (by rfl) ?_; dsimp only)); refine box_event ?hg (N := 6) ?hd (cs := #[.int .u64 0, .int .i64 0, .int .i64 0, .int .i64 0, .int .i64 0, .int .u64 0]) (t := 42) ?hr ?_; (case hd => rfl); (case hg => rfl); (case hr => first | (go_simp; done) | (go_simp; rfl)); intro gb142 hg w14 hbox hb; have n0_ := Aside0.mk (below_step (by repeat (first | (with_reducible first | exact HB.out | apply below_alloc | apply pw_below_drewN | apply below_drew1) | exact HB.out)) hb); have n1_ := Aside0.mk (hbox); have n2_ := Aside0.mk ((by rw [hg]; exact (below_size (by repeat (first | (with_reducible first | exact HB.out | apply below_alloc | apply pw_below_drewN | apply below_drew1) | exact HB.out))) : w.heap.size ≤ gb142)); have n3_ := Aside0.mk ((by rw [hg]; exact (below_size (by repeat (first | (with_reducible first | exact HB.out | apply below_alloc | apply pw_below_drewN | apply below_drew1) | exact HB.out))) : w.heap.size ≤ gb142)); clear HB; have HB := n0_; have BK142 := n1_; have GW142 := n2_; have GE142 := n3_; clear n0_ n1_ n2_ n3_; clear hb hbox hg; have hcz15_0 : w14.cell? ⟨gb142, 0, none⟩ = some (.int .u64 0) := (blk_cell BK142.out 0).trans rfl; have hcz15_1 : w14.cell? ⟨gb142, 1, none⟩ = some (.int .i64 0) := (blk_cell BK142.out 1).trans rfl; have hcz15_2 : w14.cell? ⟨gb142, 2, none⟩ = some (.int .i64 0) := (blk_cell BK142.out 2).trans rfl; have hcz15_3 : w14.cell? ⟨gb142, 3, none⟩ = some (.int .i64 0) := (blk_cell BK142.out 3).trans rfl; have hcz15_4 : w14.cell? ⟨gb142, 4, none⟩ = some (.int .i64 0) := (blk_cell BK142.out 4).trans rfl; have hcz15_5 : w14.cell? ⟨gb142, 5, none⟩ = some (.int .u64 0) := (blk_cell BK142.out 5).trans rfl; have hfz15_0 := blk_frozen BK142.out 0; have hfz15_1 := blk_frozen BK142.out 1; have hfz15_2 := blk_frozen BK142.out 2; have hfz15_3 := blk_frozen BK142.out 3; have hfz15_4 := blk_frozen BK142.out 4; have hfz15_5 := blk_frozen BK142.out 5))
                      go_ret
                      exact ⟨by first | rfl | (simp [errW_none, errW_some] <;> rfl) | (simp [*, errW_none, errW_some] <;> rfl), by repeat (first | (with_reducible first | exact HB.out | apply below_alloc | apply pw_below_drewN | apply below_drew1 | refine below_set ?_ GE142.out) | exact HB.out)⟩
                    · rw [if_neg c13] at H
                      have c13b0 : decide (1099511627776 < ((rd_T42 l0 x20_2).f4)) = false := decide_eq_false c13
                      clear c13
                      replace H := Option.bind_eq_some_iff.mp H
                      obtain ⟨t143, A160, H⟩ := H
                      replace H : (share_Total.l0 k2 a1 (wrap64 (x4_2 + t143)) l0 (l0.length : Int) (wrap64 (x20_2 + 1))) = some r := H
                      have A16 := Aside0.mk A160
                      clear A160
                      have H' := Aside0.mk H
                      clear H
                      have p141 : 0 ≤ (x20_2 : Int) := of_decide_eq_true (by first | (with_reducible assumption) | assumption)
                      have q141 : x20_2 < (l0.length : Int) := of_decide_eq_true (by first | (with_reducible assumption) | assumption)
                      obtain ⟨ad141, e141, hx141_0, hx141_1, hx141_2, hx141_3, hx141_4, hx141_5⟩ := at_T42 HR0.out x20_2 p141 q141
                      cases e141
                      replace hx141_0 := (HB.out.cell (World.block_lt_of_cell? w _ hx141_0)).trans hx141_0
                      replace hx141_1 := (HB.out.cell (World.block_lt_of_cell? w _ hx141_1)).trans hx141_1
                      replace hx141_2 := (HB.out.cell (World.block_lt_of_cell? w _ hx141_2)).trans hx141_2
                      replace hx141_3 := (HB.out.cell (World.block_lt_of_cell? w _ hx141_3)).trans hx141_3
                      replace hx141_4 := (HB.out.cell (World.block_lt_of_cell? w _ hx141_4)).trans hx141_4
                      replace hx141_5 := (HB.out.cell (World.block_lt_of_cell? w _ hx141_5)).trans hx141_5
                      replace p141 := eq_true p141
                      replace q141 := eq_true q141
                      go_wp2_with (first | ((with_reducible refine gate_dst (N := 6) rfl ?_); (try (refine gate_guard (by rfl) ?_; dsimp only)); refine box_event ?hg (N := 6) ?hd (cs := #[.int .u64 0, .int .i64 0, .int .i64 0, .int .i64 0, .int .i64 0, .int .u64 0]) (t := 42) ?hr ?_; (case hd => rfl); (case hg => rfl); (case hr => first | (go_simp; done) | (go_simp; rfl)); intro gb142 hg w17 hbox hb; have n0_ := Aside0.mk (below_step (by repeat (first | (with_reducible first | exact HB.out | apply below_alloc | apply pw_below_drewN | apply below_drew1) | exact HB.out)) hb); have n1_ := Aside0.mk (hbox); have n2_ := Aside0.mk ((by rw [hg]; exact (below_size (by repeat (first | (with_reducible first | exact HB.out | apply below_alloc | apply pw_below_drewN | apply below_drew1) | exact HB.out))) : w.heap.size ≤ gb142)); have n3_ := Aside0.mk ((by rw [hg]; exact (below_size (by repeat (first | (with_reducible first | exact HB.out | apply below_alloc | apply pw_below_drewN | apply below_drew1) | exact HB.out))) : w.heap.size ≤ gb142)); clear HB; have HB := n0_; have BK142 := n1_; have GW142 := n2_; have GE142 := n3_; clear n0_ n1_ n2_ n3_; clear hb hbox hg; have hcz18_0 : w17.cell? ⟨gb142, 0, none⟩ = some (.int .u64 0) := (blk_cell BK142.out 0).trans rfl; have hcz18_1 : w17.cell? ⟨gb142, 1, none⟩ = some (.int .i64 0) := (blk_cell BK142.out 1).trans rfl; have hcz18_2 : w17.cell? ⟨gb142, 2, none⟩ = some (.int .i64 0) := (blk_cell BK142.out 2).trans rfl; have hcz18_3 : w17.cell? ⟨gb142, 3, none⟩ = some (.int .i64 0) := (blk_cell BK142.out 3).trans rfl; have hcz18_4 : w17.cell? ⟨gb142, 4, none⟩ = some (.int .i64 0) := (blk_cell BK142.out 4).trans rfl; have hcz18_5 : w17.cell? ⟨gb142, 5, none⟩ = some (.int .u64 0) := (blk_cell BK142.out 5).trans rfl; have hfz18_0 := blk_frozen BK142.out 0; have hfz18_1 := blk_frozen BK142.out 1; have hfz18_2 := blk_frozen BK142.out 2; have hfz18_3 := blk_frozen BK142.out 3; have hfz18_4 := blk_frozen BK142.out 4; have hfz18_5 := blk_frozen BK142.out 5) | ((with_reducible refine gate_callee (f := 38) rfl ?_); refine goesL_ (some 36) rfl rfl Try.func38 (by kernel_rfl) rfl #[.int .i64 a1, .int .i64 ((rd_T42 l0 x20_2).f4)] rfl (by (try simp only [List.map_toArray, List.map_cons, List.map_nil]); first | done | rfl | (simp only [List.length_drop, List.length_take]; rfl)) ?_; (with_reducible refine (limits_Trim.calls a1 ((rd_T42 l0 x20_2).f4) t143 _ A16.out).mono ?_); rintro e w19 ⟨rfl, hb⟩; refine ⟨_, rfl, ?_⟩; have n0_ := Aside0.mk (blk_below (g := gb142) (o := .cells #[.int .u64 ((rd_T42 l0 x20_2).f0), .int .i64 ((rd_T42 l0 x20_2).f1), .int .i64 ((rd_T42 l0 x20_2).f2), .int .i64 ((rd_T42 l0 x20_2).f3), .int .i64 ((rd_T42 l0 x20_2).f4), .int .u64 ((rd_T42 l0 x20_2).f5)] 42 (0, 0)) (by (with_reducible repeat (first | refine blk_drewN ?_ _ | refine blk_drew ?_ | refine blk_alloc ?_ _)); refine blk_put (cs := #[.int .u64 ((rd_T42 l0 x20_2).f0), .int .i64 ((rd_T42 l0 x20_2).f1), .int .i64 ((rd_T42 l0 x20_2).f2), .int .i64 ((rd_T42 l0 x20_2).f3), .int .i64 ((rd_T42 l0 x20_2).f4), .int .u64 0]) ?_ 5 _ rfl; (with_reducible repeat (first | refine blk_drewN ?_ _ | refine blk_drew ?_ | refine blk_alloc ?_ _)); refine blk_put (cs := #[.int .u64 ((rd_T42 l0 x20_2).f0), .int .i64 ((rd_T42 l0 x20_2).f1), .int .i64 ((rd_T42 l0 x20_2).f2), .int .i64 ((rd_T42 l0 x20_2).f3), .int .i64 0, .int .u64 0]) ?_ 4 _ rfl; (with_reducible repeat (first | refine blk_drewN ?_ _ | refine blk_drew ?_ | refine blk_alloc ?_ _)); refine blk_put (cs := #[.int .u64 ((rd_T42 l0 x20_2).f0), .int .i64 ((rd_T42 l0 x20_2).f1), .int .i64 ((rd_T42 l0 x20_2).f2), .int .i64 0, .int .i64 0, .int .u64 0]) ?_ 3 _ rfl; (with_reducible repeat (first | refine blk_drewN ?_ _ | refine blk_drew ?_ | refine blk_alloc ?_ _)); refine blk_put (cs := #[.int .u64 ((rd_T42 l0 x20_2).f0), .int .i64 ((rd_T42 l0 x20_2).f1), .int .i64 0, .int .i64 0, .int .i64 0, .int .u64 0]) ?_ 2 _ rfl; (with_reducible repeat (first | refine blk_drewN ?_ _ | refine blk_drew ?_ | refine blk_alloc ?_ _)); refine blk_put (cs := #[.int .u64 ((rd_T42 l0 x20_2).f0), .int .i64 0, .int .i64 0, .int .i64 0, .int .i64 0, .int .u64 0]) ?_ 1 _ rfl; (with_reducible repeat (first | refine blk_drewN ?_ _ | refine blk_drew ?_ | refine blk_alloc ?_ _)); refine blk_put (cs := #[.int .u64 0, .int .i64 0, .int .i64 0, .int .i64 0, .int .i64 0, .int .u64 0]) ?_ 0 _ rfl; (with_reducible repeat (first | refine blk_drewN ?_ _ | refine blk_drew ?_ | refine blk_alloc ?_ _)); exact BK142.out) hb); have n1_ := Aside0.mk (below_step (by repeat (first | (with_reducible first | exact HB.out | apply below_alloc | apply pw_below_drewN | apply below_drew1 | refine below_set ?_ GE142.out) | exact HB.out)) hb); clear BK142; clear HB; have BK142 := n0_; have HB := n1_; clear n0_ n1_; (try clear hb); (try clear hb2); (try clear hk); (try clear hi)))
                      go_roundg k2
                      case measure => have := HJ2.out; have := HK2.out; omega
                      case rel => exact ⟨(wrap64 (x4_2 + t143)), (wrap64 (x20_2 + 1)), (by first | rfl | (simp; done) | (simp [*]; done)), (by first | rfl | (simp; done) | (simp [*]; done)), H', ⟨by have := HJ2.out; have := HK2.out; omega⟩, ⟨by repeat (first | (with_reducible first | exact HB.out | apply below_alloc | apply pw_below_drewN | apply below_drew1 | refine below_set ?_ GE142.out) | exact HB.out)⟩⟩
                · rw [if_neg c9] at H
                  exact absurd H (by simp)
              · rw [if_neg c8] at H
                exact absurd H (by simp)
            · rw [if_neg c7] at H
              have c7b0 : decide (x20_2 < (l0.length : Int)) = false := decide_eq_false c7
              clear c7
              obtain rfl := Option.some.inj H
              go_wp2
              go_ret
              exact ⟨by first | rfl | (simp [errW_none, errW_some] <;> rfl) | (simp [*, errW_none, errW_some] <;> rfl), by repeat (first | (with_reducible first | exact HB.out | apply below_alloc | apply pw_below_drewN | apply below_drew1) | exact HB.out)⟩
def coin_size.f (a0 : Int) : Option (Int) := if a0 < 0 then (some (IntKind.u64.wrap (-(IntKind.u64.wrap (a0))))) else (some (IntKind.u64.wrap (a0)))
set_option maxHeartbeats 8000000 in
set_option maxRecDepth 100000 in
theorem coin_size.calls (a0 : Int) (r : Int) (w : World) (h : coin_size.f a0 = some r) :
    Calls Try.prog 67 #[.int .i64 a0] w fun e w' => e = .returned (.int .u64 r) ∧ Drawn0 w w' := by
  have H : (if a0 < 0 then (some (IntKind.u64.wrap (-(IntKind.u64.wrap (a0))))) else (some (IntKind.u64.wrap (a0)))) = some r := h
  clear h
  by_cases c2 : a0 < 0
  · rw [if_pos c2] at H
    have c2b0 : decide (a0 < 0) = true := decide_eq_true c2
    clear c2
    obtain rfl := Option.some.inj H
    go_enter Try.func67, Try.ntmps67
    go_wp2
    go_ret
    exact ⟨by first | rfl | (simp; done) | (simp [*]; done), by repeat (first | exact Drawn0.refl _ | apply Drawn0.step)⟩
  · rw [if_neg c2] at H
    have c2b0 : decide (a0 < 0) = false := decide_eq_false c2
    clear c2
    obtain rfl := Option.some.inj H
    go_enter Try.func67, Try.ntmps67
    go_wp2
    go_ret
    exact ⟨by first | rfl | (simp; done) | (simp [*]; done), by repeat (first | exact Drawn0.refl _ | apply Drawn0.step)⟩
def bits_Mul64.f (a0 a1 : Int) : Option (Int × Int) := if (0 ≤ a0 ∧ a0 < 18446744073709551616) ∧ 0 ≤ a1 ∧ a1 < 18446744073709551616 then some (a0 * a1 / 18446744073709551616, a0 * a1 % 18446744073709551616) else none
theorem bits_Mul64.calls (a0 a1 : Int) (r1 r2 : Int) (w : World) (h : bits_Mul64.f a0 a1 = some (r1, r2)) :
    Calls Try.prog 77 #[.int .u64 a0, .int .u64 a1] w fun e w' => e = .returned (.tuple #[.int .u64 r1, .int .u64 r2]) ∧ Below w.heap.size w w' := by
  unfold bits_Mul64.f at h
  by_cases hc : (0 ≤ a0 ∧ a0 < 18446744073709551616) ∧ 0 ≤ a1 ∧ a1 < 18446744073709551616
  · rw [if_pos hc] at h
    injection h with h
    injection h with ha hb
    subst ha hb
    obtain ⟨⟨h00, h01⟩, h10, h11⟩ := hc
    obtain ⟨n, rfl⟩ := Int.eq_ofNat_of_zero_le h00
    obtain ⟨m, rfl⟩ := Int.eq_ofNat_of_zero_le h10
    refine (Try.bits_Mul64 n m (by omega) (by omega) w).mono fun e w' ⟨he, hw⟩ => ⟨?_, by rw [hw]; exact Below.refl _ _⟩
    rw [he]
    simp
  · rw [if_neg hc] at h; cases h
def coin_times.f (a0 : Int) (a1 : Int) : Option (Int × Int × Bool) := (coin_size.f a0).bind fun t145 => ((coin_size.f a1).bind fun t146 => ((bits_Mul64.f t145 t146).bind fun bt147 => (if ((decide (a0 < 0)) != (decide (a1 < 0))) = true then (some (bt147.1, bt147.2, ((Go.bits .or .u64 bt147.1 bt147.2) != 0))) else (some (bt147.1, bt147.2, false)))))
set_option maxHeartbeats 8000000 in
set_option maxRecDepth 100000 in
theorem coin_times.calls (a0 : Int) (a1 : Int) (r1 : Int) (r2 : Int) (r3 : Bool) (w : World) (h : coin_times.f a0 a1 = some (r1, r2, r3)) :
    Calls Try.prog 66 #[.int .i64 a0, .int .i64 a1] w fun e w' => e = .returned (.agg #[.int .u64 r1, .int .u64 r2, .bool r3]) ∧ Below w.heap.size w w' := by
  have hu105 := Try.underlying105
  have HB := Aside0.mk (Below.refl w.heap.size w)
  have H : ((coin_size.f a0).bind fun t145 => ((coin_size.f a1).bind fun t146 => ((bits_Mul64.f t145 t146).bind fun bt147 => (if ((decide (a0 < 0)) != (decide (a1 < 0))) = true then (some (bt147.1, bt147.2, ((Go.bits .or .u64 bt147.1 bt147.2) != 0))) else (some (bt147.1, bt147.2, false)))))) = some (r1, r2, r3) := h
  clear h
  replace H := Option.bind_eq_some_iff.mp H
  obtain ⟨t145, A30, H⟩ := H
  replace H : ((coin_size.f a1).bind fun t146 => ((bits_Mul64.f t145 t146).bind fun bt147 => (if ((decide (a0 < 0)) != (decide (a1 < 0))) = true then (some (bt147.1, bt147.2, ((Go.bits .or .u64 bt147.1 bt147.2) != 0))) else (some (bt147.1, bt147.2, false))))) = some (r1, r2, r3) := H
  have A3 := Aside0.mk A30
  clear A30
  replace H := Option.bind_eq_some_iff.mp H
  obtain ⟨t146, A40, H⟩ := H
  replace H : ((bits_Mul64.f t145 t146).bind fun bt147 => (if ((decide (a0 < 0)) != (decide (a1 < 0))) = true then (some (bt147.1, bt147.2, ((Go.bits .or .u64 bt147.1 bt147.2) != 0))) else (some (bt147.1, bt147.2, false)))) = some (r1, r2, r3) := H
  have A4 := Aside0.mk A40
  clear A40
  replace H := Option.bind_eq_some_iff.mp H
  obtain ⟨⟨t147, t148⟩, A50, H⟩ := H
  replace H : (if ((decide (a0 < 0)) != (decide (a1 < 0))) = true then (some (t147, t148, ((Go.bits .or .u64 t147 t148) != 0))) else (some (t147, t148, false))) = some (r1, r2, r3) := H
  have A5 := Aside0.mk A50
  clear A50
  by_cases c6 : ((decide (a0 < 0)) != (decide (a1 < 0))) = true
  · rw [if_pos c6] at H
    have c6b0 : ((decide (a0 < 0)) != (decide (a1 < 0))) = true := c6
    (try (have c6b1 : decide ((decide (a0 < 0)) = (decide (a1 < 0))) = false := by simpa using c6))
    (try (have c6b2 : ((decide (a0 < 0)) == (decide (a1 < 0))) = false := by simpa using c6))
    (try (have c6b3 : ¬ ((decide (a0 < 0)) = (decide (a1 < 0))) := by simpa using c6))
    clear c6
    simp only [Option.some.injEq, Prod.mk.injEq] at H
    obtain ⟨rfl, rfl, rfl⟩ := H
    go_enter Try.func66, Try.ntmps66
    go_wp2_with (first | ((with_reducible refine gate_dst (N := 4) rfl ?_); refine box_event ?hg (N := 4) ?hd (cs := #[.int .u64 0, .int .u64 0, .bool false]) (t := 105) ?hr ?_; (case hd => rfl); (case hg => rfl); (case hr => first | (go_simp; done) | (go_simp; rfl)); intro gb144 hg w7 hbox hb; have n0_ := Aside0.mk (below_step (by repeat (first | (with_reducible first | exact HB.out | apply below_alloc | apply pw_below_drewN | apply below_drew1) | exact HB.out)) hb); have n1_ := Aside0.mk (hbox); have n2_ := Aside0.mk ((by rw [hg]; exact (below_size (by repeat (first | (with_reducible first | exact HB.out | apply below_alloc | apply pw_below_drewN | apply below_drew1) | exact HB.out))) : w.heap.size ≤ gb144)); have n3_ := Aside0.mk ((by rw [hg]; exact (below_size (by repeat (first | (with_reducible first | exact HB.out | apply below_alloc | apply pw_below_drewN | apply below_drew1) | exact HB.out))) : w.heap.size ≤ gb144)); clear HB; have HB := n0_; have BK144 := n1_; have GW144 := n2_; have GE144 := n3_; clear n0_ n1_ n2_ n3_; clear hb hbox hg) | ((with_reducible refine gate_callee (f := 67) rfl ?_); refine goesL_ (some 9) rfl rfl Try.func67 (by kernel_rfl) rfl #[.int .i64 a0] rfl (by (try simp only [List.map_toArray, List.map_cons, List.map_nil]); first | done | rfl | (simp only [List.length_drop, List.length_take]; rfl)) ?_; (with_reducible refine (coin_size.calls a0 t145 _ A3.out).mono ?_); rintro e w' ⟨rfl, ⟨nd, rfl⟩⟩; refine ⟨_, rfl, ?_⟩; (try (rw [drewN_self w7]; generalize hq_ : World.drewN w7 _ = w7; have n0_ : Aside0 (w7.heap[gb144]? = some (.cells #[.int .u64 0, .int .u64 0, .bool false] 105 (0, 0))) := ⟨by rw [← hq_]; exact (by (with_reducible repeat (first | refine blk_drewN ?_ _ | refine blk_drew ?_ | refine blk_alloc ?_ _)); exact BK144.out)⟩; have n1_ : Aside0 (Below w.heap.size w w7) := ⟨by rw [← hq_]; exact (by repeat (first | (with_reducible first | exact HB.out | apply below_alloc | apply pw_below_drewN | apply below_drew1 | refine below_set ?_ GE144.out) | exact HB.out))⟩; clear BK144 HB hq_; have BK144 := n0_; have HB := n1_; clear n0_ n1_))) | ((with_reducible refine gate_callee (f := 67) rfl ?_); refine goesL_ (some 11) rfl rfl Try.func67 (by kernel_rfl) rfl #[.int .i64 a1] rfl (by (try simp only [List.map_toArray, List.map_cons, List.map_nil]); first | done | rfl | (simp only [List.length_drop, List.length_take]; rfl)) ?_; (with_reducible refine (coin_size.calls a1 t146 _ A4.out).mono ?_); rintro e w' ⟨rfl, ⟨nd, rfl⟩⟩; refine ⟨_, rfl, ?_⟩; (try (rw [drewN_self w7]; generalize hq_ : World.drewN w7 _ = w7; have n0_ : Aside0 (w7.heap[gb144]? = some (.cells #[.int .u64 0, .int .u64 0, .bool false] 105 (0, 0))) := ⟨by rw [← hq_]; exact (by (with_reducible repeat (first | refine blk_drewN ?_ _ | refine blk_drew ?_ | refine blk_alloc ?_ _)); exact BK144.out)⟩; have n1_ : Aside0 (Below w.heap.size w w7) := ⟨by rw [← hq_]; exact (by repeat (first | (with_reducible first | exact HB.out | apply below_alloc | apply pw_below_drewN | apply below_drew1 | refine below_set ?_ GE144.out) | exact HB.out))⟩; clear BK144 HB hq_; have BK144 := n0_; have HB := n1_; clear n0_ n1_))) | ((with_reducible refine gate_callee (f := 77) rfl ?_); refine goesL_ (some 12) rfl rfl Try.func77 (by kernel_rfl) rfl #[.int .u64 t145, .int .u64 t146] rfl (by (try simp only [List.map_toArray, List.map_cons, List.map_nil]); first | done | rfl | (simp only [List.length_drop, List.length_take]; rfl)) ?_; (with_reducible refine (bits_Mul64.calls t145 t146 t147 t148 _ A5.out).mono ?_); rintro e w8 ⟨rfl, hb⟩; refine ⟨_, rfl, ?_⟩; have n0_ := Aside0.mk (blk_below (g := gb144) (o := .cells #[.int .u64 0, .int .u64 0, .bool false] 105 (0, 0)) (by (with_reducible repeat (first | refine blk_drewN ?_ _ | refine blk_drew ?_ | refine blk_alloc ?_ _)); exact BK144.out) hb); have n1_ := Aside0.mk (below_step (by repeat (first | (with_reducible first | exact HB.out | apply below_alloc | apply pw_below_drewN | apply below_drew1 | refine below_set ?_ GE144.out) | exact HB.out)) hb); clear BK144; clear HB; have BK144 := n0_; have HB := n1_; clear n0_ n1_; (try clear hb); (try clear hb2); (try clear hk); (try clear hi); have hcz9_0 : w8.cell? ⟨gb144, 0, none⟩ = some (.int .u64 0) := (blk_cell BK144.out 0).trans rfl; have hcz9_1 : w8.cell? ⟨gb144, 1, none⟩ = some (.int .u64 0) := (blk_cell BK144.out 1).trans rfl; have hcz9_2 : w8.cell? ⟨gb144, 2, none⟩ = some (.bool false) := (blk_cell BK144.out 2).trans rfl; have hfz9_0 := blk_frozen BK144.out 0; have hfz9_1 := blk_frozen BK144.out 1; have hfz9_2 := blk_frozen BK144.out 2))
    refine bodyPost_ret (results_cell_row rfl _ _ gb144 105 #[.int .u64 t147, .int .u64 t148, .bool ((Go.bits .or .u64 t147 t148) != 0)] (0, 0) _ rfl (by (with_reducible repeat (first | refine blk_drewN ?_ _ | refine blk_drew ?_ | refine blk_alloc ?_ _)); refine blk_put (cs := #[.int .u64 t147, .int .u64 t148, .bool false]) ?_ 2 _ rfl; (with_reducible repeat (first | refine blk_drewN ?_ _ | refine blk_drew ?_ | refine blk_alloc ?_ _)); refine blk_put (cs := #[.int .u64 t147, .int .u64 0, .bool false]) ?_ 1 _ rfl; (with_reducible repeat (first | refine blk_drewN ?_ _ | refine blk_drew ?_ | refine blk_alloc ?_ _)); refine blk_put (cs := #[.int .u64 0, .int .u64 0, .bool false]) ?_ 0 _ rfl; (with_reducible repeat (first | refine blk_drewN ?_ _ | refine blk_drew ?_ | refine blk_alloc ?_ _)); exact BK144.out) Try.underlying105 rfl (by kernel_rfl)) rfl ?_
    exact ⟨by first | rfl | (simp [errW_none, errW_some] <;> rfl) | (simp [*, errW_none, errW_some] <;> rfl), by repeat (first | (with_reducible first | exact HB.out | apply below_alloc | apply pw_below_drewN | apply below_drew1 | refine below_set ?_ GE144.out) | exact HB.out)⟩
  · rw [if_neg c6] at H
    have c6b0 : ((decide (a0 < 0)) != (decide (a1 < 0))) = false := by simpa using c6
    (try (have c6b1 : decide ((decide (a0 < 0)) = (decide (a1 < 0))) = true := by simpa using c6))
    (try (have c6b2 : ((decide (a0 < 0)) == (decide (a1 < 0))) = true := by simpa using c6))
    clear c6
    simp only [Option.some.injEq, Prod.mk.injEq] at H
    obtain ⟨rfl, rfl, rfl⟩ := H
    go_enter Try.func66, Try.ntmps66
    go_wp2_with (first | ((with_reducible refine gate_dst (N := 4) rfl ?_); refine box_event ?hg (N := 4) ?hd (cs := #[.int .u64 0, .int .u64 0, .bool false]) (t := 105) ?hr ?_; (case hd => rfl); (case hg => rfl); (case hr => first | (go_simp; done) | (go_simp; rfl)); intro gb144 hg w10 hbox hb; have n0_ := Aside0.mk (below_step (by repeat (first | (with_reducible first | exact HB.out | apply below_alloc | apply pw_below_drewN | apply below_drew1) | exact HB.out)) hb); have n1_ := Aside0.mk (hbox); have n2_ := Aside0.mk ((by rw [hg]; exact (below_size (by repeat (first | (with_reducible first | exact HB.out | apply below_alloc | apply pw_below_drewN | apply below_drew1) | exact HB.out))) : w.heap.size ≤ gb144)); have n3_ := Aside0.mk ((by rw [hg]; exact (below_size (by repeat (first | (with_reducible first | exact HB.out | apply below_alloc | apply pw_below_drewN | apply below_drew1) | exact HB.out))) : w.heap.size ≤ gb144)); clear HB; have HB := n0_; have BK144 := n1_; have GW144 := n2_; have GE144 := n3_; clear n0_ n1_ n2_ n3_; clear hb hbox hg) | ((with_reducible refine gate_callee (f := 67) rfl ?_); refine goesL_ (some 9) rfl rfl Try.func67 (by kernel_rfl) rfl #[.int .i64 a0] rfl (by (try simp only [List.map_toArray, List.map_cons, List.map_nil]); first | done | rfl | (simp only [List.length_drop, List.length_take]; rfl)) ?_; (with_reducible refine (coin_size.calls a0 t145 _ A3.out).mono ?_); rintro e w' ⟨rfl, ⟨nd, rfl⟩⟩; refine ⟨_, rfl, ?_⟩; (try (rw [drewN_self w10]; generalize hq_ : World.drewN w10 _ = w10; have n0_ : Aside0 (w10.heap[gb144]? = some (.cells #[.int .u64 0, .int .u64 0, .bool false] 105 (0, 0))) := ⟨by rw [← hq_]; exact (by (with_reducible repeat (first | refine blk_drewN ?_ _ | refine blk_drew ?_ | refine blk_alloc ?_ _)); exact BK144.out)⟩; have n1_ : Aside0 (Below w.heap.size w w10) := ⟨by rw [← hq_]; exact (by repeat (first | (with_reducible first | exact HB.out | apply below_alloc | apply pw_below_drewN | apply below_drew1 | refine below_set ?_ GE144.out) | exact HB.out))⟩; clear BK144 HB hq_; have BK144 := n0_; have HB := n1_; clear n0_ n1_))) | ((with_reducible refine gate_callee (f := 67) rfl ?_); refine goesL_ (some 11) rfl rfl Try.func67 (by kernel_rfl) rfl #[.int .i64 a1] rfl (by (try simp only [List.map_toArray, List.map_cons, List.map_nil]); first | done | rfl | (simp only [List.length_drop, List.length_take]; rfl)) ?_; (with_reducible refine (coin_size.calls a1 t146 _ A4.out).mono ?_); rintro e w' ⟨rfl, ⟨nd, rfl⟩⟩; refine ⟨_, rfl, ?_⟩; (try (rw [drewN_self w10]; generalize hq_ : World.drewN w10 _ = w10; have n0_ : Aside0 (w10.heap[gb144]? = some (.cells #[.int .u64 0, .int .u64 0, .bool false] 105 (0, 0))) := ⟨by rw [← hq_]; exact (by (with_reducible repeat (first | refine blk_drewN ?_ _ | refine blk_drew ?_ | refine blk_alloc ?_ _)); exact BK144.out)⟩; have n1_ : Aside0 (Below w.heap.size w w10) := ⟨by rw [← hq_]; exact (by repeat (first | (with_reducible first | exact HB.out | apply below_alloc | apply pw_below_drewN | apply below_drew1 | refine below_set ?_ GE144.out) | exact HB.out))⟩; clear BK144 HB hq_; have BK144 := n0_; have HB := n1_; clear n0_ n1_))) | ((with_reducible refine gate_callee (f := 77) rfl ?_); refine goesL_ (some 12) rfl rfl Try.func77 (by kernel_rfl) rfl #[.int .u64 t145, .int .u64 t146] rfl (by (try simp only [List.map_toArray, List.map_cons, List.map_nil]); first | done | rfl | (simp only [List.length_drop, List.length_take]; rfl)) ?_; (with_reducible refine (bits_Mul64.calls t145 t146 t147 t148 _ A5.out).mono ?_); rintro e w11 ⟨rfl, hb⟩; refine ⟨_, rfl, ?_⟩; have n0_ := Aside0.mk (blk_below (g := gb144) (o := .cells #[.int .u64 0, .int .u64 0, .bool false] 105 (0, 0)) (by (with_reducible repeat (first | refine blk_drewN ?_ _ | refine blk_drew ?_ | refine blk_alloc ?_ _)); exact BK144.out) hb); have n1_ := Aside0.mk (below_step (by repeat (first | (with_reducible first | exact HB.out | apply below_alloc | apply pw_below_drewN | apply below_drew1 | refine below_set ?_ GE144.out) | exact HB.out)) hb); clear BK144; clear HB; have BK144 := n0_; have HB := n1_; clear n0_ n1_; (try clear hb); (try clear hb2); (try clear hk); (try clear hi); have hcz12_0 : w11.cell? ⟨gb144, 0, none⟩ = some (.int .u64 0) := (blk_cell BK144.out 0).trans rfl; have hcz12_1 : w11.cell? ⟨gb144, 1, none⟩ = some (.int .u64 0) := (blk_cell BK144.out 1).trans rfl; have hcz12_2 : w11.cell? ⟨gb144, 2, none⟩ = some (.bool false) := (blk_cell BK144.out 2).trans rfl; have hfz12_0 := blk_frozen BK144.out 0; have hfz12_1 := blk_frozen BK144.out 1; have hfz12_2 := blk_frozen BK144.out 2))
    refine bodyPost_ret (results_cell_row rfl _ _ gb144 105 #[.int .u64 t147, .int .u64 t148, .bool false] (0, 0) _ rfl (by (with_reducible repeat (first | refine blk_drewN ?_ _ | refine blk_drew ?_ | refine blk_alloc ?_ _)); refine blk_put (cs := #[.int .u64 t147, .int .u64 t148, .bool false]) ?_ 2 _ rfl; (with_reducible repeat (first | refine blk_drewN ?_ _ | refine blk_drew ?_ | refine blk_alloc ?_ _)); refine blk_put (cs := #[.int .u64 t147, .int .u64 0, .bool false]) ?_ 1 _ rfl; (with_reducible repeat (first | refine blk_drewN ?_ _ | refine blk_drew ?_ | refine blk_alloc ?_ _)); refine blk_put (cs := #[.int .u64 0, .int .u64 0, .bool false]) ?_ 0 _ rfl; (with_reducible repeat (first | refine blk_drewN ?_ _ | refine blk_drew ?_ | refine blk_alloc ?_ _)); exact BK144.out) Try.underlying105 rfl (by kernel_rfl)) rfl ?_
    exact ⟨by first | rfl | (simp [errW_none, errW_some] <;> rfl) | (simp [*, errW_none, errW_some] <;> rfl), by repeat (first | (with_reducible first | exact HB.out | apply below_alloc | apply pw_below_drewN | apply below_drew1 | refine below_set ?_ GE144.out) | exact HB.out)⟩
def bits_Len64.f (a0 : Int) : Option Int := if 0 ≤ a0 then (if a0 ≤ 18446744073709551615 then some (Lib.bitLen a0.toNat : Int) else none) else none
theorem bits_Len64.calls (a0 : Int) (r : Int) (w : World) (h : bits_Len64.f a0 = some r) :
    Calls Try.prog 80 #[.int .u64 a0] w fun e w' => e = .returned (.int .i64 r) ∧ Below w.heap.size w w' := by
  unfold bits_Len64.f at h
  by_cases h0 : 0 ≤ a0
  · rw [if_pos h0] at h
    by_cases h1 : a0 ≤ 18446744073709551615
    · rw [if_pos h1] at h
      obtain rfl := Option.some.inj h
      exact (Try.bits_Len64 a0 w h0 h1).mono fun e w' ⟨he, hw⟩ => ⟨he, by rw [hw]; exact Below.refl _ _⟩
    · rw [if_neg h1] at h; cases h
  · rw [if_neg h0] at h; cases h
def bits_LeadingZeros64.f (a0 : Int) : Option (Int) := (bits_Len64.f a0).bind fun t149 => (some (wrap64 (64 - t149)))
set_option maxHeartbeats 8000000 in
set_option maxRecDepth 100000 in
theorem bits_LeadingZeros64.calls (a0 : Int) (r : Int) (w : World) (h : bits_LeadingZeros64.f a0 = some r) :
    Calls Try.prog 78 #[.int .u64 a0] w fun e w' => e = .returned (.int .i64 r) ∧ Below w.heap.size w w' := by
  have HB := Aside0.mk (Below.refl w.heap.size w)
  have H : ((bits_Len64.f a0).bind fun t149 => (some (wrap64 (64 - t149)))) = some r := h
  clear h
  replace H := Option.bind_eq_some_iff.mp H
  obtain ⟨t149, A20, H⟩ := H
  replace H : (some (wrap64 (64 - t149))) = some r := H
  have A2 := Aside0.mk A20
  clear A20
  obtain rfl := Option.some.inj H
  go_enter Try.func78, Try.ntmps78
  go_wp2_with (first | ((with_reducible refine gate_callee (f := 80) rfl ?_); refine goesL_ (some 4) rfl rfl Try.func80 (by kernel_rfl) rfl #[.int .u64 a0] rfl (by (try simp only [List.map_toArray, List.map_cons, List.map_nil]); first | done | rfl | (simp only [List.length_drop, List.length_take]; rfl)) ?_; (with_reducible refine (bits_Len64.calls a0 t149 _ A2.out).mono ?_); rintro e w3 ⟨rfl, hb⟩; refine ⟨_, rfl, ?_⟩; have n0_ := Aside0.mk (below_step (by repeat (first | (with_reducible first | exact HB.out | apply below_alloc | apply pw_below_drewN | apply below_drew1) | exact HB.out)) hb); clear HB; have HB := n0_; clear n0_; (try clear hb); (try clear hb2); (try clear hk); (try clear hi)))
  go_ret
  exact ⟨by first | rfl | (simp [errW_none, errW_some] <;> rfl) | (simp [*, errW_none, errW_some] <;> rfl), by repeat (first | (with_reducible first | exact HB.out | apply below_alloc | apply pw_below_drewN | apply below_drew1) | exact HB.out)⟩
structure Dig (U Y Y1 Y0 d q r : Int) : Prop where
  eq : q * Y1 + r = U
  le : (U * 4294967296 + d) / Y ≤ q
  q1 : q ≤ 4294967297
  r0 : 0 ≤ r
  r1 : r < 4294967296
structure Nrm (Y Y1 Y0 : Int) : Prop where
  y : Y = Y1 * 4294967296 + Y0
  a0 : 2147483648 ≤ Y1
  a1 : Y1 < 4294967296
  b0 : 0 ≤ Y0
  b1 : Y0 < 4294967296
theorem Nrm.pos {Y Y1 Y0 : Int} (n : Nrm Y Y1 Y0) : 0 < Y := by have := n.y; have := n.a0; have := n.b0; omega
theorem Dig.q0 {U Y Y1 Y0 d q r : Int} (n : Nrm Y Y1 Y0) (h : Dig U Y Y1 Y0 d q r) (hU : 0 ≤ U) (hd : 0 ≤ d) : 0 ≤ q := Int.le_trans (Int.ediv_nonneg (by omega) (by have := n.pos; omega)) h.le
theorem dig_lt {U Y d : Int} (hY : 0 < Y) (hU : U < Y) (hd : d < 4294967296) : (U * 4294967296 + d) / Y < 4294967296 := by
  rw [Int.ediv_lt_iff_lt_mul hY]
  omega
theorem dig_start {U Y Y1 Y0 d : Int} (n : Nrm Y Y1 Y0) (h0 : 0 ≤ U) (h1 : U < Y) (hd0 : 0 ≤ d) (hd : d < 4294967296) : Dig U Y Y1 Y0 d (U / Y1) (U - U / Y1 * Y1) := by
  have hy := n.y; have ha0 := n.a0; have ha1 := n.a1; have hb0 := n.b0; have hb1 := n.b1
  have hm := Int.emod_add_mul_ediv U Y1
  have hr0 := Int.emod_nonneg U (show Y1 ≠ 0 by omega)
  have hr1 := Int.emod_lt_of_pos U (show 0 < Y1 by omega)
  have hc : Y1 * (U / Y1) = U / Y1 * Y1 := Int.mul_comm _ _
  refine ⟨by omega, ?_, ?_, by omega, by omega⟩
  · 
    rw [← Int.lt_add_one_iff, Int.ediv_lt_iff_lt_mul n.pos]
    have e : (U / Y1 + 1) * Y = (U / Y1 * Y1 + Y1) * 4294967296 + (U / Y1 + 1) * Y0 := by
      rw [hy, Int.mul_add, Int.add_mul, Int.one_mul, ← Int.mul_assoc, Int.add_mul (U / Y1 * Y1) Y1]
    have hq : 0 ≤ (U / Y1 + 1) * Y0 := Int.mul_nonneg (by have := Int.ediv_nonneg h0 (show 0 ≤ Y1 by omega); omega) hb0
    rw [e]
    omega
  · have : U / Y1 < 4294967298 := by
      rw [Int.ediv_lt_iff_lt_mul (by omega)]
      omega
    omega
theorem dig_stop {U Y Y1 Y0 d q r : Int} (n : Nrm Y Y1 Y0) (h : Dig U Y Y1 Y0 d q r) (hq : q < 4294967296) (hc : q * Y0 ≤ 4294967296 * r + d) : q = (U * 4294967296 + d) / Y := by
  have hl := h.le; have heq := h.eq
  have : q ≤ (U * 4294967296 + d) / Y := by
    rw [Int.le_ediv_iff_mul_le n.pos]
    have e : q * Y = q * Y1 * 4294967296 + q * Y0 := by rw [n.y, Int.mul_add, ← Int.mul_assoc]
    rw [e]
    omega
  omega
theorem dig_more {U Y Y1 Y0 d q r : Int} (n : Nrm Y Y1 Y0) (h : Dig U Y Y1 Y0 d q r) (hU : U < Y) (hd : d < 4294967296) (hc : q ≥ 4294967296 ∨ q * Y0 > 4294967296 * r + d) : (U * 4294967296 + d) / Y ≤ q - 1 := by
  have heq := h.eq
  have : (U * 4294967296 + d) / Y < q := by
    rcases hc with hc | hc
    · have := dig_lt n.pos hU hd
      omega
    · rw [Int.ediv_lt_iff_lt_mul n.pos]
      have e : q * Y = q * Y1 * 4294967296 + q * Y0 := by rw [n.y, Int.mul_add, ← Int.mul_assoc]
      rw [e]
      omega
  omega
theorem dig_next {U Y Y1 Y0 d q r : Int} (n : Nrm Y Y1 Y0) (h : Dig U Y Y1 Y0 d q r) (hm : (U * 4294967296 + d) / Y ≤ q - 1) (hr : r + Y1 < 4294967296) : Dig U Y Y1 Y0 d (q - 1) (r + Y1) := by
  have heq := h.eq; have := h.q1; have := h.r0; have := n.a0
  refine ⟨?_, hm, by omega, by omega, by omega⟩
  rw [Int.sub_mul, Int.one_mul]
  omega
theorem dig_break {U Y Y1 Y0 d q r : Int} (n : Nrm Y Y1 Y0) (h : Dig U Y Y1 Y0 d q r) (hd0 : 0 ≤ d) (hm : (U * 4294967296 + d) / Y ≤ q - 1) (hr : 4294967296 ≤ r + Y1) (hU : 0 ≤ U) : q - 1 = (U * 4294967296 + d) / Y := by
  have heq := h.eq; have := h.q1; have hb0 := n.b0; have hb1 := n.b1
  have hq1 : 0 ≤ q - 1 := Int.le_trans (Int.ediv_nonneg (by omega) (by have := n.pos; omega)) hm
  have : q - 1 ≤ (U * 4294967296 + d) / Y := by
    rw [Int.le_ediv_iff_mul_le n.pos]
    have e : (q - 1) * Y = (q * Y1 - Y1) * 4294967296 + (q - 1) * Y0 := by rw [n.y, Int.mul_add, ← Int.mul_assoc, Int.sub_mul q 1 Y1, Int.one_mul]
    have hp : (q - 1) * Y0 ≤ 4294967296 * 4294967295 := Int.mul_le_mul (by omega) (by omega) hb0 (by omega)
    rw [e]
    omega
  omega
theorem dig_rest {U Y d q : Int} (hY : 0 < Y) (h : q = (U * 4294967296 + d) / Y) : U * 4294967296 + d - q * Y = (U * 4294967296 + d) % Y := by
  have := Int.emod_add_mul_ediv (U * 4294967296 + d) Y
  rw [h, Int.mul_comm ((U * 4294967296 + d) / Y) Y]
  omega
theorem u64_small {x : Int} (h0 : 0 ≤ x) (h1 : x < 18446744073709551616) : IntKind.u64.wrap x = x := by
  show x % 18446744073709551616 = x
  omega
theorem u64_def (x : Int) : IntKind.u64.wrap x = x % 18446744073709551616 := rfl
theorem u64_range (n : Int) (h0 : 0 ≤ n) (h1 : n < 2 ^ 64) : IntKind.u64.wrap n = n := u64_small h0 h1
theorem u64_and32 (x : Int) (h0 : 0 ≤ x) (h1 : x < 18446744073709551616) : Go.bits .and .u64 x 4294967295 = x % 4294967296 := bits_mask .u64 64 (by decide) u64_range 32 (by decide) x h0 h1
theorem bitLenAux_spec : ∀ (f x : Nat), x < 2 ^ f → x < 2 ^ Lib.bitLenAux f x ∧ (x ≠ 0 → 2 ^ Lib.bitLenAux f x ≤ 2 * x)
  | 0, x, h => by
    have : x = 0 := by simpa using h
    subst this
    exact ⟨by simp [Lib.bitLenAux], fun h => absurd rfl h⟩
  | f + 1, x, h => by
    unfold Lib.bitLenAux
    by_cases h0 : x = 0
    · rw [if_pos h0]; subst h0; exact ⟨by simp, fun h => absurd rfl h⟩
    · rw [if_neg h0]
      have ih := bitLenAux_spec f (x / 2) (by rw [Nat.pow_succ] at h; omega)
      rw [Nat.add_comm, Nat.pow_succ]
      refine ⟨by omega, fun _ => ?_⟩
      by_cases h1 : x / 2 = 0
      · have : Lib.bitLenAux f (x / 2) = 0 := by rw [h1]; cases f <;> simp [Lib.bitLenAux]
        rw [this]; omega
      · have := ih.2 h1
        omega
theorem shift_spec {y : Int} (h0 : 0 < y) (h1 : y < 18446744073709551616) : ∃ s : Nat, (64 - (Lib.bitLen y.toNat : Int)) = s ∧ s ≤ 63 ∧ 9223372036854775808 ≤ y * 2 ^ s ∧ y * 2 ^ s < 18446744073709551616 := by
  obtain ⟨n, rfl⟩ := Int.eq_ofNat_of_zero_le (Int.le_of_lt h0)
  have hn : n < 2 ^ 64 := by omega
  obtain ⟨a, b⟩ := bitLenAux_spec 64 n hn
  have b := b (by omega)
  have hb : Lib.bitLen (n : Int).toNat = Lib.bitLenAux 64 n := rfl
  have hle := Lib.bitLen_le n 64 (by decide) hn
  have hle' : Lib.bitLenAux 64 n ≤ 64 := hle
  generalize Lib.bitLenAux 64 n = m at *
  have hm : 1 ≤ m := by
    rcases Nat.eq_zero_or_pos m with e | e
    · subst e; simp at a; omega
    · exact e
  have hcast : (n : Int) * 2 ^ (64 - m) = ((n * 2 ^ (64 - m) : Nat) : Int) := by rw [Int.natCast_mul, Int.natCast_pow]; rfl
  refine ⟨64 - m, by rw [hb]; omega, by omega, ?_, ?_⟩
  · have e : 2 ^ m * 2 ^ (64 - m) = 2 ^ 64 := by rw [← Nat.pow_add]; congr 1; omega
    have : 2 ^ 64 ≤ 2 * n * 2 ^ (64 - m) := by rw [← e]; exact Nat.mul_le_mul_right _ b
    have h2 : (9223372036854775808 : Nat) ≤ n * 2 ^ (64 - m) := by rw [Nat.mul_assoc] at this; omega
    rw [hcast]; omega
  · have e : 2 ^ m * 2 ^ (64 - m) = 2 ^ 64 := by rw [← Nat.pow_add]; congr 1; omega
    have : n * 2 ^ (64 - m) < 2 ^ m * 2 ^ (64 - m) := Nat.mul_lt_mul_of_pos_right a (Nat.two_pow_pos _)
    rw [e] at this
    have h2 : n * 2 ^ (64 - m) < (18446744073709551616 : Nat) := this
    rw [hcast]; omega
structure Prep (a0 a1 a2 : Int) (s : Nat) (Y U L : Int) : Prop where
  y : Y = a2 * 2 ^ s
  big : 9223372036854775808 ≤ Y
  lt : Y < 18446744073709551616
  u0 : 0 ≤ U
  u1 : U < Y
  l0 : 0 ≤ L
  l1 : L < 18446744073709551616
  n : (a0 * 18446744073709551616 + a1) * 2 ^ s = U * 18446744073709551616 + L
theorem prep {a0 a1 a2 : Int} {s : Nat} (h0 : 0 ≤ a0) (h1 : a0 < a2) (h2 : 0 ≤ a1) (h3 : a1 < 18446744073709551616) (hs : s ≤ 63) (hb : 9223372036854775808 ≤ a2 * 2 ^ s) (hl : a2 * 2 ^ s < 18446744073709551616) :
    Prep a0 a1 a2 s (IntKind.u64.wrap (a2 * 2 ^ s)) (Go.bits .or .u64 (IntKind.u64.wrap (a0 * 2 ^ s)) (a1 / 2 ^ (64 - s))) (IntKind.u64.wrap (a1 * 2 ^ s)) := by
  have hS : (0 : Int) < 2 ^ s := Int.pow_pos (by decide)
  have hT : (0 : Int) < 2 ^ (64 - s) := Int.pow_pos (by decide)
  have hST : (2 : Int) ^ (64 - s) * 2 ^ s = 18446744073709551616 := by
    rw [← Int.pow_add, show 64 - s + s = 64 by omega]; rfl
  have hT1 : (1 : Int) ≤ 2 ^ (64 - s) := by omega
  have hSle : (2 : Int) ^ s ≤ 18446744073709551616 := by
    rw [← hST]
    have := Int.mul_le_mul_of_nonneg_right hT1 (Int.le_of_lt hS)
    omega
  have ha : a0 * 2 ^ s + 2 ^ s ≤ a2 * 2 ^ s := by
    have : (a0 + 1) * 2 ^ s ≤ a2 * 2 ^ s := Int.mul_le_mul_of_nonneg_right (by omega) (Int.le_of_lt hS)
    rw [Int.add_mul, Int.one_mul] at this
    exact this
  have ha0 : 0 ≤ a0 * 2 ^ s := Int.mul_nonneg h0 (Int.le_of_lt hS)
  have hq0 : 0 ≤ a1 / 2 ^ (64 - s) := Int.ediv_nonneg h2 (Int.le_of_lt hT)
  have hq1 : a1 / 2 ^ (64 - s) < 2 ^ s := by
    rw [Int.ediv_lt_iff_lt_mul hT, Int.mul_comm, hST]
    exact h3
  have hr0 := Int.emod_nonneg a1 (show (2 : Int) ^ (64 - s) ≠ 0 by omega)
  have hr1 := Int.emod_lt_of_pos a1 hT
  have hqr := Int.emod_add_mul_ediv a1 (2 ^ (64 - s))
  have e1 : a1 * 2 ^ s = a1 % 2 ^ (64 - s) * 2 ^ s + a1 / 2 ^ (64 - s) * 18446744073709551616 := by
    rw [← hST, ← Int.mul_assoc, ← Int.add_mul, Int.mul_comm (a1 / 2 ^ (64 - s)), hqr]
  have hrS0 : 0 ≤ a1 % 2 ^ (64 - s) * 2 ^ s := Int.mul_nonneg hr0 (Int.le_of_lt hS)
  have hrS1 : a1 % 2 ^ (64 - s) * 2 ^ s < 18446744073709551616 := by
    rw [← hST]
    exact Int.mul_lt_mul_of_pos_right hr1 hS
  have eL : IntKind.u64.wrap (a1 * 2 ^ s) = a1 % 2 ^ (64 - s) * 2 ^ s := by
    rw [u64_def, e1, Int.add_mul_emod_self_right]
    omega
  have eU : Go.bits .or .u64 (IntKind.u64.wrap (a0 * 2 ^ s)) (a1 / 2 ^ (64 - s)) = a0 * 2 ^ s + a1 / 2 ^ (64 - s) := by
    rw [u64_small ha0 (by omega)]
    exact bits_join .u64 64 (by decide) u64_range s _ _ ha0 (Int.mul_emod_left _ _) (by omega) hq0 hq1 (by omega)
  rw [eL, eU, u64_small (x := a2 * 2 ^ s) (by omega) hl]
  refine ⟨rfl, hb, hl, by omega, by omega, hrS0, hrS1, ?_⟩
  rw [Int.add_mul, e1, Int.mul_assoc, Int.mul_comm 18446744073709551616 (2 ^ s), ← Int.mul_assoc, Int.add_mul]
  omega
theorem Prep.nrm {a0 a1 a2 Y U L : Int} {s : Nat} (p : Prep a0 a1 a2 s Y U L) : Nrm Y (Y / 4294967296) (Go.bits .and .u64 Y 4294967295) := by
  have := p.big; have := p.lt
  rw [u64_and32 Y (by omega) (by omega)]
  exact ⟨by omega, by omega, by omega, by omega, by omega⟩
theorem div64_end {a0 a1 a2 Y U L d1 d0 q1 q0 R : Int} {s : Nat} (p : Prep a0 a1 a2 s Y U L) (h2 : 0 < a2) (hL : L = d1 * 4294967296 + d0) (hd0 : 0 ≤ d0) (hd0' : d0 < 4294967296) (hd1 : 0 ≤ d1) (hd1' : d1 < 4294967296) (e1 : q1 = (U * 4294967296 + d1) / Y) (eR : R = (U * 4294967296 + d1) % Y) (e0 : q0 = (R * 4294967296 + d0) / Y) :
    q1 * 4294967296 + q0 = (a0 * 18446744073709551616 + a1) / a2 ∧ (R * 4294967296 + d0 - q0 * Y) / 2 ^ s = (a0 * 18446744073709551616 + a1) % a2 := by
  have hY : 0 < Y := by have := p.big; omega
  have hS : (0 : Int) < 2 ^ s := Int.pow_pos (by decide)
  have a := Int.emod_add_mul_ediv (U * 4294967296 + d1) Y
  have b := Int.emod_add_mul_ediv (R * 4294967296 + d0) Y
  have c0 := Int.emod_nonneg (R * 4294967296 + d0) (show Y ≠ 0 by omega)
  have c1 := Int.emod_lt_of_pos (R * 4294967296 + d0) hY
  rw [← e1, ← eR] at a
  rw [← e0] at b
  have hN : (a0 * 18446744073709551616 + a1) * 2 ^ s = (q1 * 4294967296 + q0) * Y + (R * 4294967296 + d0) % Y := by
    have eYq : Y * q1 = q1 * Y := Int.mul_comm _ _
    have eYq0 : Y * q0 = q0 * Y := Int.mul_comm _ _
    have e2 : (q1 * 4294967296 + q0) * Y = q1 * Y * 4294967296 + q0 * Y := by rw [Int.add_mul, Int.mul_assoc, Int.mul_comm 4294967296 Y, ← Int.mul_assoc]
    rw [p.n, hL, e2]
    omega
  have hrest : R * 4294967296 + d0 - q0 * Y = (R * 4294967296 + d0) % Y := by
    have eYq0 : Y * q0 = q0 * Y := Int.mul_comm _ _
    omega
  rw [hrest]
  generalize (R * 4294967296 + d0) % Y = X at *
  generalize hq : q1 * 4294967296 + q0 = q at *
  rw [p.y] at hN c1
  have hX : X = ((a0 * 18446744073709551616 + a1) - q * a2) * 2 ^ s := by
    rw [Int.sub_mul, hN, Int.mul_assoc]
    omega
  have hz : (a0 * 18446744073709551616 + a1) - q * a2 < a2 := by
    rw [hX] at c1
    exact Int.lt_of_mul_lt_mul_right c1 (Int.le_of_lt hS)
  have hz0 : 0 ≤ (a0 * 18446744073709551616 + a1) - q * a2 := by
    rw [hX] at c0
    exact Int.nonneg_of_mul_nonneg_left c0 hS
  have eq : (a0 * 18446744073709551616 + a1) / a2 = q := by
    rw [show a0 * 18446744073709551616 + a1 = ((a0 * 18446744073709551616 + a1) - q * a2) + q * a2 by omega, Int.add_mul_ediv_right _ _ (by omega), Int.ediv_eq_zero_of_lt hz0 hz]
    omega
  refine ⟨eq.symm, ?_⟩
  rw [hX, Int.mul_ediv_cancel _ (by omega)]
  have := Int.emod_add_mul_ediv (a0 * 18446744073709551616 + a1) a2
  rw [eq, Int.mul_comm a2 q] at this
  omega
def Div64N (a0 a1 a2 : Int) : Int := (a0 * 18446744073709551616 + a1) / a2
def Div64R (a0 a1 a2 : Int) : Int := (a0 * 18446744073709551616 + a1) % a2
def DigW (U Y Y1 Y0 d q r : Int) : Prop := Nrm Y Y1 Y0 ∧ Dig U Y Y1 Y0 d q r ∧ 0 ≤ U ∧ U < Y ∧ Y < 18446744073709551616 ∧ 0 ≤ d ∧ d < 4294967296
theorem DigW.test {U Y Y1 Y0 d q r : Int} (h : DigW U Y Y1 Y0 d q r) (hq : q < 4294967296) : IntKind.u64.wrap (q * Y0) = q * Y0 ∧ IntKind.u64.wrap (IntKind.u64.wrap (4294967296 * r) + d) = 4294967296 * r + d := by
  obtain ⟨n, g, hU, hU1, hY, hd0, hd⟩ := h
  have hq0 := g.q0 n hU hd0
  have hb0 := n.b0; have hb1 := n.b1; have hr0 := g.r0; have hr1 := g.r1
  have h1 : 0 ≤ q * Y0 := Int.mul_nonneg hq0 hb0
  have h2 : q * Y0 ≤ 4294967295 * 4294967295 := Int.mul_le_mul (by omega) (by omega) hb0 (by omega)
  rw [u64_small h1 (by omega), u64_small (x := 4294967296 * r) (by omega) (by omega), u64_small (by omega) (by omega)]
  exact ⟨rfl, rfl⟩
set_option maxHeartbeats 8000000 in
set_option maxRecDepth 100000 in
theorem div64_main (a0 a1 a2 : Int) (w : World) (s : Nat) (h0 : 0 < a0) (h1 : a0 < a2) (h2 : 0 ≤ a1) (h3 : a1 < 18446744073709551616) (hs : s ≤ 63) (hb : 9223372036854775808 ≤ a2 * 2 ^ s) (hl : a2 * 2 ^ s < 18446744073709551616) (HL : Aside0 (∀ W, Calls Try.prog 78 #[.int .u64 a2] W fun e w' => e = .returned (.int .i64 s) ∧ w' = W)) :
    Calls Try.prog 68 #[.int .u64 a0, .int .u64 a1, .int .u64 a2] w fun e w' => e = .returned (.tuple #[.int .u64 (Div64N a0 a1 a2), .int .u64 (Div64R a0 a1 a2)]) ∧ Below w.heap.size w w' := by
  have P := Aside0.mk (prep (by omega) h1 h2 h3 hs hb hl)
  have NR := Aside0.mk P.out.nrm
  have EL := Aside0.mk (show IntKind.u64.wrap (a1 * 2 ^ s) = IntKind.u64.wrap (a1 * 2 ^ s) / 4294967296 * 4294967296 + Go.bits .and .u64 (IntKind.u64.wrap (a1 * 2 ^ s)) 4294967295 ∧ 0 ≤ IntKind.u64.wrap (a1 * 2 ^ s) / 4294967296 ∧ IntKind.u64.wrap (a1 * 2 ^ s) / 4294967296 < 4294967296 ∧ 0 ≤ Go.bits .and .u64 (IntKind.u64.wrap (a1 * 2 ^ s)) 4294967295 ∧ Go.bits .and .u64 (IntKind.u64.wrap (a1 * 2 ^ s)) 4294967295 < 4294967296 by
    have := P.out.l0; have := P.out.l1
    rw [u64_and32 _ (by omega) (by omega)]
    omega)
  have d0 : (a2 == 0) = false := by simp; omega
  have d1 : decide (a2 ≤ a0) = false := by simp; omega
  have d2 : (a0 == 0) = false := by simp; omega
  have HA := Aside0.mk (show 0 < a2 by omega)
  clear hb hl h0 h1 h2 h3
  go_enter Try.func68, Try.ntmps68
  go_upto_region 15 with (go_at_call 78; refine (HL.out _).mono ?_; rintro e w' ⟨rfl, rfl⟩)
  generalize hY0 : Go.bits .and .u64 (IntKind.u64.wrap (a2 * 2 ^ s)) 4294967295 = Y0 at P NR EL ⊢
  generalize hD0 : Go.bits .and .u64 (IntKind.u64.wrap (a1 * 2 ^ s)) 4294967295 = D0 at P NR EL ⊢
  generalize hU : Go.bits .or .u64 (IntKind.u64.wrap (a0 * 2 ^ s)) (a1 / 2 ^ (64 - s)) = U at P NR EL ⊢
  generalize hY1 : IntKind.u64.wrap (a2 * 2 ^ s) / 4294967296 = Y1 at P NR EL ⊢
  generalize hD1 : IntKind.u64.wrap (a1 * 2 ^ s) / 4294967296 = D1 at P NR EL ⊢
  generalize hY : IntKind.u64.wrap (a2 * 2 ^ s) = Y at P NR EL ⊢
  generalize hL : IntKind.u64.wrap (a1 * 2 ^ s) = L at P NR EL ⊢
  clear hY0 hD0 hU hY1 hD1 hY hL
  have W0 := Aside0.mk (show DigW U Y Y1 Y0 D1 (U / Y1) (U - U / Y1 * Y1) from ⟨NR.out, dig_start NR.out P.out.u0 P.out.u1 EL.out.2.1 EL.out.2.2.1, P.out.u0, P.out.u1, P.out.lt, EL.out.2.1, EL.out.2.2.1⟩)
  have hz : ¬ Y1 = 0 := by have := NR.out.a0; omega
  have hu0 : 0 ≤ U := P.out.u0
  have hy1 : 1 ≤ Y1 := by have := NR.out.a0; omega
  have E1 : IntKind.u64.wrap (U.tdiv Y1) = U / Y1 := by
    rw [Int.tdiv_eq_ediv_of_nonneg hu0]
    have a := Int.ediv_nonneg hu0 (show 0 ≤ Y1 by omega); have b := Int.ediv_le_self Y1 hu0; have c := P.out.u1; have d := P.out.lt
    exact u64_small a (by omega)
  have E2 : IntKind.u64.wrap (U - IntKind.u64.wrap (U / Y1 * Y1)) = U - U / Y1 * Y1 := by
    have a := W0.out.2.1.r0; have b := W0.out.2.1.r1; have c := P.out.u1; have d := P.out.lt; have e := Int.mul_nonneg (Int.ediv_nonneg hu0 (show 0 ≤ Y1 by omega)) (show 0 ≤ Y1 by omega)
    rw [u64_small (x := U / Y1 * Y1) e (by omega), u64_small a (by omega)]
  go_upto_block 0 with (fail)
  clear E1 E2
  go_cut [15] (fun v15 wc => v15 = .int .u64 ((U * 4294967296 + D1) / Y) ∧ Aside0 (wc = w'))
  case first =>
    go_wp2
    go_loopg [15, 16] (U / Y1).toNat (fun kq v15 v16 wr => ∃ q r : Int, v15 = .int .u64 q ∧ v16 = .int .u64 r ∧ Aside0 (DigW U Y Y1 Y0 D1 q r) ∧ Aside0 (q ≤ kq) ∧ Aside0 (wr = w'))
    case atStart => exact ⟨_, _, rfl, rfl, W0, ⟨by have := Int.ediv_nonneg hu0 (show 0 ≤ Y1 by omega); omega⟩, ⟨rfl⟩⟩
    case round =>
      obtain ⟨q, r, rfl, rfl, HD, HK, HW⟩ := hrel
      clear W0
      obtain ⟨n, g, u0, u1, yl, dd0, dd1⟩ := HD.out
      have hq0 := g.q0 n u0 dd0
      by_cases c1 : 4294967296 ≤ q
      · have c1b : decide (4294967296 ≤ q) = true := decide_eq_true c1
        have hm := dig_more n g u1 dd1 (.inl c1)
        have hmm := Aside0.mk hm
        have hgt : 1 ≤ q := by have := Int.ediv_nonneg (show 0 ≤ U * 4294967296 + D1 by omega) (show 0 ≤ Y by omega); omega
        have hle := g.q1
        have hr0 := g.r0
        have hr1 := g.r1
        have hy2 := n.a1
        by_cases c3 : 4294967296 ≤ r + Y1
        · have c3b : decide (4294967296 ≤ r + Y1) = true := decide_eq_true c3
          have hbr := Aside0.mk (dig_break n g dd0 hm c3 u0)
          clear hm n g u0 u1 yl dd0 dd1
          go_wp2
          go_meet
          case rel => exact ⟨by rw [hbr.out], HW⟩
        · have c3b : decide (4294967296 ≤ r + Y1) = false := decide_eq_false c3
          have hnx := Aside0.mk (dig_next n g hm (by omega))
          clear hm n g u0 u1 yl dd0 dd1
          go_wp2
          go_roundg (gk - 1)
          case measure => have := HK.out; omega
          case rel => exact ⟨q - 1, r + Y1, rfl, rfl, ⟨⟨HD.out.1, hnx.out, HD.out.2.2⟩⟩, ⟨by have := HK.out; omega⟩, HW⟩
      · have c1b : decide (4294967296 ≤ q) = false := decide_eq_false c1
        obtain ⟨t1, t2⟩ := HD.out.test (by omega)
        by_cases c2 : 4294967296 * r + D1 < q * Y0
        · have c2b : decide (IntKind.u64.wrap (IntKind.u64.wrap (4294967296 * r) + D1) < IntKind.u64.wrap (q * Y0)) = true := by rw [t1, t2]; exact decide_eq_true c2
          have t3 : IntKind.u64.wrap (4294967296 * r + D1) = 4294967296 * r + D1 := by have := g.r0; have := g.r1; exact u64_small (by omega) (by omega)
          have c2c : decide (IntKind.u64.wrap (4294967296 * r + D1) < IntKind.u64.wrap (q * Y0)) = true := by rw [t1, t3]; exact decide_eq_true c2
          have hm := dig_more n g u1 dd1 (.inr c2)
          clear t1 t2 t3 c2
          have hmm := Aside0.mk hm
          have hgt : 1 ≤ q := by have := Int.ediv_nonneg (show 0 ≤ U * 4294967296 + D1 by omega) (show 0 ≤ Y by omega); omega
          have hle := g.q1
          have hr0 := g.r0
          have hr1 := g.r1
          have hy2 := n.a1
          by_cases c3 : 4294967296 ≤ r + Y1
          · have c3b : decide (4294967296 ≤ r + Y1) = true := decide_eq_true c3
            have hbr := Aside0.mk (dig_break n g dd0 hm c3 u0)
            clear hm n g u0 u1 yl dd0 dd1
            go_wp2
            go_meet
            case rel => exact ⟨by rw [hbr.out], HW⟩
          · have c3b : decide (4294967296 ≤ r + Y1) = false := decide_eq_false c3
            have hnx := Aside0.mk (dig_next n g hm (by omega))
            clear hm n g u0 u1 yl dd0 dd1
            go_wp2
            go_roundg (gk - 1)
            case measure => have := HK.out; omega
            case rel => exact ⟨q - 1, r + Y1, rfl, rfl, ⟨⟨HD.out.1, hnx.out, HD.out.2.2⟩⟩, ⟨by have := HK.out; omega⟩, HW⟩
        · have c2b : decide (IntKind.u64.wrap (IntKind.u64.wrap (4294967296 * r) + D1) < IntKind.u64.wrap (q * Y0)) = false := by rw [t1, t2]; exact decide_eq_false c2
          have hst := Aside0.mk (dig_stop n g (by omega) (by omega))
          clear t1 t2 c1 c2 n g u0 u1 yl dd0 dd1
          go_wp2
          go_meet
          case rel => exact ⟨by rw [← hst.out], HW⟩
  case rest =>
    obtain ⟨rfl, HW⟩ := hcut
    obtain rfl : w' = wc := HW.out.symm
    clear HW
    obtain ⟨Q1, hQ1⟩ : ∃ Q1, (U * 4294967296 + D1) / Y = Q1 := ⟨_, rfl⟩
    obtain ⟨R, hR⟩ : ∃ R, (U * 4294967296 + D1) % Y = R := ⟨_, rfl⟩
    rw [hQ1]
    have HQ1 := Aside0.mk hQ1
    have HR := Aside0.mk hR
    have hYp : 0 < Y := by have := P.out.big; omega
    have hR0 : 0 ≤ R := by rw [← hR]; exact Int.emod_nonneg _ (by omega)
    have HR1 : Aside0 (R < Y) := ⟨by rw [← hR]; exact Int.emod_lt_of_pos _ hYp⟩
    have W1 := Aside0.mk (show DigW R Y Y1 Y0 D0 (R / Y1) (R - R / Y1 * Y1) from ⟨NR.out, dig_start NR.out hR0 HR1.out EL.out.2.2.2.1 EL.out.2.2.2.2, hR0, HR1.out, P.out.lt, EL.out.2.2.2.1, EL.out.2.2.2.2⟩)
    have ER : IntKind.u64.wrap (IntKind.u64.wrap (IntKind.u64.wrap (U * 4294967296) + D1) - IntKind.u64.wrap (Q1 * Y)) = R := by
      have h := dig_rest (d := D1) hYp hQ1.symm
      rw [hR] at h
      have := P.out.lt; have := HR1.out
      simp only [u64_def]
      omega
    have E1 : IntKind.u64.wrap (R.tdiv Y1) = R / Y1 := by
      rw [Int.tdiv_eq_ediv_of_nonneg hR0]
      have a := Int.ediv_nonneg hR0 (show 0 ≤ Y1 by omega); have b := Int.ediv_le_self Y1 hR0; have c := HR1.out; have d := P.out.lt
      exact u64_small a (by omega)
    have E2 : IntKind.u64.wrap (R - IntKind.u64.wrap (R / Y1 * Y1)) = R - R / Y1 * Y1 := by
      have a := W1.out.2.1.r0; have b := W1.out.2.1.r1; have c := HR1.out; have d := P.out.lt; have e := Int.mul_nonneg (Int.ediv_nonneg hR0 (show 0 ≤ Y1 by omega)) (show 0 ≤ Y1 by omega)
      rw [u64_small (x := R / Y1 * Y1) e (by omega), u64_small a (by omega)]
    clear hQ1 hR
    go_upto_block 2 with (fail)
    clear ER E1 E2
    go_cut [18] (fun v18 wc => v18 = .int .u64 ((R * 4294967296 + D0) / Y) ∧ Aside0 (wc = w'))
    case first =>
      go_wp2
      go_loopg [18, 16] (R / Y1).toNat (fun kq v18 v16 wr => ∃ q r : Int, v18 = .int .u64 q ∧ v16 = .int .u64 r ∧ Aside0 (DigW R Y Y1 Y0 D0 q r) ∧ Aside0 (q ≤ kq) ∧ Aside0 (wr = w'))
      case atStart => exact ⟨_, _, rfl, rfl, W1, ⟨by have := Int.ediv_nonneg hR0 (show 0 ≤ Y1 by omega); omega⟩, ⟨rfl⟩⟩
      case round =>
        obtain ⟨q, r, rfl, rfl, HD, HK, HW⟩ := hrel
        clear W1
        obtain ⟨n, g, u0, u1, yl, dd0, dd1⟩ := HD.out
        have hq0 := g.q0 n u0 dd0
        by_cases c1 : 4294967296 ≤ q
        · have c1b : decide (4294967296 ≤ q) = true := decide_eq_true c1
          have hm := dig_more n g u1 dd1 (.inl c1)
          have hmm := Aside0.mk hm
          have hgt : 1 ≤ q := by have := Int.ediv_nonneg (show 0 ≤ R * 4294967296 + D0 by omega) (show 0 ≤ Y by omega); omega
          have hle := g.q1
          have hr0 := g.r0
          have hr1 := g.r1
          have hy2 := n.a1
          by_cases c3 : 4294967296 ≤ r + Y1
          · have c3b : decide (4294967296 ≤ r + Y1) = true := decide_eq_true c3
            have hbr := Aside0.mk (dig_break n g dd0 hm c3 u0)
            clear hm n g u0 u1 yl dd0 dd1
            go_wp2
            go_meet
            case rel => exact ⟨by rw [hbr.out], HW⟩
          · have c3b : decide (4294967296 ≤ r + Y1) = false := decide_eq_false c3
            have hnx := Aside0.mk (dig_next n g hm (by omega))
            clear hm n g u0 u1 yl dd0 dd1
            go_wp2
            go_roundg (gk - 1)
            case measure => have := HK.out; omega
            case rel => exact ⟨q - 1, r + Y1, rfl, rfl, ⟨⟨HD.out.1, hnx.out, HD.out.2.2⟩⟩, ⟨by have := HK.out; omega⟩, HW⟩
        · have c1b : decide (4294967296 ≤ q) = false := decide_eq_false c1
          obtain ⟨t1, t2⟩ := HD.out.test (by omega)
          by_cases c2 : 4294967296 * r + D0 < q * Y0
          · have c2b : decide (IntKind.u64.wrap (IntKind.u64.wrap (4294967296 * r) + D0) < IntKind.u64.wrap (q * Y0)) = true := by rw [t1, t2]; exact decide_eq_true c2
            have t3 : IntKind.u64.wrap (4294967296 * r + D0) = 4294967296 * r + D0 := by have := g.r0; have := g.r1; exact u64_small (by omega) (by omega)
            have c2c : decide (IntKind.u64.wrap (4294967296 * r + D0) < IntKind.u64.wrap (q * Y0)) = true := by rw [t1, t3]; exact decide_eq_true c2
            have hm := dig_more n g u1 dd1 (.inr c2)
            clear t1 t2 t3 c2
            have hmm := Aside0.mk hm
            have hgt : 1 ≤ q := by have := Int.ediv_nonneg (show 0 ≤ R * 4294967296 + D0 by omega) (show 0 ≤ Y by omega); omega
            have hle := g.q1
            have hr0 := g.r0
            have hr1 := g.r1
            have hy2 := n.a1
            by_cases c3 : 4294967296 ≤ r + Y1
            · have c3b : decide (4294967296 ≤ r + Y1) = true := decide_eq_true c3
              have hbr := Aside0.mk (dig_break n g dd0 hm c3 u0)
              clear hm n g u0 u1 yl dd0 dd1
              go_wp2
              go_meet
              case rel => exact ⟨by rw [hbr.out], HW⟩
            · have c3b : decide (4294967296 ≤ r + Y1) = false := decide_eq_false c3
              have hnx := Aside0.mk (dig_next n g hm (by omega))
              clear hm n g u0 u1 yl dd0 dd1
              go_wp2
              go_roundg (gk - 1)
              case measure => have := HK.out; omega
              case rel => exact ⟨q - 1, r + Y1, rfl, rfl, ⟨⟨HD.out.1, hnx.out, HD.out.2.2⟩⟩, ⟨by have := HK.out; omega⟩, HW⟩
          · have c2b : decide (IntKind.u64.wrap (IntKind.u64.wrap (4294967296 * r) + D0) < IntKind.u64.wrap (q * Y0)) = false := by rw [t1, t2]; exact decide_eq_false c2
            have hst := Aside0.mk (dig_stop n g (by omega) (by omega))
            clear t1 t2 c1 c2 n g u0 u1 yl dd0 dd1
            go_wp2
            go_meet
            case rel => exact ⟨by rw [← hst.out], HW⟩
    case rest =>
      obtain ⟨rfl, HW⟩ := hcut
      obtain rfl : w' = wc := HW.out.symm
      have F := Aside0.mk (div64_end P.out HA.out EL.out.1 EL.out.2.2.2.1 EL.out.2.2.2.2 EL.out.2.1 EL.out.2.2.1 HQ1.out.symm HR.out.symm rfl)
      obtain ⟨Q0, hQ0⟩ : ∃ Q0, (R * 4294967296 + D0) / Y = Q0 := ⟨_, rfl⟩
      rw [hQ0] at F
      rw [hQ0]
      have G1 : IntKind.u64.wrap (IntKind.u64.wrap (Q1 * 4294967296) + Q0) = Div64N a0 a1 a2 := by
        have := F.out.1
        have b1 := dig_lt (d := D1) hYp P.out.u1 EL.out.2.2.1
        have b0 := dig_lt (d := D0) hYp HR1.out EL.out.2.2.2.2
        have c1 := Int.ediv_nonneg (a := U * 4294967296 + D1) (b := Y) (by have := EL.out.2.1; omega) (by omega)
        have c0 := Int.ediv_nonneg (a := R * 4294967296 + D0) (b := Y) (by have := EL.out.2.2.2.1; omega) (by omega)
        rw [HQ1.out] at b1 c1
        rw [hQ0] at b0 c0
        unfold Div64N
        rw [u64_small (x := Q1 * 4294967296) (by omega) (by omega), u64_small (by omega) (by omega)]
        exact F.out.1
      have G2 : IntKind.u64.wrap (IntKind.u64.wrap (IntKind.u64.wrap (R * 4294967296) + D0) - IntKind.u64.wrap (Q0 * Y)) / 2 ^ s = Div64R a0 a1 a2 := by
        have h := dig_rest (d := D0) hYp hQ0.symm
        have l0 := Int.emod_nonneg (R * 4294967296 + D0) (show Y ≠ 0 by omega)
        have l1 := Int.emod_lt_of_pos (R * 4294967296 + D0) hYp
        have := P.out.lt
        have e : IntKind.u64.wrap (IntKind.u64.wrap (IntKind.u64.wrap (R * 4294967296) + D0) - IntKind.u64.wrap (Q0 * Y)) = R * 4294967296 + D0 - Q0 * Y := by
          simp only [u64_def]
          omega
        rw [e]
        exact F.out.2
      clear hQ0
      go_wp2
      go_ret2
      exact ⟨rfl, Below.refl _ _⟩
def U64 (x : Int) : Prop := 0 ≤ x ∧ x < 18446744073709551616
instance (x : Int) : Decidable (U64 x) := inferInstanceAs (Decidable (_ ∧ _))
def bits_Div64.f (a0 a1 a2 : Int) : Option (Int × Int) := if U64 a0 ∧ U64 a1 ∧ U64 a2 ∧ a0 < a2 then some (Div64N a0 a1 a2, Div64R a0 a1 a2) else none
set_option maxHeartbeats 8000000 in
set_option maxRecDepth 100000 in
theorem bits_Div64.calls (a0 a1 a2 : Int) (r1 r2 : Int) (w : World) (h : bits_Div64.f a0 a1 a2 = some (r1, r2)) :
    Calls Try.prog 68 #[.int .u64 a0, .int .u64 a1, .int .u64 a2] w fun e w' => e = .returned (.tuple #[.int .u64 r1, .int .u64 r2]) ∧ Below w.heap.size w w' := by
  unfold bits_Div64.f at h
  by_cases hc : U64 a0 ∧ U64 a1 ∧ U64 a2 ∧ a0 < a2
  · rw [if_pos hc] at h
    injection h with h
    injection h with ha hb
    subst ha hb
    obtain ⟨⟨h00, h01⟩, ⟨h10, h11⟩, ⟨h20, h21⟩, hlt⟩ := hc
    by_cases hz : a0 = 0
    · subst hz
      have e1 : Div64N 0 a1 a2 = a1 / a2 := by unfold Div64N; rw [Int.zero_mul, Int.zero_add]
      have e2 : Div64R 0 a1 a2 = a1 % a2 := by unfold Div64R; rw [Int.zero_mul, Int.zero_add]
      rw [e1, e2]
      have q0 := Int.ediv_nonneg h10 (show 0 ≤ a2 by omega)
      have q1 := Int.ediv_le_self a2 h10
      have m0 := Int.emod_nonneg a1 (show a2 ≠ 0 by omega)
      have m1 := Int.emod_lt_of_pos a1 hlt
      have t1 : IntKind.u64.wrap (a1.tdiv a2) = a1 / a2 := by rw [Int.tdiv_eq_ediv_of_nonneg h10]; exact u64_small q0 (by omega)
      have t2 : IntKind.u64.wrap (a1 / a2) = a1 / a2 := u64_small q0 (by omega)
      have t3 : IntKind.u64.wrap (a1.tmod a2) = a1 % a2 := by rw [Int.tmod_eq_emod_of_nonneg h10]; exact u64_small m0 (by omega)
      have t4 : IntKind.u64.wrap (a1 % a2) = a1 % a2 := u64_small m0 (by omega)
      have t5 : a1.tmod a2 = a1 % a2 := Int.tmod_eq_emod_of_nonneg h10
      have t6 : a1.tdiv a2 = a1 / a2 := Int.tdiv_eq_ediv_of_nonneg h10
      have hz2 : ¬ a2 = 0 := by omega
      have d0 : (a2 == 0) = false := by simp; omega
      have d1 : decide (a2 ≤ 0) = false := by simp; omega
      clear e1 e2 q0 q1 m0 m1 h01 h11 h21 h20
      go_enter Try.func68, Try.ntmps68
      go_wp2
      go_quiet (fail)
      go_wp2
      go_ret2
      exact ⟨rfl, pw_below_drewN (Below.refl _ _) _⟩
    · obtain ⟨s, hs, hs1, hs2, hs3⟩ := shift_spec (y := a2) (by omega) h21
      exact div64_main a0 a1 a2 w s (by omega) hlt h10 h11 hs1 hs2 hs3 ⟨fun W => by have := Try.bits_LeadingZeros64 a2 W h20 (by omega); rw [hs] at this; exact this⟩
  · rw [if_neg hc] at h; cases h
end Go.Proofs.Ytjjnbcaemognhaa.Clr
