/- Printed by this session's wip/drive.py over the translation; some functions by hand. -/
import Derived.Test.YthaaghkplbbgdaaFebx0
import Derived.Test.YthaaghkplbbgdaaFebx3
import Derived.Test.YthaaghkplbbgdaaFebx4
namespace Go.Proofs.Ythaaghkplbbgdaa.Feb
open Go.RowKit Go.Proofs.YthaaghkplbbgdaaW.PrintWords Go.Proofs.YthaaghkplbbgdaaW.PrintLast Go.Proofs.YthaaghkplbbgdaaW.PrintMore
attribute [local go_sem] max2_int min2_int max_two min_two max_three min_three max_four min_four   -- for this text's walks alone
set_option linter.unusedVariables false
set_option linter.unusedSimpArgs false

/-! ### fees_Tier: function 37 -/
mutual
def fees_Tier.j0 : Nat → List (S64) → Int → Bool → Int → Int → Int → Option (Int × Int × Int)
  | 0, _, _, _, _, _, _ => none
  | k + 1, x0, x1, x13, x131000, x131001, x131002 => if x13 = true then (some (x131000, x131001, x131002)) else (fees_Tier.l0 k x1 x0 (x0.length : Int) 0 x131000 x131001 x131002)
def fees_Tier.l0 : Nat → Int → List (S64) → Int → Int → Int → Int → Int → Option (Int × Int × Int)
  | 0, _, _, _, _, _, _, _ => none
  | k + 1, x1, x15, x16, x17, x131000, x131001, x131002 => if x17 < x16 then (if 0 ≤ x17 then (if x17 < (x15.length : Int) then (if ((rd_T64 x15 x17).f0) > x1 then (some (x131000, x131001, x131002)) else (fees_Tier.l0 k x1 x15 x16 (wrap64 (x17 + 1)) ((rd_T64 x15 x17).f0) ((rd_T64 x15 x17).f1) ((rd_T64 x15 x17).f2))) else (none)) else (none)) else (some (x131000, x131001, x131002))
end
def fees_Tier.f (k : Nat) (l0 : List (S64)) (a1 : Int) : Option (Int × Int × Int) := (fees_good.f k l0).bind fun t131 => (if t131 = true then (fees_Tier.j0 k l0 a1 (decide (a1 < 0)) 0 0 0) else (fees_Tier.j0 k l0 a1 true 0 0 0))
theorem fees_Tier.mono_l : ∀ k, (∀ y0 y1 y2 y3 y4 y5, LeO (fees_Tier.j0 k y0 y1 y2 y3 y4 y5) (fees_Tier.j0 (k + 1) y0 y1 y2 y3 y4 y5)) ∧ (∀ y0 y1 y2 y3 y4 y5 y6, LeO (fees_Tier.l0 k y0 y1 y2 y3 y4 y5 y6) (fees_Tier.l0 (k + 1) y0 y1 y2 y3 y4 y5 y6))
  | 0 => ⟨fun _ _ _ _ _ _ r h => by simp [fees_Tier.j0] at h, fun _ _ _ _ _ _ _ r h => by simp [fees_Tier.l0] at h⟩
  | k + 1 => by
    obtain ⟨ih0, ih1⟩ := fees_Tier.mono_l k
    refine ⟨?_, ?_⟩
    · intro y0 y1 y2 y3 y4 y5
      unfold fees_Tier.j0
      repeat' first
      | (with_reducible exact ih0 _ _ _ _ _ _)
      | (with_reducible exact ih1 _ _ _ _ _ _ _)
      | (with_reducible exact fees_good.mono _ _)
      | (with_reducible exact LeO.refl _)
      | (with_reducible exact LeO.none _)
      | (with_reducible refine LeO.ite ?_ ?_)
      | (with_reducible refine LeO.bind ?_ (fun _ => ?_))
      | exact ih0 _ _ _ _ _ _
      | exact ih1 _ _ _ _ _ _ _
      | exact fees_good.mono _ _
      | exact LeO.none _
      | refine LeO.ite ?_ ?_
      | refine LeO.bind ?_ (fun _ => ?_)
    · intro y0 y1 y2 y3 y4 y5 y6
      unfold fees_Tier.l0
      repeat' first
      | (with_reducible exact ih0 _ _ _ _ _ _)
      | (with_reducible exact ih1 _ _ _ _ _ _ _)
      | (with_reducible exact fees_good.mono _ _)
      | (with_reducible exact LeO.refl _)
      | (with_reducible exact LeO.none _)
      | (with_reducible refine LeO.ite ?_ ?_)
      | (with_reducible refine LeO.bind ?_ (fun _ => ?_))
      | exact ih0 _ _ _ _ _ _
      | exact ih1 _ _ _ _ _ _ _
      | exact fees_good.mono _ _
      | exact LeO.none _
      | refine LeO.ite ?_ ?_
      | refine LeO.bind ?_ (fun _ => ?_)
theorem fees_Tier.mono : ∀ a0 a1 k, LeO (fees_Tier.f k a0 a1) (fees_Tier.f (k + 1) a0 a1) := by
  intro a0 a1 k
  obtain ⟨ih0, ih1⟩ := fees_Tier.mono_l k
  unfold fees_Tier.f
  repeat' first
      | (with_reducible exact ih0 _ _ _ _ _ _)
      | (with_reducible exact ih1 _ _ _ _ _ _ _)
      | (with_reducible exact fees_good.mono _ _)
      | (with_reducible exact LeO.refl _)
      | (with_reducible exact LeO.none _)
      | (with_reducible refine LeO.ite ?_ ?_)
      | (with_reducible refine LeO.bind ?_ (fun _ => ?_))
      | exact ih0 _ _ _ _ _ _
      | exact ih1 _ _ _ _ _ _ _
      | exact fees_good.mono _ _
      | exact LeO.none _
      | refine LeO.ite ?_ ?_
      | refine LeO.bind ?_ (fun _ => ?_)
set_option maxHeartbeats 8000000 in
set_option maxRecDepth 100000 in
theorem fees_Tier.calls (k : Nat) (A0 : Option Addr) (c0 : Nat) (l0 : List (S64)) (a1 : Int) (r1 : Int) (r2 : Int) (r3 : Int) (w : World) (hr0 : Kd.C k64 w A0 l0.length l0) (hc0 : l0.length ≤ c0) (h : fees_Tier.f k l0 a1 = some (r1, r2, r3)) :
    Calls Try.prog 37 #[.slice A0 l0.length c0, .int .i64 a1] w fun e w' => e = .returned (.agg #[.int .i64 r1, .int .i64 r2, .int .i64 r3]) ∧ Below w.heap.size w w' := by
  have hu64 := Try.underlying64
  have HR0 := Aside0.mk hr0
  have HC0 := Aside0.mk hc0
  clear hr0 hc0
  have HB := Aside0.mk (Below.refl w.heap.size w)
  have H : ((fees_good.f k l0).bind fun t131 => (if t131 = true then (fees_Tier.j0 k l0 a1 (decide (a1 < 0)) 0 0 0) else (fees_Tier.j0 k l0 a1 true 0 0 0))) = some (r1, r2, r3) := h
  clear h
  have HC3 := Aside0.mk H
  clear H
  go_enter Try.func37, Try.ntmps37
  go_upto_region 1 with (first | ((with_reducible refine gate_dst (N := 4) rfl ?_); refine box_event ?hg (N := 4) ?hd (cs := #[.int .i64 0, .int .i64 0, .int .i64 0]) (t := 64) ?hr ?_; (case hd => rfl); (case hg => rfl); (case hr => first | (go_simp; done) | (go_simp; rfl)); intro gb130 hg w4 hbox hb; have n0_ := Aside0.mk (below_step (by repeat (first | (with_reducible first | exact HB.out | apply below_alloc | apply pw_below_drewN | apply below_drew1) | exact HB.out)) hb); have n1_ := Aside0.mk (hbox); have n2_ := Aside0.mk ((by rw [hg]; exact (below_size (by repeat (first | (with_reducible first | exact HB.out | apply below_alloc | apply pw_below_drewN | apply below_drew1) | exact HB.out))) : w.heap.size ≤ gb130)); have n3_ := Aside0.mk ((by rw [hg]; exact (below_size (by repeat (first | (with_reducible first | exact HB.out | apply below_alloc | apply pw_below_drewN | apply below_drew1) | exact HB.out))) : w.heap.size ≤ gb130)); clear HB; have HB := n0_; have BK130 := n1_; have GW130 := n2_; have GE130 := n3_; clear n0_ n1_ n2_ n3_; clear hb hbox hg))
  (try simp only [Act.put, List.setIfInBounds_toArray, List.set_cons_zero, List.set_cons_succ])
  go_cut [13] (fun v13 wc => ∃ (kq : Nat) (x13_2 : Bool), v13 = .bool x13_2 ∧ Aside0 (fees_Tier.j0 kq l0 a1 x13_2 0 0 0 = some (r1, r2, r3)) ∧ Aside0 (kq ≤ k) ∧ Aside0 (wc.heap[gb130]? = some (.cells #[.int .i64 0, .int .i64 0, .int .i64 0] 64 (0, 0))) ∧ Aside0 (Below w.heap.size w wc))
  case first =>
    have H := HC3.out
    clear HC3
    replace H := Option.bind_eq_some_iff.mp H
    obtain ⟨t131, A50, H⟩ := H
    replace H : (if t131 = true then (fees_Tier.j0 k l0 a1 (decide (a1 < 0)) 0 0 0) else (fees_Tier.j0 k l0 a1 true 0 0 0)) = some (r1, r2, r3) := H
    have A5 := Aside0.mk A50
    clear A50
    by_cases c6 : t131 = true
    · subst c6
      have H1 : (fees_Tier.j0 k l0 a1 (decide (a1 < 0)) 0 0 0) = some (r1, r2, r3) := by rw [if_pos rfl] at H; exact H
      clear H
      have H := H1
      clear H1
      have H' := Aside0.mk H
      clear H
      go_wp2_with (first | ((with_reducible refine gate_callee (f := 49) rfl ?_); refine goesL_ (some 8) rfl rfl Try.func49 (by kernel_rfl) rfl #[.slice A0 l0.length c0] rfl (by (try simp only [List.map_toArray, List.map_cons, List.map_nil]); first | done | rfl | (simp only [List.length_drop, List.length_take]; rfl)) ?_; (with_reducible refine (fees_good.calls k _ _ l0 true _ ?side1 ?side2 A5.out).mono ?_); (case side1 => repeat (first | exact (Kd.C_below HR0.out HB.out) | (with_reducible refine Kd.C_alloc ?_ _) | (with_reducible refine Kd.C_drewN ?_ _) | (with_reducible refine Kd.C_drew ?_))); (case side2 => exact HC0.out); rintro e w7 ⟨rfl, hb⟩; refine ⟨_, rfl, ?_⟩; have n0_ := Aside0.mk (blk_below (g := gb130) (o := .cells #[.int .i64 0, .int .i64 0, .int .i64 0] 64 (0, 0)) (by (with_reducible repeat (first | refine blk_drewN ?_ _ | refine blk_drew ?_ | refine blk_alloc ?_ _)); exact BK130.out) hb); have n1_ := Aside0.mk (below_step (by repeat (first | (with_reducible first | exact HB.out | apply below_alloc | apply pw_below_drewN | apply below_drew1 | refine below_set ?_ GE130.out) | exact HB.out)) hb); clear BK130; clear HB; have BK130 := n0_; have HB := n1_; clear n0_ n1_; (try clear hb); (try clear hb2); (try clear hk); (try clear hi)))
      go_meet
      case rel => exact ⟨_, (decide (a1 < 0)), (by first | rfl | (simp; done) | (simp [*]; done)), H', ⟨by first | omega | exact Nat.le_refl _⟩, ⟨by (with_reducible repeat (first | refine blk_drewN ?_ _ | refine blk_drew ?_ | refine blk_alloc ?_ _)); exact BK130.out⟩, ⟨by repeat (first | (with_reducible first | exact HB.out | apply below_alloc | apply pw_below_drewN | apply below_drew1 | refine below_set ?_ GE130.out) | exact HB.out)⟩⟩
    · replace c6 := Bool.eq_false_iff.mpr c6
      subst c6
      have H1 : (fees_Tier.j0 k l0 a1 true 0 0 0) = some (r1, r2, r3) := by rw [if_neg (show ¬ (false = true) by decide)] at H; exact H
      clear H
      have H := H1
      clear H1
      have H' := Aside0.mk H
      clear H
      go_wp2_with (first | ((with_reducible refine gate_callee (f := 49) rfl ?_); refine goesL_ (some 8) rfl rfl Try.func49 (by kernel_rfl) rfl #[.slice A0 l0.length c0] rfl (by (try simp only [List.map_toArray, List.map_cons, List.map_nil]); first | done | rfl | (simp only [List.length_drop, List.length_take]; rfl)) ?_; (with_reducible refine (fees_good.calls k _ _ l0 false _ ?side1 ?side2 A5.out).mono ?_); (case side1 => repeat (first | exact (Kd.C_below HR0.out HB.out) | (with_reducible refine Kd.C_alloc ?_ _) | (with_reducible refine Kd.C_drewN ?_ _) | (with_reducible refine Kd.C_drew ?_))); (case side2 => exact HC0.out); rintro e w8 ⟨rfl, hb⟩; refine ⟨_, rfl, ?_⟩; have n0_ := Aside0.mk (blk_below (g := gb130) (o := .cells #[.int .i64 0, .int .i64 0, .int .i64 0] 64 (0, 0)) (by (with_reducible repeat (first | refine blk_drewN ?_ _ | refine blk_drew ?_ | refine blk_alloc ?_ _)); exact BK130.out) hb); have n1_ := Aside0.mk (below_step (by repeat (first | (with_reducible first | exact HB.out | apply below_alloc | apply pw_below_drewN | apply below_drew1 | refine below_set ?_ GE130.out) | exact HB.out)) hb); clear BK130; clear HB; have BK130 := n0_; have HB := n1_; clear n0_ n1_; (try clear hb); (try clear hb2); (try clear hk); (try clear hi)))
      go_meet
      case rel => exact ⟨_, (true), (by first | rfl | (simp; done) | (simp [*]; done)), H', ⟨by first | omega | exact Nat.le_refl _⟩, ⟨by (with_reducible repeat (first | refine blk_drewN ?_ _ | refine blk_drew ?_ | refine blk_alloc ?_ _)); exact BK130.out⟩, ⟨by repeat (first | (with_reducible first | exact HB.out | apply below_alloc | apply pw_below_drewN | apply below_drew1 | refine below_set ?_ GE130.out) | exact HB.out)⟩⟩
  case rest =>
    clear HC3
    try clear p2
    try clear c3
    try clear c4
    try clear c6
    obtain ⟨kq, x13_2, rfl, HA, HJ2, BK130, HB⟩ := hcut
    cases kq with
    | zero => exact absurd HA.out (by simp [fees_Tier.j0])
    | succ kj2 =>
      have H := HA.out
      clear HA
      simp only [fees_Tier.j0] at H
      by_cases c9 : x13_2 = true
      · subst c9
        have H1 : (some (0, 0, 0)) = some (r1, r2, r3) := by rw [if_pos rfl] at H; exact H
        clear H
        have H := H1
        clear H1
        simp only [Option.some.injEq, Prod.mk.injEq] at H
        obtain ⟨rfl, rfl, rfl⟩ := H
        have hcz10_0 : wc.cell? ⟨gb130, 0, none⟩ = some (.int .i64 0) := (blk_cell BK130.out 0).trans rfl
        have hcz10_1 : wc.cell? ⟨gb130, 1, none⟩ = some (.int .i64 0) := (blk_cell BK130.out 1).trans rfl
        have hcz10_2 : wc.cell? ⟨gb130, 2, none⟩ = some (.int .i64 0) := (blk_cell BK130.out 2).trans rfl
        have hfz10_0 := blk_frozen BK130.out 0
        have hfz10_1 := blk_frozen BK130.out 1
        have hfz10_2 := blk_frozen BK130.out 2
        go_wp2
        refine bodyPost_ret (results_cell_row rfl _ _ gb130 64 #[.int .i64 0, .int .i64 0, .int .i64 0] (0, 0) _ rfl (by (with_reducible repeat (first | refine blk_drewN ?_ _ | refine blk_drew ?_ | refine blk_alloc ?_ _)); refine blk_put (cs := #[.int .i64 0, .int .i64 0, .int .i64 0]) ?_ 2 _ rfl; (with_reducible repeat (first | refine blk_drewN ?_ _ | refine blk_drew ?_ | refine blk_alloc ?_ _)); refine blk_put (cs := #[.int .i64 0, .int .i64 0, .int .i64 0]) ?_ 1 _ rfl; (with_reducible repeat (first | refine blk_drewN ?_ _ | refine blk_drew ?_ | refine blk_alloc ?_ _)); refine blk_put (cs := #[.int .i64 0, .int .i64 0, .int .i64 0]) ?_ 0 _ rfl; (with_reducible repeat (first | refine blk_drewN ?_ _ | refine blk_drew ?_ | refine blk_alloc ?_ _)); exact BK130.out) Try.underlying64 rfl (by kernel_rfl)) rfl ?_
        exact ⟨by first | rfl | (simp [errW_none, errW_some] <;> rfl) | (simp [*, errW_none, errW_some] <;> rfl), by repeat (first | (with_reducible first | exact HB.out | apply below_alloc | apply pw_below_drewN | apply below_drew1 | refine below_set ?_ GE130.out) | exact HB.out)⟩
      · replace c9 := Bool.eq_false_iff.mpr c9
        subst c9
        have H1 : (fees_Tier.l0 kj2 a1 l0 (l0.length : Int) 0 0 0 0) = some (r1, r2, r3) := by rw [if_neg (show ¬ (false = true) by decide)] at H; exact H
        clear H
        have H := H1
        clear H1
        have H' := Aside0.mk H
        clear H
        go_wp2
        go_loopg [17] kj2 (fun kq v17 w' => ∃ (x17_2 : Int) (x131000_2 : Int) (x131001_2 : Int) (x131002_2 : Int), v17 = .int .i64 x17_2 ∧ Aside0 (fees_Tier.l0 kq a1 l0 (l0.length : Int) x17_2 x131000_2 x131001_2 x131002_2 = some (r1, r2, r3)) ∧ Aside0 (kq ≤ kj2) ∧ Aside0 (w'.heap[gb130]? = some (.cells #[.int .i64 x131000_2, .int .i64 x131001_2, .int .i64 x131002_2] 64 (0, 0))) ∧ Aside0 (Below w.heap.size w w'))
        case atStart => exact ⟨(0), (0), (0), (0), (by first | rfl | (simp; done) | (simp [*]; done)), H', ⟨Nat.le_refl _⟩, ⟨by (with_reducible repeat (first | refine blk_drewN ?_ _ | refine blk_drew ?_ | refine blk_alloc ?_ _)); exact BK130.out⟩, ⟨by repeat (first | (with_reducible first | exact HB.out | apply below_alloc | apply pw_below_drewN | apply below_drew1 | refine below_set ?_ GE130.out) | exact HB.out)⟩⟩
        case round =>
          clear H'
          try clear p2
          try clear c3
          try clear c4
          try clear c6
          try clear c9
          try clear hcz10_0
          try clear hcz10_1
          try clear hcz10_2
          try clear hfz10_0
          try clear hfz10_1
          try clear hfz10_2
          try clear p2
          obtain ⟨x17_2, x131000_2, x131001_2, x131002_2, rfl, HA, HK2, BK130, HB⟩ := hrel
          cases gk with
          | zero => exact absurd HA.out (by simp [fees_Tier.l0])
          | succ k2 =>
            have H := HA.out
            clear HA
            simp only [fees_Tier.l0] at H
            by_cases c11 : x17_2 < (l0.length : Int)
            · rw [if_pos c11] at H
              have c11b0 : decide (x17_2 < (l0.length : Int)) = true := decide_eq_true c11
              clear c11
              by_cases c12 : 0 ≤ x17_2
              · rw [if_pos c12] at H
                have c12b0 : decide (0 ≤ x17_2) = true := decide_eq_true c12
                clear c12
                by_cases c13 : x17_2 < (l0.length : Int)
                · rw [if_pos c13] at H
                  have c13b0 : decide (x17_2 < (l0.length : Int)) = true := decide_eq_true c13
                  clear c13
                  by_cases c14 : ((rd_T64 l0 x17_2).f0) > a1
                  · rw [if_pos c14] at H
                    have c14b0 : decide (a1 < ((rd_T64 l0 x17_2).f0)) = true := decide_eq_true c14
                    clear c14
                    simp only [Option.some.injEq, Prod.mk.injEq] at H
                    obtain ⟨rfl, rfl, rfl⟩ := H
                    have p132 : 0 ≤ (x17_2 : Int) := of_decide_eq_true (by first | (with_reducible assumption) | assumption)
                    have q132 : x17_2 < (l0.length : Int) := of_decide_eq_true (by first | (with_reducible assumption) | assumption)
                    obtain ⟨ad132, e132, hx132_0, hx132_1, hx132_2⟩ := at_T64 HR0.out x17_2 p132 q132
                    cases e132
                    replace hx132_0 := (HB.out.cell (World.block_lt_of_cell? w _ hx132_0)).trans hx132_0
                    replace hx132_1 := (HB.out.cell (World.block_lt_of_cell? w _ hx132_1)).trans hx132_1
                    replace hx132_2 := (HB.out.cell (World.block_lt_of_cell? w _ hx132_2)).trans hx132_2
                    replace p132 := eq_true p132
                    replace q132 := eq_true q132
                    go_wp2_with (first | ((with_reducible refine gate_dst (N := 6) rfl ?_); refine box_event ?hg (N := 6) ?hd (cs := #[.int .i64 0, .int .i64 0, .int .i64 0]) (t := 64) ?hr ?_; (case hd => rfl); (case hg => rfl); (case hr => first | (go_simp; done) | (go_simp; rfl)); intro gb133 hg w15 hbox hb; have n0_ := Aside0.mk (blk_below (g := gb130) (o := .cells #[.int .i64 x131000_2, .int .i64 x131001_2, .int .i64 x131002_2] 64 (0, 0)) (by (with_reducible repeat (first | refine blk_drewN ?_ _ | refine blk_drew ?_ | refine blk_alloc ?_ _)); exact BK130.out) hb); have n1_ := Aside0.mk (below_step (by repeat (first | (with_reducible first | exact HB.out | apply below_alloc | apply pw_below_drewN | apply below_drew1 | refine below_set ?_ GE130.out) | exact HB.out)) hb); have n2_ := Aside0.mk (hbox); have n3_ := Aside0.mk ((by rw [hg]; exact (below_size (by repeat (first | (with_reducible first | exact HB.out | apply below_alloc | apply pw_below_drewN | apply below_drew1 | refine below_set ?_ GE130.out) | exact HB.out))) : w.heap.size ≤ gb133)); have n4_ := Aside0.mk ((by rw [hg]; exact (below_size (by repeat (first | (with_reducible first | exact HB.out | apply below_alloc | apply pw_below_drewN | apply below_drew1 | refine below_set ?_ GE130.out) | exact HB.out))) : w.heap.size ≤ gb133)); have n5_ := Aside0.mk ((by rw [hg]; exact Nat.ne_of_lt (blk_lt (g := gb130) (o := .cells #[.int .i64 x131000_2, .int .i64 x131001_2, .int .i64 x131002_2] 64 (0, 0)) (by (with_reducible repeat (first | refine blk_drewN ?_ _ | refine blk_drew ?_ | refine blk_alloc ?_ _)); exact BK130.out)) : gb130 ≠ gb133)); have n6_ := Aside0.mk ((by rw [hg]; exact Nat.ne_of_gt (blk_lt (g := gb130) (o := .cells #[.int .i64 x131000_2, .int .i64 x131001_2, .int .i64 x131002_2] 64 (0, 0)) (by (with_reducible repeat (first | refine blk_drewN ?_ _ | refine blk_drew ?_ | refine blk_alloc ?_ _)); exact BK130.out)) : gb133 ≠ gb130)); clear BK130; clear HB; have BK130 := n0_; have HB := n1_; have BK133 := n2_; have GW133 := n3_; have GE133 := n4_; have NB130_133 := n5_; have NB133_130 := n6_; clear n0_ n1_ n2_ n3_ n4_ n5_ n6_; clear hb hbox hg; have hnb16 := NB133_130.out; have hnc16 := NB130_133.out; have hcz17_0 : w15.cell? ⟨gb133, 0, none⟩ = some (.int .i64 0) := (blk_cell BK133.out 0).trans rfl; have hcz17_1 : w15.cell? ⟨gb133, 1, none⟩ = some (.int .i64 0) := (blk_cell BK133.out 1).trans rfl; have hcz17_2 : w15.cell? ⟨gb133, 2, none⟩ = some (.int .i64 0) := (blk_cell BK133.out 2).trans rfl; have hfz17_0 := blk_frozen BK133.out 0; have hfz17_1 := blk_frozen BK133.out 1; have hfz17_2 := blk_frozen BK133.out 2; have hcz18_0 : w15.cell? ⟨gb130, 0, none⟩ = some (.int .i64 x131000_2) := (blk_cell BK130.out 0).trans rfl; have hcz18_1 : w15.cell? ⟨gb130, 1, none⟩ = some (.int .i64 x131001_2) := (blk_cell BK130.out 1).trans rfl; have hcz18_2 : w15.cell? ⟨gb130, 2, none⟩ = some (.int .i64 x131002_2) := (blk_cell BK130.out 2).trans rfl; have hfz18_0 := blk_frozen BK130.out 0; have hfz18_1 := blk_frozen BK130.out 1; have hfz18_2 := blk_frozen BK130.out 2))
                    refine bodyPost_ret (results_cell_row rfl _ _ gb130 64 #[.int .i64 x131000_2, .int .i64 x131001_2, .int .i64 x131002_2] (0, 0) _ rfl (by (with_reducible repeat (first | refine blk_drewN ?_ _ | refine blk_drew ?_ | refine blk_alloc ?_ _)); refine blk_put (cs := #[.int .i64 x131000_2, .int .i64 x131001_2, .int .i64 x131002_2]) ?_ 2 _ rfl; (with_reducible repeat (first | refine blk_drewN ?_ _ | refine blk_drew ?_ | refine blk_alloc ?_ _)); refine blk_put (cs := #[.int .i64 x131000_2, .int .i64 x131001_2, .int .i64 x131002_2]) ?_ 1 _ rfl; (with_reducible repeat (first | refine blk_drewN ?_ _ | refine blk_drew ?_ | refine blk_alloc ?_ _)); refine blk_put (cs := #[.int .i64 x131000_2, .int .i64 x131001_2, .int .i64 x131002_2]) ?_ 0 _ rfl; (with_reducible repeat (first | refine blk_drewN ?_ _ | refine blk_drew ?_ | refine blk_alloc ?_ _)); refine blk_far ?_ NB130_133.out _; (with_reducible repeat (first | refine blk_drewN ?_ _ | refine blk_drew ?_ | refine blk_alloc ?_ _)); refine blk_far ?_ NB130_133.out _; (with_reducible repeat (first | refine blk_drewN ?_ _ | refine blk_drew ?_ | refine blk_alloc ?_ _)); refine blk_far ?_ NB130_133.out _; (with_reducible repeat (first | refine blk_drewN ?_ _ | refine blk_drew ?_ | refine blk_alloc ?_ _)); exact BK130.out) Try.underlying64 rfl (by kernel_rfl)) rfl ?_
                    exact ⟨by first | rfl | (simp [errW_none, errW_some] <;> rfl) | (simp [*, errW_none, errW_some] <;> rfl), by repeat (first | (with_reducible first | exact HB.out | apply below_alloc | apply pw_below_drewN | apply below_drew1 | refine below_set ?_ GE130.out | refine below_set ?_ GE133.out) | exact HB.out)⟩
                  · rw [if_neg c14] at H
                    have c14b0 : decide (a1 < ((rd_T64 l0 x17_2).f0)) = false := decide_eq_false c14
                    clear c14
                    have H' := Aside0.mk H
                    clear H
                    have p132 : 0 ≤ (x17_2 : Int) := of_decide_eq_true (by first | (with_reducible assumption) | assumption)
                    have q132 : x17_2 < (l0.length : Int) := of_decide_eq_true (by first | (with_reducible assumption) | assumption)
                    obtain ⟨ad132, e132, hx132_0, hx132_1, hx132_2⟩ := at_T64 HR0.out x17_2 p132 q132
                    cases e132
                    replace hx132_0 := (HB.out.cell (World.block_lt_of_cell? w _ hx132_0)).trans hx132_0
                    replace hx132_1 := (HB.out.cell (World.block_lt_of_cell? w _ hx132_1)).trans hx132_1
                    replace hx132_2 := (HB.out.cell (World.block_lt_of_cell? w _ hx132_2)).trans hx132_2
                    replace p132 := eq_true p132
                    replace q132 := eq_true q132
                    go_wp2_with (first | ((with_reducible refine gate_dst (N := 6) rfl ?_); refine box_event ?hg (N := 6) ?hd (cs := #[.int .i64 0, .int .i64 0, .int .i64 0]) (t := 64) ?hr ?_; (case hd => rfl); (case hg => rfl); (case hr => first | (go_simp; done) | (go_simp; rfl)); intro gb133 hg w19 hbox hb; have n0_ := Aside0.mk (blk_below (g := gb130) (o := .cells #[.int .i64 x131000_2, .int .i64 x131001_2, .int .i64 x131002_2] 64 (0, 0)) (by (with_reducible repeat (first | refine blk_drewN ?_ _ | refine blk_drew ?_ | refine blk_alloc ?_ _)); exact BK130.out) hb); have n1_ := Aside0.mk (below_step (by repeat (first | (with_reducible first | exact HB.out | apply below_alloc | apply pw_below_drewN | apply below_drew1 | refine below_set ?_ GE130.out) | exact HB.out)) hb); have n2_ := Aside0.mk (hbox); have n3_ := Aside0.mk ((by rw [hg]; exact (below_size (by repeat (first | (with_reducible first | exact HB.out | apply below_alloc | apply pw_below_drewN | apply below_drew1 | refine below_set ?_ GE130.out) | exact HB.out))) : w.heap.size ≤ gb133)); have n4_ := Aside0.mk ((by rw [hg]; exact (below_size (by repeat (first | (with_reducible first | exact HB.out | apply below_alloc | apply pw_below_drewN | apply below_drew1 | refine below_set ?_ GE130.out) | exact HB.out))) : w.heap.size ≤ gb133)); have n5_ := Aside0.mk ((by rw [hg]; exact Nat.ne_of_lt (blk_lt (g := gb130) (o := .cells #[.int .i64 x131000_2, .int .i64 x131001_2, .int .i64 x131002_2] 64 (0, 0)) (by (with_reducible repeat (first | refine blk_drewN ?_ _ | refine blk_drew ?_ | refine blk_alloc ?_ _)); exact BK130.out)) : gb130 ≠ gb133)); have n6_ := Aside0.mk ((by rw [hg]; exact Nat.ne_of_gt (blk_lt (g := gb130) (o := .cells #[.int .i64 x131000_2, .int .i64 x131001_2, .int .i64 x131002_2] 64 (0, 0)) (by (with_reducible repeat (first | refine blk_drewN ?_ _ | refine blk_drew ?_ | refine blk_alloc ?_ _)); exact BK130.out)) : gb133 ≠ gb130)); clear BK130; clear HB; have BK130 := n0_; have HB := n1_; have BK133 := n2_; have GW133 := n3_; have GE133 := n4_; have NB130_133 := n5_; have NB133_130 := n6_; clear n0_ n1_ n2_ n3_ n4_ n5_ n6_; clear hb hbox hg; have hnb20 := NB133_130.out; have hnc20 := NB130_133.out; have hcz21_0 : w19.cell? ⟨gb133, 0, none⟩ = some (.int .i64 0) := (blk_cell BK133.out 0).trans rfl; have hcz21_1 : w19.cell? ⟨gb133, 1, none⟩ = some (.int .i64 0) := (blk_cell BK133.out 1).trans rfl; have hcz21_2 : w19.cell? ⟨gb133, 2, none⟩ = some (.int .i64 0) := (blk_cell BK133.out 2).trans rfl; have hfz21_0 := blk_frozen BK133.out 0; have hfz21_1 := blk_frozen BK133.out 1; have hfz21_2 := blk_frozen BK133.out 2; have hcz22_0 : w19.cell? ⟨gb130, 0, none⟩ = some (.int .i64 x131000_2) := (blk_cell BK130.out 0).trans rfl; have hcz22_1 : w19.cell? ⟨gb130, 1, none⟩ = some (.int .i64 x131001_2) := (blk_cell BK130.out 1).trans rfl; have hcz22_2 : w19.cell? ⟨gb130, 2, none⟩ = some (.int .i64 x131002_2) := (blk_cell BK130.out 2).trans rfl; have hfz22_0 := blk_frozen BK130.out 0; have hfz22_1 := blk_frozen BK130.out 1; have hfz22_2 := blk_frozen BK130.out 2))
                    go_roundg k2
                    case measure => have := HJ2.out; have := HK2.out; omega
                    case rel => exact ⟨(wrap64 (x17_2 + 1)), ((rd_T64 l0 x17_2).f0), ((rd_T64 l0 x17_2).f1), ((rd_T64 l0 x17_2).f2), (by first | rfl | (simp; done) | (simp [*]; done)), H', ⟨by have := HJ2.out; have := HK2.out; omega⟩, ⟨by (with_reducible repeat (first | refine blk_drewN ?_ _ | refine blk_drew ?_ | refine blk_alloc ?_ _)); refine blk_put (cs := #[.int .i64 ((rd_T64 l0 x17_2).f0), .int .i64 ((rd_T64 l0 x17_2).f1), .int .i64 x131002_2]) ?_ 2 _ rfl; (with_reducible repeat (first | refine blk_drewN ?_ _ | refine blk_drew ?_ | refine blk_alloc ?_ _)); refine blk_put (cs := #[.int .i64 ((rd_T64 l0 x17_2).f0), .int .i64 x131001_2, .int .i64 x131002_2]) ?_ 1 _ rfl; (with_reducible repeat (first | refine blk_drewN ?_ _ | refine blk_drew ?_ | refine blk_alloc ?_ _)); refine blk_put (cs := #[.int .i64 x131000_2, .int .i64 x131001_2, .int .i64 x131002_2]) ?_ 0 _ rfl; (with_reducible repeat (first | refine blk_drewN ?_ _ | refine blk_drew ?_ | refine blk_alloc ?_ _)); refine blk_far ?_ NB130_133.out _; (with_reducible repeat (first | refine blk_drewN ?_ _ | refine blk_drew ?_ | refine blk_alloc ?_ _)); refine blk_far ?_ NB130_133.out _; (with_reducible repeat (first | refine blk_drewN ?_ _ | refine blk_drew ?_ | refine blk_alloc ?_ _)); refine blk_far ?_ NB130_133.out _; (with_reducible repeat (first | refine blk_drewN ?_ _ | refine blk_drew ?_ | refine blk_alloc ?_ _)); exact BK130.out⟩, ⟨by repeat (first | (with_reducible first | exact HB.out | apply below_alloc | apply pw_below_drewN | apply below_drew1 | refine below_set ?_ GE130.out | refine below_set ?_ GE133.out) | exact HB.out)⟩⟩
                · rw [if_neg c13] at H
                  exact absurd H (by simp)
              · rw [if_neg c12] at H
                exact absurd H (by simp)
            · rw [if_neg c11] at H
              have c11b0 : decide (x17_2 < (l0.length : Int)) = false := decide_eq_false c11
              clear c11
              simp only [Option.some.injEq, Prod.mk.injEq] at H
              obtain ⟨rfl, rfl, rfl⟩ := H
              have hcz23_0 : wr.cell? ⟨gb130, 0, none⟩ = some (.int .i64 x131000_2) := (blk_cell BK130.out 0).trans rfl
              have hcz23_1 : wr.cell? ⟨gb130, 1, none⟩ = some (.int .i64 x131001_2) := (blk_cell BK130.out 1).trans rfl
              have hcz23_2 : wr.cell? ⟨gb130, 2, none⟩ = some (.int .i64 x131002_2) := (blk_cell BK130.out 2).trans rfl
              have hfz23_0 := blk_frozen BK130.out 0
              have hfz23_1 := blk_frozen BK130.out 1
              have hfz23_2 := blk_frozen BK130.out 2
              go_wp2
              refine bodyPost_ret (results_cell_row rfl _ _ gb130 64 #[.int .i64 x131000_2, .int .i64 x131001_2, .int .i64 x131002_2] (0, 0) _ rfl (by (with_reducible repeat (first | refine blk_drewN ?_ _ | refine blk_drew ?_ | refine blk_alloc ?_ _)); refine blk_put (cs := #[.int .i64 x131000_2, .int .i64 x131001_2, .int .i64 x131002_2]) ?_ 2 _ rfl; (with_reducible repeat (first | refine blk_drewN ?_ _ | refine blk_drew ?_ | refine blk_alloc ?_ _)); refine blk_put (cs := #[.int .i64 x131000_2, .int .i64 x131001_2, .int .i64 x131002_2]) ?_ 1 _ rfl; (with_reducible repeat (first | refine blk_drewN ?_ _ | refine blk_drew ?_ | refine blk_alloc ?_ _)); refine blk_put (cs := #[.int .i64 x131000_2, .int .i64 x131001_2, .int .i64 x131002_2]) ?_ 0 _ rfl; (with_reducible repeat (first | refine blk_drewN ?_ _ | refine blk_drew ?_ | refine blk_alloc ?_ _)); exact BK130.out) Try.underlying64 rfl (by kernel_rfl)) rfl ?_
              exact ⟨by first | rfl | (simp [errW_none, errW_some] <;> rfl) | (simp [*, errW_none, errW_some] <;> rfl), by repeat (first | (with_reducible first | exact HB.out | apply below_alloc | apply pw_below_drewN | apply below_drew1 | refine below_set ?_ GE130.out) | exact HB.out)⟩

/-! ### fees_Of: function 28 (by hand) -/
def fees_Of.f (k : Nat) (l0 : List S64) (a1 : Int) (a2 : Int) (a3 : Int) (a4 : Int) : Option (Int × Int) := (fees_good.f k l0).bind fun t138 => (if t138 = true then (if a1 < 0 then (some (0, 2)) else ((fees_Tier.f k l0 a1).bind fun bt139 => (if a3 = 1 then (fees_Fee.f k a2 bt139.2.2 a4) else (if a3 = 2 then (fees_Fee.f k a2 bt139.2.1 a4) else (some (0, 2)))))) else (some (0, 43)))
theorem fees_Of.mono : ∀ a0 a1 a2 a3 a4 k, LeO (fees_Of.f k a0 a1 a2 a3 a4) (fees_Of.f (k + 1) a0 a1 a2 a3 a4) := by
  intro a0 a1 a2 a3 a4 k
  unfold fees_Of.f
  repeat' first
      | exact fees_good.mono _ _
      | exact fees_Tier.mono _ _ _
      | exact fees_Fee.mono _ _ _ _
      | exact LeO.refl _
      | refine LeO.ite ?_ ?_
      | refine LeO.bind ?_ (fun _ => ?_)
set_option maxHeartbeats 8000000 in
set_option maxRecDepth 100000 in
theorem fees_Of.calls (k : Nat) (A0 : Option Addr) (c0 : Nat) (l0 : List S64) (a1 : Int) (a2 : Int) (a3 : Int) (a4 : Int) (r1 : Int) (r2 : Int) (w : World) (hr0 : Kd.C k64 w A0 l0.length l0) (hc0 : l0.length ≤ c0) (h : fees_Of.f k l0 a1 a2 a3 a4 = some (r1, r2)) :
    Calls Try.prog 28 #[.slice A0 l0.length c0, .int .i64 a1, .int .i64 a2, .int .i64 a3, .int .i64 a4] w fun e w' => e = .returned (.tuple #[.int .i64 r1, .int .i64 r2]) ∧ Below w.heap.size w w' := by
  have hu64 := Try.underlying64
  have HR0 := Aside0.mk hr0
  have HC0 := Aside0.mk hc0
  clear hr0 hc0
  unfold fees_Of.f at h
  obtain ⟨g, hg, h'⟩ := Option.bind_eq_some_iff.mp h
  clear h
  have h := h'
  clear h'
  have HG : Aside0 (Calls Try.prog 49 #[.slice A0 l0.length c0] w fun e w' => e = .returned (.bool g) ∧ Below w.heap.size w w') := ⟨fees_good.calls k A0 c0 l0 g w HR0.out HC0.out hg⟩
  cases g with
  | false =>
    rw [if_neg (by decide)] at h
    injection h with h
    injection h with ha hb
    subst ha hb
    go_enter Try.func28, Try.ntmps28
    go_wp2_with (go_at_call 49; refine HG.out.mono ?_; rintro e w1 ⟨rfl, hb⟩; have HB := Aside0.mk hb; clear hb)
    go_ret2
    exact ⟨rfl, HB.out⟩
  | true =>
    rw [if_pos rfl] at h
    by_cases h1 : a1 < 0
    · rw [if_pos h1] at h
      injection h with h
      injection h with ha hb
      subst ha hb
      have d1 : decide (a1 < 0) = true := decide_eq_true h1
      go_enter Try.func28, Try.ntmps28
      go_wp2_with (go_at_call 49; refine HG.out.mono ?_; rintro e w1 ⟨rfl, hb⟩; have HB := Aside0.mk hb; clear hb)
      go_ret2
      exact ⟨rfl, HB.out⟩
    · rw [if_neg h1] at h
      have d1 : decide (a1 < 0) = false := decide_eq_false h1
      clear h1
      obtain ⟨⟨x, y, z⟩, ht, h'⟩ := Option.bind_eq_some_iff.mp h
      clear h
      have h := h'
      clear h'
      have HT : Aside0 (∀ W, Below w.heap.size w W → Calls Try.prog 37 #[.slice A0 l0.length c0, .int .i64 a1] W fun e w' => e = .returned (.agg #[.int .i64 x, .int .i64 y, .int .i64 z]) ∧ Below W.heap.size W w') := ⟨fun W hW => fees_Tier.calls k A0 c0 l0 a1 x y z W (Kd.C_below HR0.out hW) HC0.out ht⟩
      have hdrop : ∀ W, Below w.heap.size w W → ∀ o, Below w.heap.size w (W.alloc o) := fun W h o => below_alloc h o
      have HD := Aside0.mk hdrop
      clear ht hdrop
      dsimp only at h
      by_cases h3 : a3 = 1
      · rw [if_pos h3] at h
        subst h3
        have HF : Aside0 (∀ W, Calls Try.prog 31 #[.int .i64 a2, .int .i64 z, .int .i64 a4] W fun e w' => e = .returned (.tuple #[.int .i64 r1, .int .i64 r2]) ∧ Below W.heap.size W w') := ⟨fun W => fees_Fee.calls k a2 z a4 r1 r2 W h⟩
        clear h
        go_enter Try.func28, Try.ntmps28
        go_wp2_with (first | (go_at_call 49; refine HG.out.mono ?_; rintro e w1 ⟨rfl, hb⟩; have HB := Aside0.mk hb; clear hb) | (go_at_call 37; refine (HT.out _ HB.out).mono ?_; rintro e w2 ⟨rfl, hb⟩; have HB2 := Aside0.mk (below_step HB.out hb); clear hb) | (go_at_call 31; refine (HF.out _).mono ?_; rintro e w3 ⟨rfl, hb⟩; have HB3 := Aside0.mk (below_step (HD.out _ HB2.out _) hb); clear hb))
        go_ret2
        exact ⟨rfl, HB3.out⟩
      · rw [if_neg h3] at h
        have d3 : (a3 == 1) = false := by simpa using h3
        by_cases h4 : a3 = 2
        · rw [if_pos h4] at h
          subst h4
          have HF : Aside0 (∀ W, Calls Try.prog 31 #[.int .i64 a2, .int .i64 y, .int .i64 a4] W fun e w' => e = .returned (.tuple #[.int .i64 r1, .int .i64 r2]) ∧ Below W.heap.size W w') := ⟨fun W => fees_Fee.calls k a2 y a4 r1 r2 W h⟩
          clear h h3
          go_enter Try.func28, Try.ntmps28
          go_wp2_with (first | (go_at_call 49; refine HG.out.mono ?_; rintro e w1 ⟨rfl, hb⟩; have HB := Aside0.mk hb; clear hb) | (go_at_call 37; refine (HT.out _ HB.out).mono ?_; rintro e w2 ⟨rfl, hb⟩; have HB2 := Aside0.mk (below_step HB.out hb); clear hb) | (go_at_call 31; refine (HF.out _).mono ?_; rintro e w3 ⟨rfl, hb⟩; have HB3 := Aside0.mk (below_step (HD.out _ HB2.out _) hb); clear hb))
          go_ret2
          exact ⟨rfl, HB3.out⟩
        · rw [if_neg h4] at h
          have d4 : (a3 == 2) = false := by simpa using h4
          injection h with h
          injection h with ha hb
          subst ha hb
          clear h3 h4
          go_enter Try.func28, Try.ntmps28
          go_wp2_with (first | (go_at_call 49; refine HG.out.mono ?_; rintro e w1 ⟨rfl, hb⟩; have HB := Aside0.mk hb; clear hb) | (go_at_call 37; refine (HT.out _ HB.out).mono ?_; rintro e w2 ⟨rfl, hb⟩; have HB2 := Aside0.mk (below_step HB.out hb); clear hb))
          go_ret2
          exact ⟨rfl, HD.out _ HB2.out _⟩

/-! ### jobberref01_nought: function 63 (by hand; for other hand texts alone) -/
/-- A number's cells: its bits, and whether it is below 0. -/
def numL (m : Nat) (g : Bool) : List Value := (List.range 136).map (fun i => Value.bool (m.testBit i)) ++ [.bool g]
def numC (m : Nat) (g : Bool) : Array Value := (numL m g).toArray
theorem numC_size (m : Nat) (g : Bool) : (numC m g).size = 137 := by simp [numC, numL]
theorem numC_bit (m : Nat) (g : Bool) {i : Nat} (h : i < 136) : (numC m g)[i]? = some (.bool (m.testBit i)) := by
  simp [numC, numL, List.getElem?_append, h]
theorem numC_neg (m : Nat) (g : Bool) : (numC m g)[136]? = some (.bool g) := by
  simp [numC, numL, List.getElem?_append]
theorem numC_one (m : Nat) (g : Bool) : (numC m g).all (·.oneCell') = true := by
  simp [numC, numL, Value.oneCell']
theorem numC_set {m m' : Nat} {g : Bool} {i : Nat} {b : Bool} (hi : i < 136) (h : ∀ j, j < 136 → m'.testBit j = if j = i then b else m.testBit j) : (numC m g).setIfInBounds i (.bool b) = numC m' g := by
  apply Array.ext_getElem?
  intro j
  rw [Array.getElem?_setIfInBounds]
  by_cases hj : i = j
  · subst hj
    rw [if_pos rfl, numC_size, if_pos (by omega), numC_bit _ _ hi, h i hi, if_pos rfl]
  · rw [if_neg hj]
    by_cases hj2 : j < 136
    · rw [numC_bit _ _ hj2, numC_bit _ _ hj2, h j hj2, if_neg (fun e => hj e.symm)]
    · by_cases hj3 : j = 136
      · subst hj3; rw [numC_neg, numC_neg]
      · rw [Array.getElem?_eq_none (by rw [numC_size]; omega), Array.getElem?_eq_none (by rw [numC_size]; omega)]
theorem numC_setNeg (m : Nat) (g b : Bool) : (numC m g).setIfInBounds 136 (.bool b) = numC m b := by
  apply Array.ext_getElem?
  intro j
  rw [Array.getElem?_setIfInBounds]
  by_cases hj : 136 = j
  · subst hj
    rw [if_pos rfl, numC_size, if_pos (by omega), numC_neg]
  · rw [if_neg hj]
    by_cases hj2 : j < 136
    · rw [numC_bit _ _ hj2, numC_bit _ _ hj2]
    · rw [Array.getElem?_eq_none (by rw [numC_size]; omega), Array.getElem?_eq_none (by rw [numC_size]; omega)]
theorem numZ : (Array.replicate 137 (Value.bool false)) = numC 0 false := by
  apply Array.ext_getElem?
  intro j
  by_cases hj2 : j < 136
  · rw [numC_bit _ _ hj2, Array.getElem?_replicate, if_pos (by omega)]; simp
  · by_cases hj3 : j = 136
    · subst hj3; rw [numC_neg]; simp
    · rw [Array.getElem?_eq_none (by simp; omega), Array.getElem?_eq_none (by rw [numC_size]; omega)]
/-! Numbers as rows of bits -/
def setb (V i : Nat) (b : Bool) : Nat := if V.testBit i = b then V else V ^^^ 2 ^ i
theorem tb_setb (V i : Nat) (b : Bool) (j : Nat) : (setb V i b).testBit j = if j = i then b else V.testBit j := by
  unfold setb
  by_cases h : V.testBit i = b
  · rw [if_pos h]
    by_cases hj : j = i
    · subst hj; rw [if_pos rfl, h]
    · rw [if_neg hj]
  · rw [if_neg h, Nat.testBit_xor, Nat.testBit_two_pow]
    by_cases hj : j = i
    · subst hj
      rw [if_pos rfl]
      cases hb : V.testBit j <;> cases b <;> simp_all
    · rw [if_neg hj, decide_eq_false (fun e => hj e.symm)]
      simp
theorem numC_setb (m : Nat) (g : Bool) (i : Nat) (b : Bool) (hi : i < 136) : (numC m g).setIfInBounds i (.bool b) = numC (setb m i b) g := numC_set hi (fun j _ => tb_setb m i b j)
theorem numC_congr {m m' : Nat} {g : Bool} (h : ∀ j, j < 136 → m.testBit j = m'.testBit j) : numC m g = numC m' g := by
  apply Array.ext_getElem?
  intro j
  by_cases hj2 : j < 136
  · rw [numC_bit _ _ hj2, numC_bit _ _ hj2, h j hj2]
  · by_cases hj3 : j = 136
    · subst hj3; rw [numC_neg, numC_neg]
    · rw [Array.getElem?_eq_none (by rw [numC_size]; omega), Array.getElem?_eq_none (by rw [numC_size]; omega)]
theorem tb_div (x k : Nat) : (if x.testBit k then 1 else 0) = x / 2 ^ k % 2 := by
  rw [Nat.testBit_eq_decide_div_mod_eq]
  rcases Nat.mod_two_eq_zero_or_one (x / 2 ^ k) with h | h <;> simp [h]
theorem tb_eq {x y k : Nat} (h : x / 2 ^ k % 2 = y / 2 ^ k % 2) : x.testBit k = y.testBit k := by
  rw [Nat.testBit_eq_decide_div_mod_eq, Nat.testBit_eq_decide_div_mod_eq, h]
theorem split_at (x k : Nat) : x = x / 2 ^ k * 2 ^ k + x % 2 ^ k ∧ x % 2 ^ k < 2 ^ k := ⟨by have := Nat.div_add_mod x (2 ^ k); rw [Nat.mul_comm] at this; omega, Nat.mod_lt _ (Nat.two_pow_pos k)⟩
/-- carry into place k -/
def car (a b k : Nat) : Bool := decide (2 ^ k ≤ a % 2 ^ k + b % 2 ^ k)
theorem add_bit (a b k : Nat) : (a + b) / 2 ^ k = a / 2 ^ k + b / 2 ^ k + (if car a b k then 1 else 0) := by
  have ha := split_at a k; have hb := split_at b k
  have hp := Nat.two_pow_pos k
  unfold car
  have e : a + b = (a / 2 ^ k + b / 2 ^ k) * 2 ^ k + (a % 2 ^ k + b % 2 ^ k) := by rw [Nat.add_mul]; omega
  rw [e, Nat.add_comm, Nat.add_mul_div_right _ _ hp, Nat.add_comm]
  congr 1
  by_cases h : 2 ^ k ≤ a % 2 ^ k + b % 2 ^ k
  · have hd : (a % 2 ^ k + b % 2 ^ k) / 2 ^ k = 1 := Nat.div_eq_of_lt_le (by omega) (by omega)
    rw [decide_eq_true h, if_pos rfl, hd]
  · rw [decide_eq_false h, if_neg (by decide), Nat.div_eq_of_lt (by omega)]
theorem car_succ (a b k : Nat) : car a b (k + 1) = decide (2 ≤ a / 2 ^ k % 2 + b / 2 ^ k % 2 + (if car a b k then 1 else 0)) := by
  have h1 := Nat.mod_pow_succ (b := 2) (k := k) (x := a)
  have h2 := Nat.mod_pow_succ (b := 2) (k := k) (x := b)
  have ha := (split_at a k).2; have hb := (split_at b k).2
  unfold car
  rw [h1, h2, Nat.pow_succ]
  have c1 := Nat.mod_two_eq_zero_or_one (a / 2 ^ k)
  have c2 := Nat.mod_two_eq_zero_or_one (b / 2 ^ k)
  generalize a / 2 ^ k % 2 = x at *
  generalize b / 2 ^ k % 2 = y at *
  generalize a % 2 ^ k = p at *
  generalize b % 2 ^ k = q at *
  generalize 2 ^ k = P at *
  rw [Bool.eq_iff_iff]
  by_cases h : P ≤ p + q
  · rw [decide_eq_true h]
    rcases c1 with rfl | rfl <;> rcases c2 with rfl | rfl <;> simp <;> omega
  · rw [decide_eq_false h]
    rcases c1 with rfl | rfl <;> rcases c2 with rfl | rfl <;> simp <;> omega
/-- borrow from place k -/
def bor (a b k : Nat) : Bool := decide (a % 2 ^ k < b % 2 ^ k)
theorem sub_bit {a b : Nat} (h : b ≤ a) (k : Nat) : (a - b) / 2 ^ k + b / 2 ^ k + (if bor a b k then 1 else 0) = a / 2 ^ k := by
  have ha := split_at a k; have hb := split_at b k
  have hp := Nat.two_pow_pos k
  unfold bor
  by_cases hc : a % 2 ^ k < b % 2 ^ k
  · rw [decide_eq_true hc, if_pos rfl]
    have hlt : b / 2 ^ k + 1 ≤ a / 2 ^ k := by
      rcases Nat.lt_or_ge (b / 2 ^ k) (a / 2 ^ k) with h1 | h1
      · exact h1
      · have := Nat.mul_le_mul_right (2 ^ k) h1
        omega
    have e : a - b = (a / 2 ^ k - b / 2 ^ k - 1) * 2 ^ k + (a % 2 ^ k + 2 ^ k - b % 2 ^ k) := by
      have := Nat.mul_le_mul_right (2 ^ k) hlt
      rw [Nat.sub_mul, Nat.sub_mul, Nat.one_mul]
      rw [Nat.add_mul, Nat.one_mul] at this
      omega
    rw [e, Nat.add_comm ((a / 2 ^ k - b / 2 ^ k - 1) * 2 ^ k), Nat.add_mul_div_right _ _ hp, Nat.div_eq_of_lt (by omega)]
    omega
  · rw [decide_eq_false hc, if_neg (by decide)]
    have hle : b / 2 ^ k ≤ a / 2 ^ k := Nat.div_le_div_right h
    have e : a - b = (a / 2 ^ k - b / 2 ^ k) * 2 ^ k + (a % 2 ^ k - b % 2 ^ k) := by
      have := Nat.mul_le_mul_right (2 ^ k) hle
      rw [Nat.sub_mul]
      omega
    rw [e, Nat.add_comm ((a / 2 ^ k - b / 2 ^ k) * 2 ^ k), Nat.add_mul_div_right _ _ hp, Nat.div_eq_of_lt (by omega)]
    omega
theorem bor_succ (a b k : Nat) : bor a b (k + 1) = decide (a / 2 ^ k % 2 < b / 2 ^ k % 2 + (if bor a b k then 1 else 0)) := by
  have h1 := Nat.mod_pow_succ (b := 2) (k := k) (x := a)
  have h2 := Nat.mod_pow_succ (b := 2) (k := k) (x := b)
  have ha := (split_at a k).2; have hb := (split_at b k).2
  unfold bor
  rw [h1, h2]
  have c1 := Nat.mod_two_eq_zero_or_one (a / 2 ^ k)
  have c2 := Nat.mod_two_eq_zero_or_one (b / 2 ^ k)
  generalize a / 2 ^ k % 2 = x at *
  generalize b / 2 ^ k % 2 = y at *
  generalize a % 2 ^ k = p at *
  generalize b % 2 ^ k = q at *
  generalize 2 ^ k = P at *
  rw [Bool.eq_iff_iff]
  by_cases h : p < q
  · rw [decide_eq_true h]
    rcases c1 with rfl | rfl <;> rcases c2 with rfl | rfl <;> simp <;> omega
  · rw [decide_eq_false h]
    rcases c1 with rfl | rfl <;> rcases c2 with rfl | rfl <;> simp <;> omega
theorem add_tb (a b k : Nat) : (a + b).testBit k = ((a.testBit k ^^ b.testBit k) ^^ car a b k) := by
  rw [Nat.testBit_eq_decide_div_mod_eq, Nat.testBit_eq_decide_div_mod_eq, Nat.testBit_eq_decide_div_mod_eq, add_bit]
  have c1 := Nat.mod_two_eq_zero_or_one (a / 2 ^ k)
  have c2 := Nat.mod_two_eq_zero_or_one (b / 2 ^ k)
  generalize a / 2 ^ k = x at *
  generalize b / 2 ^ k = y at *
  rw [Bool.eq_iff_iff]
  cases car a b k <;> rcases c1 with c1 | c1 <;> rcases c2 with c2 | c2 <;> simp [c1, c2] <;> omega
theorem car_tb (a b k : Nat) : car a b (k + 1) = ((a.testBit k && b.testBit k) || (car a b k && (a.testBit k || b.testBit k))) := by
  rw [Nat.testBit_eq_decide_div_mod_eq, Nat.testBit_eq_decide_div_mod_eq, car_succ]
  have c1 := Nat.mod_two_eq_zero_or_one (a / 2 ^ k)
  have c2 := Nat.mod_two_eq_zero_or_one (b / 2 ^ k)
  cases car a b k <;> rcases c1 with c1 | c1 <;> rcases c2 with c2 | c2 <;> simp [c1, c2]
theorem sub_tb {a b : Nat} (h : b ≤ a) (k : Nat) : (a - b).testBit k = ((a.testBit k ^^ b.testBit k) ^^ bor a b k) := by
  rw [Nat.testBit_eq_decide_div_mod_eq, Nat.testBit_eq_decide_div_mod_eq, Nat.testBit_eq_decide_div_mod_eq]
  have e := sub_bit h k
  have c1 := Nat.mod_two_eq_zero_or_one (a / 2 ^ k)
  have c2 := Nat.mod_two_eq_zero_or_one (b / 2 ^ k)
  generalize a / 2 ^ k = x at *
  generalize b / 2 ^ k = y at *
  generalize (a - b) / 2 ^ k = z at *
  rw [Bool.eq_iff_iff]
  cases hb : bor a b k <;> rw [hb] at e <;> rcases c1 with c1 | c1 <;> rcases c2 with c2 | c2 <;> simp [c1, c2] at e ⊢ <;> omega
theorem bor_tb (a b k : Nat) : bor a b (k + 1) = ((!a.testBit k && b.testBit k) || (bor a b k && (!a.testBit k || b.testBit k))) := by
  rw [Nat.testBit_eq_decide_div_mod_eq, Nat.testBit_eq_decide_div_mod_eq, bor_succ]
  have c1 := Nat.mod_two_eq_zero_or_one (a / 2 ^ k)
  have c2 := Nat.mod_two_eq_zero_or_one (b / 2 ^ k)
  cases bor a b k <;> rcases c1 with c1 | c1 <;> rcases c2 with c2 | c2 <;> simp [c1, c2]
/-- What is known of the number that is filled from the lowest place on. -/
def Upto (V r k : Nat) : Prop := ∀ j, j < 136 → V.testBit j = if j < k then r.testBit j else false
theorem Upto.zero (r : Nat) : Upto 0 r 0 := fun j _ => by simp
theorem Upto.step {V r k : Nat} {b : Bool} (h : Upto V r k) (hb : r.testBit k = b) : Upto (setb V k b) r (k + 1) := by
  intro j hj
  rw [tb_setb, h j hj]
  by_cases e : j = k
  · subst e; rw [if_pos rfl, if_pos (by omega), hb]
  · rw [if_neg e]
    by_cases e2 : j < k
    · rw [if_pos e2, if_pos (by omega)]
    · rw [if_neg e2, if_neg (by omega)]
theorem Upto.done {V r k : Nat} {g : Bool} (h : Upto V r k) (hk : 136 ≤ k) : numC V g = numC r g := numC_congr fun j hj => by rw [h j hj, if_pos (by omega)]

theorem zcNum : Try.zeroCells84 = numC 0 false := by
  rw [← numZ]
  kernel_rfl
theorem sizeNum (m : Nat) (g : Bool) : (Try.prog.info? 84).map (·.size) = some (numC m g).size := by
  rw [numC_size]
  kernel_rfl
/-- the numbers of the call's own: block, bits, sign -/
abbrev NB := List (Nat × Nat × Bool)
def Own (w0 W : World) (l : NB) : Prop := Below w0.heap.size w0 W ∧ (∀ (i : Nat) (x : Nat × Nat × Bool), l[i]? = some x → w0.heap.size ≤ x.1 ∧ W.heap[x.1]? = some (.cells (numC x.2.1 x.2.2) 84 (0, 0))) ∧ ∀ (i j : Nat) (x y : Nat × Nat × Bool), l[i]? = some x → l[j]? = some y → i ≠ j → x.1 ≠ y.1
theorem num_setRow {B g : Nat} {w0 w : World} (hb : Below B w0 w) (hBg : B ≤ g) (cs : Array Value) : Below B w0 (w.setRow g cs) := hb.trans ⟨rfl, rfl, rfl, by simp [World.setRow], fun k hk => setRow_other w g k cs (by omega)⟩
theorem Own.start (w : World) : Own w w [] := ⟨Below.refl _ _, fun i x h => by simp at h, fun i j x y h => by simp at h⟩
theorem Own.below {w0 W : World} {l : NB} (h : Own w0 W l) : Below w0.heap.size w0 W := h.1
theorem Own.blk {w0 W : World} {l : NB} (h : Own w0 W l) (i : Nat) {g m : Nat} {s : Bool} (hi : l[i]? = some (g, m, s)) : W.heap[g]? = some (.cells (numC m s) 84 (0, 0)) := (h.2.1 i _ hi).2
theorem Own.call {w0 W W1 : World} {l : NB} (h : Own w0 W l) (hB : Below W.heap.size W W1) : Own w0 W1 l := ⟨below_step h.1 hB, fun i x hx => ⟨(h.2.1 i x hx).1, blk_below (h.2.1 i x hx).2 hB⟩, h.2.2⟩
theorem Own.alloc {w0 W W1 : World} {l : NB} (h : Own w0 W l) {g m : Nat} {s : Bool} (hg : g = W.heap.size) (hb : W1.heap[g]? = some (.cells (numC m s) 84 (0, 0))) (hB : Below W.heap.size W W1) : Own w0 W1 (l ++ [(g, m, s)]) := by
  have h1 := h.call hB
  have hlt : ∀ (i : Nat) (x : Nat × Nat × Bool), l[i]? = some x → x.1 < W.heap.size := fun i x hx => blk_lt (h.2.1 i x hx).2
  have hcase : ∀ (i : Nat) (x : Nat × Nat × Bool), (l ++ [(g, m, s)])[i]? = some x → (i < l.length ∧ l[i]? = some x) ∨ (i = l.length ∧ x = (g, m, s)) := fun i x hx => by
    by_cases hi : i < l.length
    · rw [List.getElem?_append_left hi] at hx; exact .inl ⟨hi, hx⟩
    · rw [List.getElem?_append_right (by omega)] at hx
      have h0 : i - l.length = 0 := by
        have := (List.getElem?_eq_some_iff.1 hx).1
        simp at this
        omega
      rw [h0] at hx
      simp at hx
      exact .inr ⟨by omega, hx.symm⟩
  refine ⟨h1.1, fun i x hx => ?_, fun i j x y hx hy hij => ?_⟩
  · rcases hcase i x hx with ⟨_, h2⟩ | ⟨_, rfl⟩
    · exact h1.2.1 i x h2
    · exact ⟨by rw [hg]; exact h.1.size, hb⟩
  · rcases hcase i x hx with ⟨_, h2⟩ | ⟨h2, rfl⟩ <;> rcases hcase j y hy with ⟨_, h3⟩ | ⟨h3, rfl⟩
    · exact h.2.2 i j x y h2 h3 hij
    · have := hlt i x h2; dsimp only; omega
    · have := hlt j y h3; dsimp only; omega
    · omega
theorem Own.put {w0 W W1 : World} {l : NB} (h : Own w0 W l) (i : Nat) {g m m' : Nat} {s s' : Bool} (hi : l[i]? = some (g, m, s)) (hb : W1.heap[g]? = some (.cells (numC m' s') 84 (0, 0))) (hB : Below w0.heap.size w0 W1) (ho : ∀ k, k ≠ g → W1.heap[k]? = W.heap[k]?) : Own w0 W1 (l.set i (g, m', s')) := by
  have hlt : i < l.length := (List.getElem?_eq_some_iff.1 hi).1
  refine ⟨hB, fun j x hx => ?_, fun j k x y hx hy hjk => ?_⟩
  · rw [List.getElem?_set] at hx
    by_cases e : i = j
    · rw [if_pos e, if_pos hlt] at hx
      cases hx
      exact ⟨(h.2.1 i _ hi).1, hb⟩
    · rw [if_neg e] at hx
      exact ⟨(h.2.1 j x hx).1, by rw [ho x.1 (h.2.2 j i x _ hx hi (Ne.symm e))]; exact (h.2.1 j x hx).2⟩
  · have hf : ∀ (j : Nat) (x : Nat × Nat × Bool), (l.set i (g, m', s'))[j]? = some x → ∃ y, l[j]? = some y ∧ y.1 = x.1 := fun j x hx => by
      rw [List.getElem?_set] at hx
      by_cases e : i = j
      · rw [if_pos e, if_pos hlt] at hx
        cases hx
        exact ⟨(g, m, s), e ▸ hi, rfl⟩
      · rw [if_neg e] at hx
        exact ⟨x, hx, rfl⟩
    obtain ⟨x', hx', e1⟩ := hf j x hx
    obtain ⟨y', hy', e2⟩ := hf k y hy
    rw [← e1, ← e2]
    exact h.2.2 j k x' y' hx' hy' hjk
theorem Own.bit {w0 W : World} {l : NB} (h : Own w0 W l) (i k : Nat) {g m : Nat} {s : Bool} (hi : l[i]? = some (g, m, s)) (hk : k < 136) (b : Bool) : Own w0 (W.setCell ⟨g, k, none⟩ (.bool b)) (l.set i (g, setb m k b, s)) :=
  h.put i hi (by rw [← numC_setb _ _ _ _ hk]; exact blk_set (h.blk i hi) k _) (below_set h.1 (h.2.1 i _ hi).1) (fun j hj => Below.heap_setCell W ⟨g, k, none⟩ _ j hj)
theorem Own.sign {w0 W : World} {l : NB} (h : Own w0 W l) (i : Nat) {g m : Nat} {s : Bool} (hi : l[i]? = some (g, m, s)) (b : Bool) : Own w0 (W.setCell ⟨g, 136, none⟩ (.bool b)) (l.set i (g, m, b)) :=
  h.put i hi (by rw [← numC_setNeg m s b]; exact blk_set (h.blk i hi) 136 _) (below_set h.1 (h.2.1 i _ hi).1) (fun j hj => Below.heap_setCell W ⟨g, 136, none⟩ _ j hj)
theorem Own.cell {w0 W : World} {l : NB} (h : Own w0 W l) (i k : Nat) {g m : Nat} {s : Bool} (hi : l[i]? = some (g, m, s)) (hk : k < 136) : W.cell? ⟨g, k, none⟩ = some (.bool (m.testBit k)) := (blk_cell (h.blk i hi) k).trans (numC_bit m s hk)
theorem Own.neg {w0 W : World} {l : NB} (h : Own w0 W l) (i : Nat) {g m : Nat} {s : Bool} (hi : l[i]? = some (g, m, s)) : W.cell? ⟨g, 136, none⟩ = some (.bool s) := (blk_cell (h.blk i hi) 136).trans (numC_neg m s)
theorem Own.free {w0 W : World} {l : NB} (h : Own w0 W l) (i k : Nat) {g m : Nat} {s : Bool} (hi : l[i]? = some (g, m, s)) : W.frozen? ⟨g, k, none⟩ = false := blk_frozen (h.blk i hi) k
section
variable {ops : Array Oper} {rest : List Oper} {o : Oper} {a : Act} {Q : Exit → Act → World → Prop} {w0 W : World} {l : NB}
/-- a number made -/
theorem num_new (hgd : o.guard = none) {N : Tmp} (_hd : o.dst = some N) {cs : Array Value} (hO : Own w0 W l) (m : Nat) (s : Bool) (hc : cs = numC m s)
    (hrun : (execOp a.eval o).run Try.prog W = .ok (.value (.pointer (some ⟨W.heap.size, 0, none⟩))) (W.alloc (.cells cs 84 (0, 0))))
    (h : ∀ g W1, Own w0 W1 (l ++ [(g, m, s)]) → wpList Try.prog ops Q rest (a.put o.dst (.pointer (some ⟨g, 0, none⟩))) W1) : wpList Try.prog ops Q (o :: rest) a W :=
  box_event hgd _hd hrun (fun g hg w1 hb hB => h g w1 (hO.alloc hg (by rw [← hc]; exact hb) hB))
/-- a number read whole -/
theorem num_load (hgd : o.guard = none) {N : Tmp} (_hd : o.dst = some N) (x : Operand) (ho : o.op = .load 84 x) (hO : Own w0 W l) (i : Nat) {g m : Nat} {s : Bool} (hi : l[i]? = some (g, m, s)) (hx : a.eval x = .pointer (some ⟨g, 0, none⟩))
    (h : wpList Try.prog ops Q rest (a.put o.dst (.agg (numC m s))) W) : wpList Try.prog ops Q (o :: rest) a W :=
  wpList_load_row hgd 84 x ho g hx 84 (numC m s) (0, 0) _ (hO.blk i hi) Try.underlying84 rfl (sizeNum _ _) h
/-- a number stored whole -/
theorem num_store (hgd : o.guard = none) (x y : Operand) (ho : o.op = .store 84 x y) (hO : Own w0 W l) (i : Nat) {g m m' : Nat} {s s' : Bool} (hi : l[i]? = some (g, m, s)) (hx : a.eval x = .pointer (some ⟨g, 0, none⟩)) (hy : a.eval y = .agg (numC m' s'))
    (h : ∀ W1, Own w0 W1 (l.set i (g, m', s')) → wpList Try.prog ops Q rest (a.put o.dst undef) W1) : wpList Try.prog ops Q (o :: rest) a W :=
  wpList_store_row hgd 84 x y ho g (numC m' s') hx hy 84 (numC m s) (hO.blk i hi) (sizeNum _ _) (by rw [numC_size, numC_size]) (numC_one _ _)
    (h _ (hO.put i hi (setRow_heap _ _ _ _ _ _ (hO.blk i hi)) (num_setRow hO.1 (hO.2.1 i _ hi).1 _) (fun k hk => setRow_other _ _ _ _ hk)))
end
theorem num_abs {c : Code} {Q : Exit → Act → World → Prop} {a : Act} {w0 W : World} {l : NB} (hO : Own w0 W l) (h : ∀ W1, Own w0 W1 l → c.wp Try.prog Q a W1) : c.wp Try.prog Q a W := h W hO
theorem num_load_run {o : Oper} {a : Act} {w0 W : World} {l : NB} (x : Operand) (ho : o.op = .load 84 x) (hO : Own w0 W l) (i : Nat) {g m : Nat} {s : Bool} (hi : l[i]? = some (g, m, s)) (hx : a.eval x = .pointer (some ⟨g, 0, none⟩)) :
    (execOp a.eval o).run Try.prog W = .ok (.value (.agg (numC m s))) W := by
  unfold execOp
  simp only [ho, hx, Instr.loadAt, Instr.sureAddr, Sem.run_bind, Sem.run_pure, Result.andThen_ok, run_loadVar_row W g 84 84 (numC m s) (0, 0) _ (hO.blk i hi) Try.underlying84 rfl (sizeNum _ _)]
theorem num_store_wp {o : Oper} {a : Act} {K : Act → World → Prop} {Q : Exit → Act → World → Prop} {w0 W : World} {l : NB} (x y : Operand) (ho : o.op = .store 84 x y) (hO : Own w0 W l) (i : Nat) {g m m' : Nat} {s s' : Bool} (hi : l[i]? = some (g, m, s)) (hx : a.eval x = .pointer (some ⟨g, 0, none⟩)) (hy : a.eval y = .agg (numC m' s'))
    (h : ∀ W1, Own w0 W1 (l.set i (g, m', s')) → K (a.put o.dst undef) W1) : o.wp Try.prog a W K Q :=
  wp_store_row 84 x y ho g (numC m' s') hx hy 84 (numC m s) (hO.blk i hi) (sizeNum _ _) (by rw [numC_size, numC_size]) (numC_one _ _)
    (h _ (hO.put i hi (setRow_heap _ _ _ _ _ _ (hO.blk i hi)) (num_setRow hO.1 (hO.2.1 i _ hi).1 _) (fun k hk => setRow_other _ _ _ _ hk)))
theorem Own.drew {w0 W : World} {l : NB} (h : Own w0 W l) : Own w0 W.drew l := h.call (below_drew (Below.refl _ _))
theorem num_result2 {fn : Func} {p q : Tmp} (hf : fn.results = #[.cell p 84, .cell q 84]) {w0 W : World} {l : NB} (hO : Own w0 W l) (i j : Nat) {g g' m m' : Nat} {s s' : Bool} (hi : l[i]? = some (g, m, s)) (hj : l[j]? = some (g', m', s')) (tmps : Array Value) (hp : tmps.getD p undef = .pointer (some ⟨g, 0, none⟩)) (hq : tmps.getD q undef = .pointer (some ⟨g', 0, none⟩)) :
    (results fn tmps).run Try.prog W = .ok (.tuple #[.agg (numC m s), .agg (numC m' s')]) W := by
  have hp' : tmps[p]?.getD undef = .pointer (some ⟨g, 0, none⟩) := by simpa using hp
  have hq' : tmps[q]?.getD undef = .pointer (some ⟨g', 0, none⟩) := by simpa using hq
  simp [results, hf, hp', hq', asAddr, run_loadVar_row W g 84 84 (numC m s) (0, 0) _ (hO.blk i hi) Try.underlying84 rfl (sizeNum _ _), run_loadVar_row W g' 84 84 (numC m' s') (0, 0) _ (hO.blk j hj) Try.underlying84 rfl (sizeNum _ _)]
theorem num_result {fn : Func} {p : Tmp} (hf : fn.results = #[.cell p 84]) {w0 W : World} {l : NB} (hO : Own w0 W l) (i : Nat) {g m : Nat} {s : Bool} (hi : l[i]? = some (g, m, s)) (tmps : Array Value) (hp : tmps.getD p undef = .pointer (some ⟨g, 0, none⟩)) :
    (results fn tmps).run Try.prog W = .ok (.agg (numC m s)) W := results_cell_row hf tmps W g 84 (numC m s) (0, 0) _ hp (hO.blk i hi) Try.underlying84 rfl (sizeNum _ _)
set_option maxHeartbeats 8000000 in
set_option maxRecDepth 100000 in
theorem num_nought (m : Nat) (g : Bool) (hm : m < 2 ^ 136) (w : World) :
    Calls Try.prog 63 #[.agg (numC m g)] w fun e w' => e = .returned (.bool (decide (m = 0))) ∧ Below w.heap.size w w' := by
  have HB := Aside0.mk (below_alloc (Below.refl w.heap.size w) (.cells (numC m g) 84))
  have BK := Aside0.mk (blk_new w (.cells (numC m g) 84))
  have HM := Aside0.mk hm
  clear hm
  go_enter Try.func63, Try.ntmps63
  go_wp2
  go_loopg [3] 136 (fun kq v3 wr => ∃ k : Nat, v3 = .int .i64 k ∧ Aside0 (k + kq = 136) ∧ Aside0 (m % 2 ^ k = 0) ∧ Aside0 (wr = w.alloc (.cells (numC m g) 84)))
  case atStart => exact ⟨0, rfl, ⟨rfl⟩, ⟨Nat.mod_one m⟩, ⟨rfl⟩⟩
  case round =>
    obtain ⟨k, rfl, HK, HA, HW⟩ := hrel
    obtain rfl := HW.out
    by_cases hk : k < 136
    · have hd : decide ((k : Int) < 136) = true := decide_eq_true (by omega)
      have hcell := (blk_cell BK.out k).trans (numC_bit m g hk)
      have h2 := Nat.mod_pow_succ (b := 2) (k := k) (x := m)
      cases hb : m.testBit k with
      | true =>
        rw [hb] at hcell
        have HN : Aside0 (decide (m = 0) = false) := ⟨decide_eq_false (fun e => by subst e; simp at hb)⟩
        clear hb h2
        go_wp2
        go_ret
        exact ⟨by rw [HN.out]; rfl, HB.out⟩
      | false =>
        rw [hb] at hcell
        have HN : Aside0 (m % 2 ^ (k + 1) = 0) := ⟨by
          rw [Nat.testBit_eq_decide_div_mod_eq] at hb
          have := HA.out
          have hb2 : m / 2 ^ k % 2 = 0 := by have := Nat.mod_two_eq_zero_or_one (m / 2 ^ k); simp at hb; omega
          rw [h2, this, hb2]; simp⟩
        clear hb h2
        go_wp2
        go_roundg (gk - 1)
        case measure => have := HK.out; omega
        case rel => exact ⟨k + 1, by go_num, ⟨by have := HK.out; omega⟩, HN, ⟨rfl⟩⟩
    · have hd : decide ((k : Int) < 136) = false := decide_eq_false (by omega)
      have HN : Aside0 (decide (m = 0) = true) := ⟨decide_eq_true (by
        have h1 := HA.out
        rwa [Nat.mod_eq_of_lt (Nat.lt_of_lt_of_le HM.out (Nat.pow_le_pow_right (by decide) (by omega)))] at h1)⟩
      go_wp2
      go_ret
      exact ⟨by rw [HN.out]; rfl, HB.out⟩

/-! ### jobberref01_twice: function 64 (by hand; for other hand texts alone) -/
theorem tw_bit (a j : Nat) : (2 * a).testBit (j + 1) = a.testBit j := by
  rw [Nat.testBit_succ]; congr 1; omega
theorem tw_zero (a : Nat) : (2 * a).testBit 0 = false := by simp
/-- filled from above: places above i are b's, the others a's -/
def Down (V a b i : Nat) : Prop := ∀ j, j < 136 → V.testBit j = if i < j then b.testBit j else a.testBit j
theorem Down.start (a b : Nat) : Down a a b 135 := fun j hj => by rw [if_neg (by omega)]
theorem Down.step {V a b i : Nat} {c : Bool} (h : Down V a b (i + 1)) (hb : b.testBit (i + 1) = c) : Down (setb V (i + 1) c) a b i := by
  intro j hj
  rw [tb_setb, h j hj]
  by_cases e : j = i + 1
  · subst e; rw [if_pos rfl, if_pos (by omega), hb]
  · rw [if_neg e]
    by_cases e2 : i + 1 < j
    · rw [if_pos e2, if_pos (by omega)]
    · rw [if_neg e2, if_neg (by omega)]
theorem Down.done {V a b : Nat} {g : Bool} (h : Down V a b 0) (hb : b.testBit 0 = false) : numC (setb V 0 false) g = numC b g := numC_congr fun j hj => by
  rw [tb_setb, h j hj]
  by_cases e : j = 0
  · subst e; rw [if_pos rfl, hb]
  · rw [if_neg e, if_pos (by omega)]
set_option maxHeartbeats 8000000 in
set_option maxRecDepth 100000 in
theorem num_twice (a : Nat) (ga : Bool) (w : World) :
    Calls Try.prog 64 #[.agg (numC a ga)] w fun e w' => e = .returned (.agg (numC (2 * a) ga)) ∧ Below w.heap.size w w' := by
  have HO : Aside0 (Own w w []) := ⟨Own.start w⟩
  go_enter Try.func64, Try.ntmps64
  go_wp2_with (first | ((with_reducible refine gate_dst (N := 1) rfl ?_); refine num_new ?hg (N := 1) ?hd (cs := numC a ga) HO.out a ga ?hc ?hr ?_; (case hc => first | rfl | exact zcNum); (case hd => rfl); (case hg => rfl); (case hr => first | (go_simp; done) | (go_simp; rfl)); intro gA w1 hO_; have n0_ : Aside0 (Own w w1 [(gA, a, ga)]) := ⟨hO_⟩; clear HO hO_; have HO := n0_; clear n0_) | ((with_reducible refine gate_dst (N := 2) rfl ?_); refine num_new ?hg (N := 2) ?hd (cs := Try.zeroCells84) HO.out 0 false ?hc ?hr ?_; (case hc => first | rfl | exact zcNum); (case hd => rfl); (case hg => rfl); (case hr => first | (go_simp; done) | (go_simp; rfl)); intro gR w2 hO_; have n0_ : Aside0 (Own w w2 [(gA, a, ga), (gR, 0, false)]) := ⟨hO_⟩; clear HO hO_; have HO := n0_; clear n0_) | ((with_reducible refine gate_dst (N := 5) rfl ?_); refine num_load ?hg (N := 5) ?hd (.tmp 1) ?ho HO.out 0 (g := gA) (m := a) (s := ga) ?hi ?hx ?_; (case hd => rfl); (case hg => rfl); (case ho => rfl); (case hi => rfl); (case hx => rfl)) | ((with_reducible refine gate_dst (N := 3) rfl ?_); refine num_new ?hg (N := 3) ?hd (cs := Try.zeroCells84) HO.out 0 false ?hc ?hr ?_; (case hc => first | rfl | exact zcNum); (case hd => rfl); (case hg => rfl); (case hr => first | (go_simp; done) | (go_simp; rfl)); intro gN w3 hO_; have n0_ : Aside0 (Own w w3 [(gA, a, ga), (gR, 0, false), (gN, 0, false)]) := ⟨hO_⟩; clear HO hO_; have HO := n0_; clear n0_) | ((with_reducible refine gate_store (t := 84) (p := 3) (v := .tmp 5) rfl ?_); refine num_store ?hg (.tmp 3) (.tmp 5) ?ho HO.out 2 (g := gN) (m := 0) (s := false) (m' := a) (s' := ga) ?hi ?hx ?hy ?_; (case hg => rfl); (case ho => rfl); (case hi => rfl); (case hx => rfl); (case hy => rfl); intro w4 hO_; have n0_ : Aside0 (Own w w4 [(gA, a, ga), (gR, 0, false), (gN, a, ga)]) := ⟨hO_⟩; clear HO hO_; have HO := n0_; clear n0_))
  go_loopg [4] 135 (fun kq v4 wr => ∃ (i : Int) (V : Nat), v4 = .int .i64 i ∧ Aside0 (i = kq) ∧ Aside0 (kq ≤ 135) ∧ Aside0 (Down V a (2 * a) kq) ∧ Aside0 (Own w wr [(gA, a, ga), (gR, 0, false), (gN, V, ga)]))
  case atStart => exact ⟨135, a, rfl, ⟨rfl⟩, ⟨Nat.le_refl _⟩, ⟨Down.start _ _⟩, HO⟩
  case round =>
    clear HO
    obtain ⟨i, V, rfl, HI, HK, HV, HO⟩ := hrel
    cases gk with
    | zero =>
      obtain rfl : i = 0 := HI.out
      have zc_ := HO.out.cell 2 0 rfl (by omega)
      have zf_ := HO.out.free 2 0 rfl
      have HEQ := Aside0.mk (HV.out.done (g := ga) (tw_zero a))
      go_upto_region 7 with (fail)
      refine num_abs (w0 := w) (l := [(gA, a, ga), (gR, 0, false), (gN, setb V 0 false, ga)]) (HO.out.bit 2 0 rfl (by omega) false) ?_
      intro w8 hO_
      clear HO
      have HO := Aside0.mk hO_
      clear hO_
      clear zc_ zf_
      go_wp2_with (first | ((with_reducible refine gate_dst (N := 20) rfl ?_); refine num_load ?hg (N := 20) ?hd (.tmp 3) ?ho HO.out 2 (g := gN) (m := setb V 0 false) (s := ga) ?hi ?hx ?_; (case hd => rfl); (case hg => rfl); (case ho => rfl); (case hi => rfl); (case hx => rfl)) | ((with_reducible refine gate_store (t := 84) (p := 2) (v := .tmp 20) rfl ?_); refine num_store ?hg (.tmp 2) (.tmp 20) ?ho HO.out 1 (g := gR) (m := 0) (s := false) (m' := (setb V 0 false)) (s' := ga) ?hi ?hx ?hy ?_; (case hg => rfl); (case ho => rfl); (case hi => rfl); (case hx => rfl); (case hy => rfl); intro w9 hO_; have n0_ : Aside0 (Own w w9 [(gA, a, ga), (gR, (setb V 0 false), ga), (gN, setb V 0 false, ga)]) := ⟨hO_⟩; clear HO hO_; have HO := n0_; clear n0_))
      exact bodyPost_ret (num_result rfl HO.out 1 rfl _ rfl) rfl ⟨by rw [HEQ.out], HO.out.below⟩
    | succ k =>
      have hi1 : 0 < i := by have := HI.out; omega
      have hd : decide (0 < i) = true := decide_eq_true hi1
      have hw : wrap64 (i - 1) = i - 1 := by have := HI.out; have := HK.out; unfold wrap64; omega
      have hi2 : i - 1 = (k : Int) := by have := HI.out; omega
      have hk3 : (0 : Int) ≤ (k : Int) ∧ (k : Int) < 136 := by have := HK.out; omega
      have hk4 : (0 : Int) ≤ i ∧ i < 136 := by have := HI.out; have := HK.out; omega
      have hk5 : i.toNat = k + 1 := by have := HI.out; omega
      have hk1 : k < 136 := by have := HK.out; omega
      have HKK : Aside0 (k + 1 < 136) := ⟨by have := HK.out; omega⟩
      have zA := HO.out.cell 0 k rfl hk1
      have zc_ := HO.out.cell 2 (k + 1) rfl HKK.out
      have zf_ := HO.out.free 2 (k + 1) rfl
      have HS := Aside0.mk (fun c h => HV.out.step (c := c) h)
      have hb := tw_bit a k
      cases hxa : a.testBit k
      all_goals
        rw [hxa] at zA hb
        have HSS := Aside0.mk (HS.out _ hb)
        clear hb hxa HS
        obtain ⟨p1, p2⟩ := hk3
        obtain ⟨p3, p4⟩ := hk4
        go_wp2
        go_roundg k
        case measure => omega
        case rel => exact ⟨(k : Int), _, rfl, ⟨rfl⟩, ⟨by have := HK.out; omega⟩, HSS, ⟨HO.out.bit 2 (k + 1) rfl HKK.out _⟩⟩

/-! ### jobberref01_more: function 66 (by hand; for other hand texts alone) -/
set_option maxHeartbeats 8000000 in
set_option maxRecDepth 100000 in
theorem num_more (a b : Nat) (ga gb : Bool) (w : World) :
    Calls Try.prog 66 #[.agg (numC a ga), .agg (numC b gb)] w fun e w' => e = .returned (.agg (numC (a + b) false)) ∧ Below w.heap.size w w' := by
  have HO : Aside0 (Own w w []) := ⟨Own.start w⟩
  go_enter Try.func66, Try.ntmps66
  go_wp2_with (first | ((with_reducible refine gate_dst (N := 2) rfl ?_); refine num_new ?hg (N := 2) ?hd (cs := numC a ga) HO.out a ga ?hc ?hr ?_; (case hc => first | rfl | exact zcNum); (case hd => rfl); (case hg => rfl); (case hr => first | (go_simp; done) | (go_simp; rfl)); intro gA w1 hO_; have n0_ : Aside0 (Own w w1 [(gA, a, ga)]) := ⟨hO_⟩; clear HO hO_; have HO := n0_; clear n0_) | ((with_reducible refine gate_dst (N := 3) rfl ?_); refine num_new ?hg (N := 3) ?hd (cs := numC b gb) HO.out b gb ?hc ?hr ?_; (case hc => first | rfl | exact zcNum); (case hd => rfl); (case hg => rfl); (case hr => first | (go_simp; done) | (go_simp; rfl)); intro gB w2 hO_; have n0_ : Aside0 (Own w w2 [(gA, a, ga), (gB, b, gb)]) := ⟨hO_⟩; clear HO hO_; have HO := n0_; clear n0_) | ((with_reducible refine gate_dst (N := 4) rfl ?_); refine num_new ?hg (N := 4) ?hd (cs := Try.zeroCells84) HO.out 0 false ?hc ?hr ?_; (case hc => first | rfl | exact zcNum); (case hd => rfl); (case hg => rfl); (case hr => first | (go_simp; done) | (go_simp; rfl)); intro gR w3 hO_; have n0_ : Aside0 (Own w w3 [(gA, a, ga), (gB, b, gb), (gR, 0, false)]) := ⟨hO_⟩; clear HO hO_; have HO := n0_; clear n0_) | ((with_reducible refine gate_dst (N := 5) rfl ?_); refine num_new ?hg (N := 5) ?hd (cs := Try.zeroCells84) HO.out 0 false ?hc ?hr ?_; (case hc => first | rfl | exact zcNum); (case hd => rfl); (case hg => rfl); (case hr => first | (go_simp; done) | (go_simp; rfl)); intro gN w4 hO_; have n0_ : Aside0 (Own w w4 [(gA, a, ga), (gB, b, gb), (gR, 0, false), (gN, 0, false)]) := ⟨hO_⟩; clear HO hO_; have HO := n0_; clear n0_))
  go_loopg [6, 7] 136 (fun kq v6 v7 wr => ∃ (k : Nat) (c : Bool) (V : Nat), v7 = .int .i64 k ∧ v6 = .bool c ∧ Aside0 (k + kq = 136) ∧ Aside0 (c = car a b k) ∧ Aside0 (Upto V (a + b) k) ∧ Aside0 (Own w wr [(gA, a, ga), (gB, b, gb), (gR, 0, false), (gN, V, false)]))
  case atStart => exact ⟨0, false, 0, rfl, rfl, ⟨rfl⟩, ⟨by simp [car, Nat.mod_one]⟩, ⟨Upto.zero _⟩, HO⟩
  case round =>
    clear HO
    obtain ⟨k, c, V, rfl, rfl, HK, HC, HV, HO⟩ := hrel
    by_cases hk : k < 136
    · have hd : decide ((k : Int) < 136) = true := decide_eq_true (by omega)
      have hca := HO.out.cell 0 k rfl hk
      have hcb := HO.out.cell 1 k rfl hk
      have hcn := HO.out.cell 3 k rfl hk
      have hfn := HO.out.free 3 k rfl
      have HKK := Aside0.mk hk
      have hs := add_tb a b k
      have hc := car_tb a b k
      rw [← HC.out] at hs hc
      cases hxa : a.testBit k <;> cases hxb : b.testBit k <;> cases c <;> rw [hxa] at hca hs hc <;> rw [hxb] at hcb hs hc
      all_goals
        simp at hs hc
        have HS := Aside0.mk hs
        have HC' := Aside0.mk hc
        clear hs hc hxa hxb
        go_wp2
        go_roundg (gk - 1)
        case measure => have := HK.out; omega
        case rel => exact ⟨k + 1, _, _, by go_num, rfl, ⟨by have := HK.out; omega⟩, ⟨HC'.out.symm⟩, ⟨HV.out.step HS.out⟩, ⟨HO.out.bit 3 k rfl HKK.out _⟩⟩
    · have hd : decide ((k : Int) < 136) = false := decide_eq_false (by omega)
      have HEQ := Aside0.mk (HV.out.done (g := false) (by omega))
      go_wp2_with (first | ((with_reducible refine gate_dst (N := 36) rfl ?_); refine num_load ?hg (N := 36) ?hd (.tmp 5) ?ho HO.out 3 (g := gN) (m := V) (s := false) ?hi ?hx ?_; (case hd => rfl); (case hg => rfl); (case ho => rfl); (case hi => rfl); (case hx => rfl)) | ((with_reducible refine gate_store (t := 84) (p := 4) (v := .tmp 36) rfl ?_); refine num_store ?hg (.tmp 4) (.tmp 36) ?ho HO.out 2 (g := gR) (m := 0) (s := false) (m' := V) (s' := false) ?hi ?hx ?hy ?_; (case hg => rfl); (case ho => rfl); (case hi => rfl); (case hx => rfl); (case hy => rfl); intro w9 hO_; have n0_ : Aside0 (Own w w9 [(gA, a, ga), (gB, b, gb), (gR, V, false), (gN, V, false)]) := ⟨hO_⟩; clear HO hO_; have HO := n0_; clear n0_))
      exact bodyPost_ret (num_result rfl HO.out 2 rfl _ rfl) rfl ⟨by rw [HEQ.out], HO.out.below⟩

end Go.Proofs.Ythaaghkplbbgdaa.Feb
