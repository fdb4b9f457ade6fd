/- Printed by this session's wip/drive.py over the translation; some functions by hand. -/
import Derived.Test.YtjjnbcaemognhaaZClrx0
import Derived.Test.YtjjnbcaemognhaaZClrx2
import Derived.Test.YtjjnbcaemognhaaZClrx4
namespace Go.Proofs.Ytjjnbcaemognhaa.Clr
open Go.RowKit Go.Proofs.YtjjnbcaemognhaaW.PrintWords Go.Proofs.YtjjnbcaemognhaaW.PrintLast Go.Proofs.YtjjnbcaemognhaaW.PrintMore
attribute [local go_sem] max2_int min2_int max_two min_two max_three min_three max_four min_four
set_option linter.unusedVariables false
set_option linter.unusedSimpArgs false
def order_Good.f (a0_0 : Int) (a0_1 : Int) (a0_2 : Int) (a0_3 : Int) (a0_4 : Int) (a0_5 : Int) : Option (Bool) := if a0_1 ≥ 0 then (if a0_1 < 8 then (if a0_2 = 1 then (if a0_3 ≥ 1 then (if a0_3 ≤ 1099511627776 then (if a0_4 ≥ 1 then (some (decide (a0_4 ≤ 1099511627776))) else (some false)) else (some false)) else (some false)) else (if a0_2 = 2 then (if a0_3 ≥ 1 then (if a0_3 ≤ 1099511627776 then (if a0_4 ≥ 1 then (some (decide (a0_4 ≤ 1099511627776))) else (some false)) else (some false)) else (some false)) else (some false))) else (some false)) else (some false)
set_option maxHeartbeats 8000000 in
set_option maxRecDepth 100000 in
theorem order_Good.calls (a0_0 : Int) (a0_1 : Int) (a0_2 : Int) (a0_3 : Int) (a0_4 : Int) (a0_5 : Int) (r : Bool) (w : World) (h : order_Good.f a0_0 a0_1 a0_2 a0_3 a0_4 a0_5 = some r) :
    Calls Try.prog 29 #[.agg #[.int .u64 a0_0, .int .i64 a0_1, .int .i64 a0_2, .int .i64 a0_3, .int .i64 a0_4, .int .u64 a0_5]] w fun e w' => e = .returned (.bool r) ∧ Below w.heap.size w w' := by
  have hu42 := Try.underlying42
  have HB := Aside0.mk (Below.refl w.heap.size w)
  have H : (if a0_1 ≥ 0 then (if a0_1 < 8 then (if a0_2 = 1 then (if a0_3 ≥ 1 then (if a0_3 ≤ 1099511627776 then (if a0_4 ≥ 1 then (some (decide (a0_4 ≤ 1099511627776))) else (some false)) else (some false)) else (some false)) else (if a0_2 = 2 then (if a0_3 ≥ 1 then (if a0_3 ≤ 1099511627776 then (if a0_4 ≥ 1 then (some (decide (a0_4 ≤ 1099511627776))) else (some false)) else (some false)) else (some false)) else (some false))) else (some false)) else (some false)) = some r := h
  clear h
  by_cases c2 : a0_1 ≥ 0
  · rw [if_pos c2] at H
    have c2b0 : decide (0 ≤ a0_1) = true := decide_eq_true c2
    clear c2
    by_cases c3 : a0_1 < 8
    · rw [if_pos c3] at H
      have c3b0 : decide (a0_1 < 8) = true := decide_eq_true c3
      clear c3
      by_cases c4 : a0_2 = 1
      · rw [if_pos c4] at H
        have c4b0 : (a0_2 == 1) = true := beq_iff_eq.mpr c4
        have c4b1 : (a0_2 != 1) = false := bne_eq_false_iff_eq.mpr c4
        clear c4
        by_cases c5 : a0_3 ≥ 1
        · rw [if_pos c5] at H
          have c5b0 : decide (1 ≤ a0_3) = true := decide_eq_true c5
          clear c5
          by_cases c6 : a0_3 ≤ 1099511627776
          · rw [if_pos c6] at H
            have c6b0 : decide (a0_3 ≤ 1099511627776) = true := decide_eq_true c6
            clear c6
            by_cases c7 : a0_4 ≥ 1
            · rw [if_pos c7] at H
              have c7b0 : decide (1 ≤ a0_4) = true := decide_eq_true c7
              clear c7
              obtain rfl := Option.some.inj H
              go_enter Try.func29, Try.ntmps29
              go_wp2_with (first | ((with_reducible refine gate_dst (N := 1) rfl ?_); refine box_event ?hg (N := 1) ?hd (cs := #[.int .u64 a0_0, .int .i64 a0_1, .int .i64 a0_2, .int .i64 a0_3, .int .i64 a0_4, .int .u64 a0_5]) (t := 42) ?hr ?_; (case hd => rfl); (case hg => rfl); (case hr => first | (go_simp; done) | (go_simp; rfl)); intro gb126 hg w8 hbox hb; have n0_ := Aside0.mk (below_step (by repeat (first | (with_reducible first | exact HB.out | apply below_alloc | apply pw_below_drewN | apply below_drew1) | exact HB.out)) hb); have n1_ := Aside0.mk (hbox); have n2_ := Aside0.mk ((by rw [hg]; exact (below_size (by repeat (first | (with_reducible first | exact HB.out | apply below_alloc | apply pw_below_drewN | apply below_drew1) | exact HB.out))) : w.heap.size ≤ gb126)); have n3_ := Aside0.mk ((by rw [hg]; exact (below_size (by repeat (first | (with_reducible first | exact HB.out | apply below_alloc | apply pw_below_drewN | apply below_drew1) | exact HB.out))) : w.heap.size ≤ gb126)); clear HB; have HB := n0_; have BK126 := n1_; have GW126 := n2_; have GE126 := n3_; clear n0_ n1_ n2_ n3_; clear hb hbox hg; have hcz9_0 : w8.cell? ⟨gb126, 0, none⟩ = some (.int .u64 a0_0) := (blk_cell BK126.out 0).trans rfl; have hcz9_1 : w8.cell? ⟨gb126, 1, none⟩ = some (.int .i64 a0_1) := (blk_cell BK126.out 1).trans rfl; have hcz9_2 : w8.cell? ⟨gb126, 2, none⟩ = some (.int .i64 a0_2) := (blk_cell BK126.out 2).trans rfl; have hcz9_3 : w8.cell? ⟨gb126, 3, none⟩ = some (.int .i64 a0_3) := (blk_cell BK126.out 3).trans rfl; have hcz9_4 : w8.cell? ⟨gb126, 4, none⟩ = some (.int .i64 a0_4) := (blk_cell BK126.out 4).trans rfl; have hcz9_5 : w8.cell? ⟨gb126, 5, none⟩ = some (.int .u64 a0_5) := (blk_cell BK126.out 5).trans rfl; have hfz9_0 := blk_frozen BK126.out 0; have hfz9_1 := blk_frozen BK126.out 1; have hfz9_2 := blk_frozen BK126.out 2; have hfz9_3 := blk_frozen BK126.out 3; have hfz9_4 := blk_frozen BK126.out 4; have hfz9_5 := blk_frozen BK126.out 5))
              go_ret
              exact ⟨by first | rfl | (simp [errW_none, errW_some] <;> rfl) | (simp [*, errW_none, errW_some] <;> rfl), by repeat (first | (with_reducible first | exact HB.out | apply below_alloc | apply pw_below_drewN | apply below_drew1 | refine below_set ?_ GE126.out) | exact HB.out)⟩
            · rw [if_neg c7] at H
              have c7b0 : decide (1 ≤ a0_4) = false := decide_eq_false c7
              clear c7
              obtain rfl := Option.some.inj H
              go_enter Try.func29, Try.ntmps29
              go_wp2_with (first | ((with_reducible refine gate_dst (N := 1) rfl ?_); refine box_event ?hg (N := 1) ?hd (cs := #[.int .u64 a0_0, .int .i64 a0_1, .int .i64 a0_2, .int .i64 a0_3, .int .i64 a0_4, .int .u64 a0_5]) (t := 42) ?hr ?_; (case hd => rfl); (case hg => rfl); (case hr => first | (go_simp; done) | (go_simp; rfl)); intro gb126 hg w10 hbox hb; have n0_ := Aside0.mk (below_step (by repeat (first | (with_reducible first | exact HB.out | apply below_alloc | apply pw_below_drewN | apply below_drew1) | exact HB.out)) hb); have n1_ := Aside0.mk (hbox); have n2_ := Aside0.mk ((by rw [hg]; exact (below_size (by repeat (first | (with_reducible first | exact HB.out | apply below_alloc | apply pw_below_drewN | apply below_drew1) | exact HB.out))) : w.heap.size ≤ gb126)); have n3_ := Aside0.mk ((by rw [hg]; exact (below_size (by repeat (first | (with_reducible first | exact HB.out | apply below_alloc | apply pw_below_drewN | apply below_drew1) | exact HB.out))) : w.heap.size ≤ gb126)); clear HB; have HB := n0_; have BK126 := n1_; have GW126 := n2_; have GE126 := n3_; clear n0_ n1_ n2_ n3_; clear hb hbox hg; have hcz11_0 : w10.cell? ⟨gb126, 0, none⟩ = some (.int .u64 a0_0) := (blk_cell BK126.out 0).trans rfl; have hcz11_1 : w10.cell? ⟨gb126, 1, none⟩ = some (.int .i64 a0_1) := (blk_cell BK126.out 1).trans rfl; have hcz11_2 : w10.cell? ⟨gb126, 2, none⟩ = some (.int .i64 a0_2) := (blk_cell BK126.out 2).trans rfl; have hcz11_3 : w10.cell? ⟨gb126, 3, none⟩ = some (.int .i64 a0_3) := (blk_cell BK126.out 3).trans rfl; have hcz11_4 : w10.cell? ⟨gb126, 4, none⟩ = some (.int .i64 a0_4) := (blk_cell BK126.out 4).trans rfl; have hcz11_5 : w10.cell? ⟨gb126, 5, none⟩ = some (.int .u64 a0_5) := (blk_cell BK126.out 5).trans rfl; have hfz11_0 := blk_frozen BK126.out 0; have hfz11_1 := blk_frozen BK126.out 1; have hfz11_2 := blk_frozen BK126.out 2; have hfz11_3 := blk_frozen BK126.out 3; have hfz11_4 := blk_frozen BK126.out 4; have hfz11_5 := blk_frozen BK126.out 5))
              go_ret
              exact ⟨by first | rfl | (simp [errW_none, errW_some] <;> rfl) | (simp [*, errW_none, errW_some] <;> rfl), by repeat (first | (with_reducible first | exact HB.out | apply below_alloc | apply pw_below_drewN | apply below_drew1 | refine below_set ?_ GE126.out) | exact HB.out)⟩
          · rw [if_neg c6] at H
            have c6b0 : decide (a0_3 ≤ 1099511627776) = false := decide_eq_false c6
            clear c6
            obtain rfl := Option.some.inj H
            go_enter Try.func29, Try.ntmps29
            go_wp2_with (first | ((with_reducible refine gate_dst (N := 1) rfl ?_); refine box_event ?hg (N := 1) ?hd (cs := #[.int .u64 a0_0, .int .i64 a0_1, .int .i64 a0_2, .int .i64 a0_3, .int .i64 a0_4, .int .u64 a0_5]) (t := 42) ?hr ?_; (case hd => rfl); (case hg => rfl); (case hr => first | (go_simp; done) | (go_simp; rfl)); intro gb126 hg w12 hbox hb; have n0_ := Aside0.mk (below_step (by repeat (first | (with_reducible first | exact HB.out | apply below_alloc | apply pw_below_drewN | apply below_drew1) | exact HB.out)) hb); have n1_ := Aside0.mk (hbox); have n2_ := Aside0.mk ((by rw [hg]; exact (below_size (by repeat (first | (with_reducible first | exact HB.out | apply below_alloc | apply pw_below_drewN | apply below_drew1) | exact HB.out))) : w.heap.size ≤ gb126)); have n3_ := Aside0.mk ((by rw [hg]; exact (below_size (by repeat (first | (with_reducible first | exact HB.out | apply below_alloc | apply pw_below_drewN | apply below_drew1) | exact HB.out))) : w.heap.size ≤ gb126)); clear HB; have HB := n0_; have BK126 := n1_; have GW126 := n2_; have GE126 := n3_; clear n0_ n1_ n2_ n3_; clear hb hbox hg; have hcz13_0 : w12.cell? ⟨gb126, 0, none⟩ = some (.int .u64 a0_0) := (blk_cell BK126.out 0).trans rfl; have hcz13_1 : w12.cell? ⟨gb126, 1, none⟩ = some (.int .i64 a0_1) := (blk_cell BK126.out 1).trans rfl; have hcz13_2 : w12.cell? ⟨gb126, 2, none⟩ = some (.int .i64 a0_2) := (blk_cell BK126.out 2).trans rfl; have hcz13_3 : w12.cell? ⟨gb126, 3, none⟩ = some (.int .i64 a0_3) := (blk_cell BK126.out 3).trans rfl; have hcz13_4 : w12.cell? ⟨gb126, 4, none⟩ = some (.int .i64 a0_4) := (blk_cell BK126.out 4).trans rfl; have hcz13_5 : w12.cell? ⟨gb126, 5, none⟩ = some (.int .u64 a0_5) := (blk_cell BK126.out 5).trans rfl; have hfz13_0 := blk_frozen BK126.out 0; have hfz13_1 := blk_frozen BK126.out 1; have hfz13_2 := blk_frozen BK126.out 2; have hfz13_3 := blk_frozen BK126.out 3; have hfz13_4 := blk_frozen BK126.out 4; have hfz13_5 := blk_frozen BK126.out 5))
            go_ret
            exact ⟨by first | rfl | (simp [errW_none, errW_some] <;> rfl) | (simp [*, errW_none, errW_some] <;> rfl), by repeat (first | (with_reducible first | exact HB.out | apply below_alloc | apply pw_below_drewN | apply below_drew1 | refine below_set ?_ GE126.out) | exact HB.out)⟩
        · rw [if_neg c5] at H
          have c5b0 : decide (1 ≤ a0_3) = false := decide_eq_false c5
          clear c5
          obtain rfl := Option.some.inj H
          go_enter Try.func29, Try.ntmps29
          go_wp2_with (first | ((with_reducible refine gate_dst (N := 1) rfl ?_); refine box_event ?hg (N := 1) ?hd (cs := #[.int .u64 a0_0, .int .i64 a0_1, .int .i64 a0_2, .int .i64 a0_3, .int .i64 a0_4, .int .u64 a0_5]) (t := 42) ?hr ?_; (case hd => rfl); (case hg => rfl); (case hr => first | (go_simp; done) | (go_simp; rfl)); intro gb126 hg w14 hbox hb; have n0_ := Aside0.mk (below_step (by repeat (first | (with_reducible first | exact HB.out | apply below_alloc | apply pw_below_drewN | apply below_drew1) | exact HB.out)) hb); have n1_ := Aside0.mk (hbox); have n2_ := Aside0.mk ((by rw [hg]; exact (below_size (by repeat (first | (with_reducible first | exact HB.out | apply below_alloc | apply pw_below_drewN | apply below_drew1) | exact HB.out))) : w.heap.size ≤ gb126)); have n3_ := Aside0.mk ((by rw [hg]; exact (below_size (by repeat (first | (with_reducible first | exact HB.out | apply below_alloc | apply pw_below_drewN | apply below_drew1) | exact HB.out))) : w.heap.size ≤ gb126)); clear HB; have HB := n0_; have BK126 := n1_; have GW126 := n2_; have GE126 := n3_; clear n0_ n1_ n2_ n3_; clear hb hbox hg; have hcz15_0 : w14.cell? ⟨gb126, 0, none⟩ = some (.int .u64 a0_0) := (blk_cell BK126.out 0).trans rfl; have hcz15_1 : w14.cell? ⟨gb126, 1, none⟩ = some (.int .i64 a0_1) := (blk_cell BK126.out 1).trans rfl; have hcz15_2 : w14.cell? ⟨gb126, 2, none⟩ = some (.int .i64 a0_2) := (blk_cell BK126.out 2).trans rfl; have hcz15_3 : w14.cell? ⟨gb126, 3, none⟩ = some (.int .i64 a0_3) := (blk_cell BK126.out 3).trans rfl; have hcz15_4 : w14.cell? ⟨gb126, 4, none⟩ = some (.int .i64 a0_4) := (blk_cell BK126.out 4).trans rfl; have hcz15_5 : w14.cell? ⟨gb126, 5, none⟩ = some (.int .u64 a0_5) := (blk_cell BK126.out 5).trans rfl; have hfz15_0 := blk_frozen BK126.out 0; have hfz15_1 := blk_frozen BK126.out 1; have hfz15_2 := blk_frozen BK126.out 2; have hfz15_3 := blk_frozen BK126.out 3; have hfz15_4 := blk_frozen BK126.out 4; have hfz15_5 := blk_frozen BK126.out 5))
          go_ret
          exact ⟨by first | rfl | (simp [errW_none, errW_some] <;> rfl) | (simp [*, errW_none, errW_some] <;> rfl), by repeat (first | (with_reducible first | exact HB.out | apply below_alloc | apply pw_below_drewN | apply below_drew1 | refine below_set ?_ GE126.out) | exact HB.out)⟩
      · rw [if_neg c4] at H
        have c4b0 : (a0_2 == 1) = false := beq_eq_false_iff_ne.mpr c4
        have c4b1 : (a0_2 != 1) = true := bne_iff_ne.mpr c4
        by_cases c16 : a0_2 = 2
        · rw [if_pos c16] at H
          have c16b0 : (a0_2 == 2) = true := beq_iff_eq.mpr c16
          have c16b1 : (a0_2 != 2) = false := bne_eq_false_iff_eq.mpr c16
          clear c16
          by_cases c17 : a0_3 ≥ 1
          · rw [if_pos c17] at H
            have c17b0 : decide (1 ≤ a0_3) = true := decide_eq_true c17
            clear c17
            by_cases c18 : a0_3 ≤ 1099511627776
            · rw [if_pos c18] at H
              have c18b0 : decide (a0_3 ≤ 1099511627776) = true := decide_eq_true c18
              clear c18
              by_cases c19 : a0_4 ≥ 1
              · rw [if_pos c19] at H
                have c19b0 : decide (1 ≤ a0_4) = true := decide_eq_true c19
                clear c19
                obtain rfl := Option.some.inj H
                go_enter Try.func29, Try.ntmps29
                go_wp2_with (first | ((with_reducible refine gate_dst (N := 1) rfl ?_); refine box_event ?hg (N := 1) ?hd (cs := #[.int .u64 a0_0, .int .i64 a0_1, .int .i64 a0_2, .int .i64 a0_3, .int .i64 a0_4, .int .u64 a0_5]) (t := 42) ?hr ?_; (case hd => rfl); (case hg => rfl); (case hr => first | (go_simp; done) | (go_simp; rfl)); intro gb126 hg w20 hbox hb; have n0_ := Aside0.mk (below_step (by repeat (first | (with_reducible first | exact HB.out | apply below_alloc | apply pw_below_drewN | apply below_drew1) | exact HB.out)) hb); have n1_ := Aside0.mk (hbox); have n2_ := Aside0.mk ((by rw [hg]; exact (below_size (by repeat (first | (with_reducible first | exact HB.out | apply below_alloc | apply pw_below_drewN | apply below_drew1) | exact HB.out))) : w.heap.size ≤ gb126)); have n3_ := Aside0.mk ((by rw [hg]; exact (below_size (by repeat (first | (with_reducible first | exact HB.out | apply below_alloc | apply pw_below_drewN | apply below_drew1) | exact HB.out))) : w.heap.size ≤ gb126)); clear HB; have HB := n0_; have BK126 := n1_; have GW126 := n2_; have GE126 := n3_; clear n0_ n1_ n2_ n3_; clear hb hbox hg; have hcz21_0 : w20.cell? ⟨gb126, 0, none⟩ = some (.int .u64 a0_0) := (blk_cell BK126.out 0).trans rfl; have hcz21_1 : w20.cell? ⟨gb126, 1, none⟩ = some (.int .i64 a0_1) := (blk_cell BK126.out 1).trans rfl; have hcz21_2 : w20.cell? ⟨gb126, 2, none⟩ = some (.int .i64 a0_2) := (blk_cell BK126.out 2).trans rfl; have hcz21_3 : w20.cell? ⟨gb126, 3, none⟩ = some (.int .i64 a0_3) := (blk_cell BK126.out 3).trans rfl; have hcz21_4 : w20.cell? ⟨gb126, 4, none⟩ = some (.int .i64 a0_4) := (blk_cell BK126.out 4).trans rfl; have hcz21_5 : w20.cell? ⟨gb126, 5, none⟩ = some (.int .u64 a0_5) := (blk_cell BK126.out 5).trans rfl; have hfz21_0 := blk_frozen BK126.out 0; have hfz21_1 := blk_frozen BK126.out 1; have hfz21_2 := blk_frozen BK126.out 2; have hfz21_3 := blk_frozen BK126.out 3; have hfz21_4 := blk_frozen BK126.out 4; have hfz21_5 := blk_frozen BK126.out 5))
                go_ret
                exact ⟨by first | rfl | (simp [errW_none, errW_some] <;> rfl) | (simp [*, errW_none, errW_some] <;> rfl), by repeat (first | (with_reducible first | exact HB.out | apply below_alloc | apply pw_below_drewN | apply below_drew1 | refine below_set ?_ GE126.out) | exact HB.out)⟩
              · rw [if_neg c19] at H
                have c19b0 : decide (1 ≤ a0_4) = false := decide_eq_false c19
                clear c19
                obtain rfl := Option.some.inj H
                go_enter Try.func29, Try.ntmps29
                go_wp2_with (first | ((with_reducible refine gate_dst (N := 1) rfl ?_); refine box_event ?hg (N := 1) ?hd (cs := #[.int .u64 a0_0, .int .i64 a0_1, .int .i64 a0_2, .int .i64 a0_3, .int .i64 a0_4, .int .u64 a0_5]) (t := 42) ?hr ?_; (case hd => rfl); (case hg => rfl); (case hr => first | (go_simp; done) | (go_simp; rfl)); intro gb126 hg w22 hbox hb; have n0_ := Aside0.mk (below_step (by repeat (first | (with_reducible first | exact HB.out | apply below_alloc | apply pw_below_drewN | apply below_drew1) | exact HB.out)) hb); have n1_ := Aside0.mk (hbox); have n2_ := Aside0.mk ((by rw [hg]; exact (below_size (by repeat (first | (with_reducible first | exact HB.out | apply below_alloc | apply pw_below_drewN | apply below_drew1) | exact HB.out))) : w.heap.size ≤ gb126)); have n3_ := Aside0.mk ((by rw [hg]; exact (below_size (by repeat (first | (with_reducible first | exact HB.out | apply below_alloc | apply pw_below_drewN | apply below_drew1) | exact HB.out))) : w.heap.size ≤ gb126)); clear HB; have HB := n0_; have BK126 := n1_; have GW126 := n2_; have GE126 := n3_; clear n0_ n1_ n2_ n3_; clear hb hbox hg; have hcz23_0 : w22.cell? ⟨gb126, 0, none⟩ = some (.int .u64 a0_0) := (blk_cell BK126.out 0).trans rfl; have hcz23_1 : w22.cell? ⟨gb126, 1, none⟩ = some (.int .i64 a0_1) := (blk_cell BK126.out 1).trans rfl; have hcz23_2 : w22.cell? ⟨gb126, 2, none⟩ = some (.int .i64 a0_2) := (blk_cell BK126.out 2).trans rfl; have hcz23_3 : w22.cell? ⟨gb126, 3, none⟩ = some (.int .i64 a0_3) := (blk_cell BK126.out 3).trans rfl; have hcz23_4 : w22.cell? ⟨gb126, 4, none⟩ = some (.int .i64 a0_4) := (blk_cell BK126.out 4).trans rfl; have hcz23_5 : w22.cell? ⟨gb126, 5, none⟩ = some (.int .u64 a0_5) := (blk_cell BK126.out 5).trans rfl; have hfz23_0 := blk_frozen BK126.out 0; have hfz23_1 := blk_frozen BK126.out 1; have hfz23_2 := blk_frozen BK126.out 2; have hfz23_3 := blk_frozen BK126.out 3; have hfz23_4 := blk_frozen BK126.out 4; have hfz23_5 := blk_frozen BK126.out 5))
                go_ret
                exact ⟨by first | rfl | (simp [errW_none, errW_some] <;> rfl) | (simp [*, errW_none, errW_some] <;> rfl), by repeat (first | (with_reducible first | exact HB.out | apply below_alloc | apply pw_below_drewN | apply below_drew1 | refine below_set ?_ GE126.out) | exact HB.out)⟩
            · rw [if_neg c18] at H
              have c18b0 : decide (a0_3 ≤ 1099511627776) = false := decide_eq_false c18
              clear c18
              obtain rfl := Option.some.inj H
              go_enter Try.func29, Try.ntmps29
              go_wp2_with (first | ((with_reducible refine gate_dst (N := 1) rfl ?_); refine box_event ?hg (N := 1) ?hd (cs := #[.int .u64 a0_0, .int .i64 a0_1, .int .i64 a0_2, .int .i64 a0_3, .int .i64 a0_4, .int .u64 a0_5]) (t := 42) ?hr ?_; (case hd => rfl); (case hg => rfl); (case hr => first | (go_simp; done) | (go_simp; rfl)); intro gb126 hg w24 hbox hb; have n0_ := Aside0.mk (below_step (by repeat (first | (with_reducible first | exact HB.out | apply below_alloc | apply pw_below_drewN | apply below_drew1) | exact HB.out)) hb); have n1_ := Aside0.mk (hbox); have n2_ := Aside0.mk ((by rw [hg]; exact (below_size (by repeat (first | (with_reducible first | exact HB.out | apply below_alloc | apply pw_below_drewN | apply below_drew1) | exact HB.out))) : w.heap.size ≤ gb126)); have n3_ := Aside0.mk ((by rw [hg]; exact (below_size (by repeat (first | (with_reducible first | exact HB.out | apply below_alloc | apply pw_below_drewN | apply below_drew1) | exact HB.out))) : w.heap.size ≤ gb126)); clear HB; have HB := n0_; have BK126 := n1_; have GW126 := n2_; have GE126 := n3_; clear n0_ n1_ n2_ n3_; clear hb hbox hg; have hcz25_0 : w24.cell? ⟨gb126, 0, none⟩ = some (.int .u64 a0_0) := (blk_cell BK126.out 0).trans rfl; have hcz25_1 : w24.cell? ⟨gb126, 1, none⟩ = some (.int .i64 a0_1) := (blk_cell BK126.out 1).trans rfl; have hcz25_2 : w24.cell? ⟨gb126, 2, none⟩ = some (.int .i64 a0_2) := (blk_cell BK126.out 2).trans rfl; have hcz25_3 : w24.cell? ⟨gb126, 3, none⟩ = some (.int .i64 a0_3) := (blk_cell BK126.out 3).trans rfl; have hcz25_4 : w24.cell? ⟨gb126, 4, none⟩ = some (.int .i64 a0_4) := (blk_cell BK126.out 4).trans rfl; have hcz25_5 : w24.cell? ⟨gb126, 5, none⟩ = some (.int .u64 a0_5) := (blk_cell BK126.out 5).trans rfl; have hfz25_0 := blk_frozen BK126.out 0; have hfz25_1 := blk_frozen BK126.out 1; have hfz25_2 := blk_frozen BK126.out 2; have hfz25_3 := blk_frozen BK126.out 3; have hfz25_4 := blk_frozen BK126.out 4; have hfz25_5 := blk_frozen BK126.out 5))
              go_ret
              exact ⟨by first | rfl | (simp [errW_none, errW_some] <;> rfl) | (simp [*, errW_none, errW_some] <;> rfl), by repeat (first | (with_reducible first | exact HB.out | apply below_alloc | apply pw_below_drewN | apply below_drew1 | refine below_set ?_ GE126.out) | exact HB.out)⟩
          · rw [if_neg c17] at H
            have c17b0 : decide (1 ≤ a0_3) = false := decide_eq_false c17
            clear c17
            obtain rfl := Option.some.inj H
            go_enter Try.func29, Try.ntmps29
            go_wp2_with (first | ((with_reducible refine gate_dst (N := 1) rfl ?_); refine box_event ?hg (N := 1) ?hd (cs := #[.int .u64 a0_0, .int .i64 a0_1, .int .i64 a0_2, .int .i64 a0_3, .int .i64 a0_4, .int .u64 a0_5]) (t := 42) ?hr ?_; (case hd => rfl); (case hg => rfl); (case hr => first | (go_simp; done) | (go_simp; rfl)); intro gb126 hg w26 hbox hb; have n0_ := Aside0.mk (below_step (by repeat (first | (with_reducible first | exact HB.out | apply below_alloc | apply pw_below_drewN | apply below_drew1) | exact HB.out)) hb); have n1_ := Aside0.mk (hbox); have n2_ := Aside0.mk ((by rw [hg]; exact (below_size (by repeat (first | (with_reducible first | exact HB.out | apply below_alloc | apply pw_below_drewN | apply below_drew1) | exact HB.out))) : w.heap.size ≤ gb126)); have n3_ := Aside0.mk ((by rw [hg]; exact (below_size (by repeat (first | (with_reducible first | exact HB.out | apply below_alloc | apply pw_below_drewN | apply below_drew1) | exact HB.out))) : w.heap.size ≤ gb126)); clear HB; have HB := n0_; have BK126 := n1_; have GW126 := n2_; have GE126 := n3_; clear n0_ n1_ n2_ n3_; clear hb hbox hg; have hcz27_0 : w26.cell? ⟨gb126, 0, none⟩ = some (.int .u64 a0_0) := (blk_cell BK126.out 0).trans rfl; have hcz27_1 : w26.cell? ⟨gb126, 1, none⟩ = some (.int .i64 a0_1) := (blk_cell BK126.out 1).trans rfl; have hcz27_2 : w26.cell? ⟨gb126, 2, none⟩ = some (.int .i64 a0_2) := (blk_cell BK126.out 2).trans rfl; have hcz27_3 : w26.cell? ⟨gb126, 3, none⟩ = some (.int .i64 a0_3) := (blk_cell BK126.out 3).trans rfl; have hcz27_4 : w26.cell? ⟨gb126, 4, none⟩ = some (.int .i64 a0_4) := (blk_cell BK126.out 4).trans rfl; have hcz27_5 : w26.cell? ⟨gb126, 5, none⟩ = some (.int .u64 a0_5) := (blk_cell BK126.out 5).trans rfl; have hfz27_0 := blk_frozen BK126.out 0; have hfz27_1 := blk_frozen BK126.out 1; have hfz27_2 := blk_frozen BK126.out 2; have hfz27_3 := blk_frozen BK126.out 3; have hfz27_4 := blk_frozen BK126.out 4; have hfz27_5 := blk_frozen BK126.out 5))
            go_ret
            exact ⟨by first | rfl | (simp [errW_none, errW_some] <;> rfl) | (simp [*, errW_none, errW_some] <;> rfl), by repeat (first | (with_reducible first | exact HB.out | apply below_alloc | apply pw_below_drewN | apply below_drew1 | refine below_set ?_ GE126.out) | exact HB.out)⟩
        · rw [if_neg c16] at H
          have c16b0 : (a0_2 == 2) = false := beq_eq_false_iff_ne.mpr c16
          have c16b1 : (a0_2 != 2) = true := bne_iff_ne.mpr c16
          obtain rfl := Option.some.inj H
          go_enter Try.func29, Try.ntmps29
          go_wp2_with (first | ((with_reducible refine gate_dst (N := 1) rfl ?_); refine box_event ?hg (N := 1) ?hd (cs := #[.int .u64 a0_0, .int .i64 a0_1, .int .i64 a0_2, .int .i64 a0_3, .int .i64 a0_4, .int .u64 a0_5]) (t := 42) ?hr ?_; (case hd => rfl); (case hg => rfl); (case hr => first | (go_simp; done) | (go_simp; rfl)); intro gb126 hg w28 hbox hb; have n0_ := Aside0.mk (below_step (by repeat (first | (with_reducible first | exact HB.out | apply below_alloc | apply pw_below_drewN | apply below_drew1) | exact HB.out)) hb); have n1_ := Aside0.mk (hbox); have n2_ := Aside0.mk ((by rw [hg]; exact (below_size (by repeat (first | (with_reducible first | exact HB.out | apply below_alloc | apply pw_below_drewN | apply below_drew1) | exact HB.out))) : w.heap.size ≤ gb126)); have n3_ := Aside0.mk ((by rw [hg]; exact (below_size (by repeat (first | (with_reducible first | exact HB.out | apply below_alloc | apply pw_below_drewN | apply below_drew1) | exact HB.out))) : w.heap.size ≤ gb126)); clear HB; have HB := n0_; have BK126 := n1_; have GW126 := n2_; have GE126 := n3_; clear n0_ n1_ n2_ n3_; clear hb hbox hg; have hcz29_0 : w28.cell? ⟨gb126, 0, none⟩ = some (.int .u64 a0_0) := (blk_cell BK126.out 0).trans rfl; have hcz29_1 : w28.cell? ⟨gb126, 1, none⟩ = some (.int .i64 a0_1) := (blk_cell BK126.out 1).trans rfl; have hcz29_2 : w28.cell? ⟨gb126, 2, none⟩ = some (.int .i64 a0_2) := (blk_cell BK126.out 2).trans rfl; have hcz29_3 : w28.cell? ⟨gb126, 3, none⟩ = some (.int .i64 a0_3) := (blk_cell BK126.out 3).trans rfl; have hcz29_4 : w28.cell? ⟨gb126, 4, none⟩ = some (.int .i64 a0_4) := (blk_cell BK126.out 4).trans rfl; have hcz29_5 : w28.cell? ⟨gb126, 5, none⟩ = some (.int .u64 a0_5) := (blk_cell BK126.out 5).trans rfl; have hfz29_0 := blk_frozen BK126.out 0; have hfz29_1 := blk_frozen BK126.out 1; have hfz29_2 := blk_frozen BK126.out 2; have hfz29_3 := blk_frozen BK126.out 3; have hfz29_4 := blk_frozen BK126.out 4; have hfz29_5 := blk_frozen BK126.out 5))
          go_ret
          exact ⟨by first | rfl | (simp [errW_none, errW_some] <;> rfl) | (simp [*, errW_none, errW_some] <;> rfl), by repeat (first | (with_reducible first | exact HB.out | apply below_alloc | apply pw_below_drewN | apply below_drew1 | refine below_set ?_ GE126.out) | exact HB.out)⟩
    · rw [if_neg c3] at H
      have c3b0 : decide (a0_1 < 8) = false := decide_eq_false c3
      clear c3
      obtain rfl := Option.some.inj H
      go_enter Try.func29, Try.ntmps29
      go_wp2_with (first | ((with_reducible refine gate_dst (N := 1) rfl ?_); refine box_event ?hg (N := 1) ?hd (cs := #[.int .u64 a0_0, .int .i64 a0_1, .int .i64 a0_2, .int .i64 a0_3, .int .i64 a0_4, .int .u64 a0_5]) (t := 42) ?hr ?_; (case hd => rfl); (case hg => rfl); (case hr => first | (go_simp; done) | (go_simp; rfl)); intro gb126 hg w30 hbox hb; have n0_ := Aside0.mk (below_step (by repeat (first | (with_reducible first | exact HB.out | apply below_alloc | apply pw_below_drewN | apply below_drew1) | exact HB.out)) hb); have n1_ := Aside0.mk (hbox); have n2_ := Aside0.mk ((by rw [hg]; exact (below_size (by repeat (first | (with_reducible first | exact HB.out | apply below_alloc | apply pw_below_drewN | apply below_drew1) | exact HB.out))) : w.heap.size ≤ gb126)); have n3_ := Aside0.mk ((by rw [hg]; exact (below_size (by repeat (first | (with_reducible first | exact HB.out | apply below_alloc | apply pw_below_drewN | apply below_drew1) | exact HB.out))) : w.heap.size ≤ gb126)); clear HB; have HB := n0_; have BK126 := n1_; have GW126 := n2_; have GE126 := n3_; clear n0_ n1_ n2_ n3_; clear hb hbox hg; have hcz31_0 : w30.cell? ⟨gb126, 0, none⟩ = some (.int .u64 a0_0) := (blk_cell BK126.out 0).trans rfl; have hcz31_1 : w30.cell? ⟨gb126, 1, none⟩ = some (.int .i64 a0_1) := (blk_cell BK126.out 1).trans rfl; have hcz31_2 : w30.cell? ⟨gb126, 2, none⟩ = some (.int .i64 a0_2) := (blk_cell BK126.out 2).trans rfl; have hcz31_3 : w30.cell? ⟨gb126, 3, none⟩ = some (.int .i64 a0_3) := (blk_cell BK126.out 3).trans rfl; have hcz31_4 : w30.cell? ⟨gb126, 4, none⟩ = some (.int .i64 a0_4) := (blk_cell BK126.out 4).trans rfl; have hcz31_5 : w30.cell? ⟨gb126, 5, none⟩ = some (.int .u64 a0_5) := (blk_cell BK126.out 5).trans rfl; have hfz31_0 := blk_frozen BK126.out 0; have hfz31_1 := blk_frozen BK126.out 1; have hfz31_2 := blk_frozen BK126.out 2; have hfz31_3 := blk_frozen BK126.out 3; have hfz31_4 := blk_frozen BK126.out 4; have hfz31_5 := blk_frozen BK126.out 5))
      go_ret
      exact ⟨by first | rfl | (simp [errW_none, errW_some] <;> rfl) | (simp [*, errW_none, errW_some] <;> rfl), by repeat (first | (with_reducible first | exact HB.out | apply below_alloc | apply pw_below_drewN | apply below_drew1 | refine below_set ?_ GE126.out) | exact HB.out)⟩
  · rw [if_neg c2] at H
    have c2b0 : decide (0 ≤ a0_1) = false := decide_eq_false c2
    clear c2
    obtain rfl := Option.some.inj H
    go_enter Try.func29, Try.ntmps29
    go_wp2_with (first | ((with_reducible refine gate_dst (N := 1) rfl ?_); refine box_event ?hg (N := 1) ?hd (cs := #[.int .u64 a0_0, .int .i64 a0_1, .int .i64 a0_2, .int .i64 a0_3, .int .i64 a0_4, .int .u64 a0_5]) (t := 42) ?hr ?_; (case hd => rfl); (case hg => rfl); (case hr => first | (go_simp; done) | (go_simp; rfl)); intro gb126 hg w32 hbox hb; have n0_ := Aside0.mk (below_step (by repeat (first | (with_reducible first | exact HB.out | apply below_alloc | apply pw_below_drewN | apply below_drew1) | exact HB.out)) hb); have n1_ := Aside0.mk (hbox); have n2_ := Aside0.mk ((by rw [hg]; exact (below_size (by repeat (first | (with_reducible first | exact HB.out | apply below_alloc | apply pw_below_drewN | apply below_drew1) | exact HB.out))) : w.heap.size ≤ gb126)); have n3_ := Aside0.mk ((by rw [hg]; exact (below_size (by repeat (first | (with_reducible first | exact HB.out | apply below_alloc | apply pw_below_drewN | apply below_drew1) | exact HB.out))) : w.heap.size ≤ gb126)); clear HB; have HB := n0_; have BK126 := n1_; have GW126 := n2_; have GE126 := n3_; clear n0_ n1_ n2_ n3_; clear hb hbox hg; have hcz33_0 : w32.cell? ⟨gb126, 0, none⟩ = some (.int .u64 a0_0) := (blk_cell BK126.out 0).trans rfl; have hcz33_1 : w32.cell? ⟨gb126, 1, none⟩ = some (.int .i64 a0_1) := (blk_cell BK126.out 1).trans rfl; have hcz33_2 : w32.cell? ⟨gb126, 2, none⟩ = some (.int .i64 a0_2) := (blk_cell BK126.out 2).trans rfl; have hcz33_3 : w32.cell? ⟨gb126, 3, none⟩ = some (.int .i64 a0_3) := (blk_cell BK126.out 3).trans rfl; have hcz33_4 : w32.cell? ⟨gb126, 4, none⟩ = some (.int .i64 a0_4) := (blk_cell BK126.out 4).trans rfl; have hcz33_5 : w32.cell? ⟨gb126, 5, none⟩ = some (.int .u64 a0_5) := (blk_cell BK126.out 5).trans rfl; have hfz33_0 := blk_frozen BK126.out 0; have hfz33_1 := blk_frozen BK126.out 1; have hfz33_2 := blk_frozen BK126.out 2; have hfz33_3 := blk_frozen BK126.out 3; have hfz33_4 := blk_frozen BK126.out 4; have hfz33_5 := blk_frozen BK126.out 5))
    go_ret
    exact ⟨by first | rfl | (simp [errW_none, errW_some] <;> rfl) | (simp [*, errW_none, errW_some] <;> rfl), by repeat (first | (with_reducible first | exact HB.out | apply below_alloc | apply pw_below_drewN | apply below_drew1 | refine below_set ?_ GE126.out) | exact HB.out)⟩
theorem Calls.named_o {P : Program} {f : FuncId} {args : Array Value} {w : World} {R : Ending → World → Prop} (h : ∀ w', w' = w → Calls P f args w' R) : Calls P f args w R := h _ rfl
theorem wid64 {x : Int} (h0 : -9223372036854775808 ≤ x) (h1 : x ≤ 9223372036854775807) : wrap64 x = x := by unfold wrap64; omega
deriving instance DecidableEq for S42
theorem eq51_loop (l0 l1 : List SO) (n : Nat) (h0 : l0.length = n) (h1 : l1.length = n) (hn : n < 4611686018427387904) : ∀ (m i : Nat), i + m = n → api_Order_27.l0 (m + 1) l0 l1 (n : Int) (i : Int) = some (decide (l0.drop i = l1.drop i))
  | 0, i, h => by
    obtain rfl : i = n := by omega
    simp only [api_Order_27.l0]
    rw [if_neg (by omega), List.drop_eq_nil_of_le (by omega), List.drop_eq_nil_of_le (by omega)]
    simp
  | m + 1, i, h => by
    have hw : wrap64 ((i : Int) + 1) = ((i + 1 : Nat) : Int) := by rw [wid64 (by omega) (by omega)]; rfl
    rw [api_Order_27.l0, hw, eq51_loop l0 l1 n h0 h1 hn m (i + 1) (by omega), if_pos (by omega), if_pos (by omega), if_pos (by omega), if_pos (by omega)]
    have a0 : rd_T42 l0 (i : Int) = l0[i]'(by omega) := by simp [rd_T42, List.getD_eq_getElem?_getD, List.getElem?_eq_getElem (show i < l0.length by omega)]
    have a1 : rd_T42 l1 (i : Int) = l1[i]'(by omega) := by simp [rd_T42, List.getD_eq_getElem?_getD, List.getElem?_eq_getElem (show i < l1.length by omega)]
    rw [a0, a1, List.drop_eq_getElem_cons (show i < l0.length by omega), List.drop_eq_getElem_cons (show i < l1.length by omega)]
    generalize l0[i]'(by omega) = x
    generalize l1[i]'(by omega) = y
    by_cases h : x = y
    · subst h
      rw [if_neg (by simp)]
      simp
    · rw [if_pos]
      · simp [h]
      · apply Classical.byContradiction
        intro hc
        apply h
        cases x
        cases y
        simp at hc
        simp_all
theorem eq51 (l0 l1 : List SO) (hn : l0.length < 4611686018427387904) : api_Order_27.f (l0.length + 1) l0 l1 = some (decide (l0 = l1)) := by
  unfold api_Order_27.f
  by_cases h : l0.length = l1.length
  · rw [if_pos (by omega)]
    have e := eq51_loop l0 l1 l0.length rfl h.symm hn l0.length 0 (by omega)
    rw [show ((0 : Nat) : Int) = 0 from rfl] at e
    rw [e]; simp
  · rw [if_neg (by omega)]
    have : ¬ l0 = l1 := fun e => h (by rw [e])
    simp [this]
def goodO (x : SO) : Bool := (order_Good.f x.f0 x.f1 x.f2 x.f3 x.f4 x.f5).getD false
theorem goodO_some (x : SO) : order_Good.f x.f0 x.f1 x.f2 x.f3 x.f4 x.f5 = some (goodO x) := by
  obtain ⟨r, hr⟩ : ∃ r, order_Good.f x.f0 x.f1 x.f2 x.f3 x.f4 x.f5 = some r := by
    simp only [order_Good.f]
    repeat' split
    all_goals exact ⟨_, rfl⟩
  rw [hr, goodO, hr]; rfl
def bookL : List SO → List Int → Bool
  | [], _ => true
  | x :: r, S => goodO x && !S.contains x.f0 && bookL r (x.f0 :: S)
def idsIn (l : List SO) : Bool := l.all fun x => decide (0 ≤ x.f0) && decide (x.f0 ≤ 18446744073709551615)
def order_Book.f (l0 : List SO) : Option Bool := if idsIn l0 = true then (if l0.length > 64 then some false else (order_Sorted.f l0).map fun s => decide (l0 = s) && bookL l0 []) else none
theorem idsIn_at {l : List SO} (h : idsIn l = true) {x : SO} (hx : x ∈ l) : (Lit.int IntKind.u64 x.f0).wf = true := by
  have := List.all_eq_true.1 h x hx
  exact this
set_option maxHeartbeats 8000000 in
set_option maxRecDepth 100000 in
theorem order_Book.calls (A0 : Option Addr) (c0 : Nat) (l0 : List SO) (r : Bool) (w : World) (hr0 : Kd.C KO w A0 l0.length l0) (hc0 : l0.length ≤ c0) (h : order_Book.f l0 = some r) :
    Calls Try.prog 16 #[.slice A0 l0.length c0] w fun e w' => e = .returned (.bool r) ∧ Below w.heap.size w w' := by
  have hu := Try.underlying42
  have hin : idsIn l0 = true := by
    unfold order_Book.f at h; split at h
    · assumption
    · cases h
  unfold order_Book.f at h
  rw [if_pos hin] at h
  have HIN := Aside0.mk hin
  clear hin
  have HR := Aside0.mk hr0
  have HC := Aside0.mk hc0
  clear hr0 hc0
  obtain ⟨n, hn⟩ : ∃ n, l0.length = n := ⟨_, rfl⟩
  by_cases h64 : l0.length > 64
  · rw [if_pos h64] at h
    obtain rfl := Option.some.inj h
    rw [hn] at h64 ⊢
    clear h hn
    have hz : (n : Int) > 64 := by omega
    have hzd : decide ((n : Int) > 64) = true := decide_eq_true hz
    go_enter Try.func16, Try.ntmps16
    go_wp2
    go_ret
    exact ⟨rfl, Below.refl _ _⟩
  · rw [if_neg h64] at h
    obtain ⟨s, hs, hr⟩ := Option.map_eq_some_iff.1 h
    have HS := Aside0.mk hs
    have hq := eq51 l0 s (by omega)
    obtain ⟨q, hqq⟩ : ∃ q, decide (l0 = s) = q := ⟨_, rfl⟩
    rw [hqq] at hq hr
    have HQ := Aside0.mk hq
    have HN := Aside0.mk hn
    rw [hn] at h64 ⊢
    have hz : ¬ (n : Int) > 64 := by omega
    have hzd : decide ((n : Int) > 64) = false := decide_eq_false hz
    clear h hs hq hqq hn
    cases q with
    | false =>
      simp only [Bool.false_and] at hr
      subst hr
      go_enter Try.func16, Try.ntmps16
      go_wp2_with (first
        | (go_at_call 28; refine (HN.out ▸ order_Sorted.calls A0 c0 l0 s w HR.out HC.out HS.out).mono ?_; rintro e w1 ⟨v, rfl, hR, hb⟩; obtain ⟨A2, c2, rfl⟩ := Kd.R_slice hR; have HR2 := Aside0.mk (Kd.R_reads' hR); have HB := Aside0.mk hb; clear hR hb)
        | (go_at_call 27; refine (HN.out ▸ api_Order_27.calls (l0.length + 1) A0 c0 l0 A2 c2 s false _ (Kd.C_below HR.out HB.out) HC.out HR2.out.2.2 HR2.out.2.1 HQ.out).mono ?_; rintro e w2 ⟨rfl, m2, rfl⟩))
      go_ret
      exact ⟨rfl, pw_below_drewN HB.out _⟩
    | true =>
      simp only [Bool.true_and] at hr
      have HRES := Aside0.mk hr
      clear hr
      have hmm := @run_makeMap Try.prog
      go_enter Try.func16, Try.ntmps16
      go_wp2_with (first
        | (go_at_call 28; refine (HN.out ▸ order_Sorted.calls A0 c0 l0 s w HR.out HC.out HS.out).mono ?_; rintro e w1 ⟨v, rfl, hR, hb⟩; obtain ⟨A2, c2, rfl⟩ := Kd.R_slice hR; have HR2 := Aside0.mk (Kd.R_reads' hR); have HB := Aside0.mk hb; clear hR hb)
        | (go_at_call 27; refine (HN.out ▸ api_Order_27.calls (l0.length + 1) A0 c0 l0 A2 c2 s true _ (Kd.C_below HR.out HB.out) HC.out HR2.out.2.2 HR2.out.2.1 HQ.out).mono ?_; rintro e w2 ⟨rfl, m2, rfl⟩))
      obtain ⟨w3, hw3⟩ : ∃ w3, w3 = w1.drewN m2 := ⟨_, rfl⟩
      have HB3 : Aside0 (Below w.heap.size w w3) := Aside0.mk (by rw [hw3]; exact pw_below_drewN HB.out _)
      have eg : w3.heap.size = w1.heap.size := by rw [hw3]; rfl
      rw [← hw3]
      clear hw3
      have hS0 := SetM.made Try.prog 39 4 .u64 w3
      have hB4 : Below w.heap.size w (w3.alloc (.map #[] 0)) := below_alloc HB3.out _
      have hg0 : w.heap.size ≤ w3.heap.size := HB3.out.size
      generalize w3.alloc (.map #[] 0) = w4 at hS0 hB4 ⊢
      rw [eg] at hS0 hg0
      clear eg HR2 HB
      generalize w1.heap.size = g at hS0 hg0 ⊢
      have HS0 := Aside0.mk hS0
      have HB4 := Aside0.mk hB4
      have HG := Aside0.mk hg0
      clear hS0 hB4 hg0 hmm HB3
      go_loopg [19] n (fun kq v wr => ∃ (i : Nat) (S : List Int), v = .int .i64 i ∧ Aside0 (i ≤ n) ∧ Aside0 (n ≤ i + kq) ∧ Aside0 (SetM Try.prog 39 4 .u64 wr g i S) ∧ Aside0 (Below w.heap.size w wr) ∧ Aside0 (bookL (l0.drop i) S = r))
      case atStart => exact ⟨0, [], rfl, ⟨Nat.zero_le _⟩, ⟨by omega⟩, HS0, HB4, ⟨HRES.out⟩⟩
      case round =>
        clear HS0 HB4 HRES
        obtain ⟨i, S, rfl, HI, HK, HM, HBW, HRES⟩ := hrel
        by_cases hlt : i < n
        · have hltz : (i : Int) < (n : Int) := by omega
          have hlen := HN.out
          have hi : i < l0.length := by omega
          obtain ⟨x, hx⟩ : ∃ x, l0[i] = x := ⟨_, rfl⟩
          have hmem : x ∈ l0 := by rw [← hx]; exact List.getElem_mem hi
          have hwf := idsIn_at HIN.out hmem
          have hres := HRES.out
          rw [List.drop_eq_getElem_cons hi, hx] at hres
          simp only [bookL] at hres
          have p0 : (0 : Int) ≤ (i : Int) := by omega
          obtain ⟨ad, eA, hx0, hx1, hx2, hx3, hx4, hx5⟩ := at_T42 (Kd.C_below HR.out HBW.out) (i : Int) p0 (by omega)
          have erd : rd_T42 l0 (i : Int) = x := by rw [← hx]; simp [rd_T42, List.getD_eq_getElem?_getD, List.getElem?_eq_getElem hi]
          rw [erd] at hx0 hx1 hx2 hx3 hx4 hx5
          simp only [Int.toNat_natCast] at hx0 hx1 hx2 hx3 hx4 hx5
          cases eA
          have hgood := goodO_some x
          obtain ⟨q1, hq1⟩ : ∃ q, goodO x = q := ⟨_, rfl⟩
          obtain ⟨q2, hq2⟩ : ∃ q, S.contains x.f0 = q := ⟨_, rfl⟩
          rw [hq1] at hgood hres
          rw [hq2] at hres
          have HGO := Aside0.mk hgood
          have HWF := Aside0.mk hwf
          have HRS := Aside0.mk hres
          have HQ2 := Aside0.mk hq2
          clear hgood hwf hres hq2 hq1 hmem hx hi hlen erd
          cases q1 with
          | false =>
            go_wp2_with (first
              | (go_at_call 29; refine Calls.named_o ?_; intro w5 hw5; have hb5 : Below w.heap.size w w5 := (by rw [hw5]; repeat (first | exact HBW.out | apply below_alloc)); refine (order_Good.calls _ _ _ _ _ _ false w5 HGO.out).mono ?_; rintro e w6 ⟨rfl, hb⟩; have HB6 := Aside0.mk (hb5.trans (hb.mono hb5.size)); clear hb5 hb hw5))
            go_ret
            exact ⟨by have := HRS.out; simp at this; rw [this]; rfl, HB6.out⟩
          | true =>
            cases q2 with
            | true =>
              go_wp2_with (first
                | (go_at_call 29; refine Calls.named_o ?_; intro w5 hw5; have hb5 : Below wr.heap.size wr w5 := (by rw [hw5]; exact below_alloc (Below.refl _ _) _); have hk5 := (by rw [hw5]; exact blk_new wr _ : w5.heap[wr.heap.size]? = some (.cells #[.int .u64 x.f0, .int .i64 x.f1, .int .i64 x.f2, .int .i64 x.f3, .int .i64 x.f4, .int .u64 x.f5] 42 (0, 0))); clear hw5; refine (order_Good.calls _ _ _ _ _ _ true w5 HGO.out).mono ?_; rintro e w6 ⟨rfl, hb⟩; have hk6 := (hb.block _ (blk_lt hk5)).trans hk5; have hc6 : w6.cell? ⟨wr.heap.size, 0, none⟩ = some (.int .u64 x.f0) := (blk_cell hk6 0).trans rfl; have hb6 := hb5.trans (hb.mono hb5.size); have hM6 := HM.out.kept hb6; have hlk := hM6.look Try.underlying39 Try.underlying4 Try.underlying65 (Try.zeroValue4 _) x.f0 HWF.out; rw [HQ2.out] at hlk; have HB6 := Aside0.mk (HBW.out.trans (hb6.mono HBW.out.size)); have HM6 := Aside0.mk hM6; clear hb5 hb hk5 hk6 hb6 hM6))
              go_ret
              exact ⟨by have := HRS.out; simp at this; rw [this]; rfl, HB6.out⟩
            | false =>
              go_wp2_with (first
                | (go_at_call 29; refine Calls.named_o ?_; intro w5 hw5; have hb5 : Below wr.heap.size wr w5 := (by rw [hw5]; exact below_alloc (Below.refl _ _) _); have hk5 := (by rw [hw5]; exact blk_new wr _ : w5.heap[wr.heap.size]? = some (.cells #[.int .u64 x.f0, .int .i64 x.f1, .int .i64 x.f2, .int .i64 x.f3, .int .i64 x.f4, .int .u64 x.f5] 42 (0, 0))); clear hw5; refine (order_Good.calls _ _ _ _ _ _ true w5 HGO.out).mono ?_; rintro e w6 ⟨rfl, hb⟩; have hk6 := (hb.block _ (blk_lt hk5)).trans hk5; have hc6 : w6.cell? ⟨wr.heap.size, 0, none⟩ = some (.int .u64 x.f0) := (blk_cell hk6 0).trans rfl; have hb6 := hb5.trans (hb.mono hb5.size); have hM6 := HM.out.kept hb6; have hlk := hM6.look Try.underlying39 Try.underlying4 Try.underlying65 (Try.zeroValue4 _) x.f0 HWF.out; rw [HQ2.out] at hlk; have HB6 := Aside0.mk (HBW.out.trans (hb6.mono HBW.out.size)); have HM6 := Aside0.mk hM6; clear hb5 hb hk5 hk6 hb6 hM6; obtain ⟨w7, hput, hM7, hg7⟩ := HM6.out.put Try.underlying39 Try.underlying4 Try.underlying65 (by have := HI.out; simp only [maxLen]; omega) x.f0 HWF.out; have HM7 := Aside0.mk hM7; have HB7 := Aside0.mk (HB6.out.grown hg7 HB6.out.size (fun k hk => by cases hk; exact HG.out)); clear hM7 hg7))
              go_roundg (n - (i + 1))
              case measure => have := HK.out; omega
              case rel =>
                refine ⟨i + 1, x.f0 :: S, by go_num, ⟨by omega⟩, ⟨by have := HK.out; omega⟩, HM7, HB7, ⟨?_⟩⟩
                have := HRS.out
                simpa using this
        · have hltz : ¬ (i : Int) < (n : Int) := by omega
          go_wp2
          go_ret
          have e : i = l0.length := by have := HI.out; have := HN.out; omega
          have hr := HRES.out
          rw [e, List.drop_length] at hr
          exact ⟨by rw [← hr]; rfl, HBW.out⟩
def order_Crosses.f (a0 : Int) (a1 : Int) (a2 : Int) : Option (Bool) := if a0 = 1 then ((order_Better.f a0 a2 a1).bind fun t127 => (some (!t127))) else (if a0 = 2 then ((order_Better.f a0 a2 a1).bind fun t128 => (some (!t128))) else (some false))
set_option maxHeartbeats 8000000 in
set_option maxRecDepth 100000 in
theorem order_Crosses.calls (a0 : Int) (a1 : Int) (a2 : Int) (r : Bool) (w : World) (h : order_Crosses.f a0 a1 a2 = some r) :
    Calls Try.prog 23 #[.int .i64 a0, .int .i64 a1, .int .i64 a2] w fun e w' => e = .returned (.bool r) ∧ Drawn0 w w' := by
  have H : (if a0 = 1 then ((order_Better.f a0 a2 a1).bind fun t127 => (some (!t127))) else (if a0 = 2 then ((order_Better.f a0 a2 a1).bind fun t128 => (some (!t128))) else (some false))) = some r := h
  clear h
  by_cases c4 : a0 = 1
  · rw [if_pos c4] at H
    have c4b0 : (a0 == 1) = true := beq_iff_eq.mpr c4
    have c4b1 : (a0 != 1) = false := bne_eq_false_iff_eq.mpr c4
    clear c4
    replace H := Option.bind_eq_some_iff.mp H
    obtain ⟨t127, A50, H⟩ := H
    replace H : (some (!t127)) = some r := H
    have A5 := Aside0.mk A50
    clear A50
    obtain rfl := Option.some.inj H
    go_enter Try.func23, Try.ntmps23
    go_wp2_with (first | ((with_reducible refine gate_callee (f := 36) rfl ?_); refine goesL_ (some 14) rfl rfl Try.func36 (by kernel_rfl) rfl #[.int .i64 a0, .int .i64 a2, .int .i64 a1] rfl (by (try simp only [List.map_toArray, List.map_cons, List.map_nil]); first | done | rfl | (simp only [List.length_drop, List.length_take]; rfl)) ?_; (with_reducible refine (order_Better.calls a0 a2 a1 t127 _ A5.out).mono ?_); rintro e w' ⟨rfl, ⟨nd, rfl⟩⟩; refine ⟨_, rfl, ?_⟩))
    go_ret
    exact ⟨by first | rfl | (simp; done) | (simp [*]; done), by repeat (first | exact Drawn0.refl _ | apply Drawn0.step)⟩
  · rw [if_neg c4] at H
    have c4b0 : (a0 == 1) = false := beq_eq_false_iff_ne.mpr c4
    have c4b1 : (a0 != 1) = true := bne_iff_ne.mpr c4
    by_cases c6 : a0 = 2
    · rw [if_pos c6] at H
      have c6b0 : (a0 == 2) = true := beq_iff_eq.mpr c6
      have c6b1 : (a0 != 2) = false := bne_eq_false_iff_eq.mpr c6
      clear c6
      replace H := Option.bind_eq_some_iff.mp H
      obtain ⟨t128, A70, H⟩ := H
      replace H : (some (!t128)) = some r := H
      have A7 := Aside0.mk A70
      clear A70
      obtain rfl := Option.some.inj H
      go_enter Try.func23, Try.ntmps23
      go_wp2_with (first | ((with_reducible refine gate_callee (f := 36) rfl ?_); refine goesL_ (some 14) rfl rfl Try.func36 (by kernel_rfl) rfl #[.int .i64 a0, .int .i64 a2, .int .i64 a1] rfl (by (try simp only [List.map_toArray, List.map_cons, List.map_nil]); first | done | rfl | (simp only [List.length_drop, List.length_take]; rfl)) ?_; (with_reducible refine (order_Better.calls a0 a2 a1 t128 _ A7.out).mono ?_); rintro e w' ⟨rfl, ⟨nd, rfl⟩⟩; refine ⟨_, rfl, ?_⟩))
      go_ret
      exact ⟨by first | rfl | (simp; done) | (simp [*]; done), by repeat (first | exact Drawn0.refl _ | apply Drawn0.step)⟩
    · rw [if_neg c6] at H
      have c6b0 : (a0 == 2) = false := beq_eq_false_iff_ne.mpr c6
      have c6b1 : (a0 != 2) = true := bne_iff_ne.mpr c6
      obtain rfl := Option.some.inj H
      go_enter Try.func23, Try.ntmps23
      go_wp2
      go_ret
      exact ⟨by first | rfl | (simp; done) | (simp [*]; done), by repeat (first | exact Drawn0.refl _ | apply Drawn0.step)⟩
def call_far.f (a0 : Int) (a1 : Int) : Option (Int) := some (mx (wrap64 (a0 - a1)) (wrap64 (a1 - a0)))
set_option maxHeartbeats 8000000 in
set_option maxRecDepth 100000 in
theorem call_far.calls (a0 : Int) (a1 : Int) (r : Int) (w : World) (h : call_far.f a0 a1 = some r) :
    Calls Try.prog 30 #[.int .i64 a0, .int .i64 a1] w fun e w' => e = .returned (.int .i64 r) ∧ Below w.heap.size w w' := by
  have HB := Aside0.mk (Below.refl w.heap.size w)
  have H : (some (mx (wrap64 (a0 - a1)) (wrap64 (a1 - a0)))) = some r := h
  clear h
  obtain ⟨ji3, hji3⟩ : ∃ j_ : Int, (mx (wrap64 (a0 - a1)) (wrap64 (a1 - a0))) = j_ := ⟨_, rfl⟩
  replace H : (some ji3) = some r := by first | (rw [hji3] at H; exact H) | (simp only [hji3] at H ⊢; exact H)
  have hji3_ : (if (wrap64 (a0 - a1)) < (wrap64 (a1 - a0)) then (wrap64 (a1 - a0)) else (wrap64 (a0 - a1))) = ji3 := hji3
  obtain rfl := Option.some.inj H
  go_enter Try.func30, Try.ntmps30
  go_wp2
  go_ret
  exact ⟨by first | rfl | (simp [errW_none, errW_some] <;> rfl) | (simp only [← hji3]; first | rfl | (simp [errW_none, errW_some] <;> rfl)) | (simp [*, errW_none, errW_some] <;> rfl), by repeat (first | (with_reducible first | exact HB.out | apply below_alloc | apply pw_below_drewN | apply below_drew1) | exact HB.out)⟩
structure Fr (F : Nat → Prop) (w w' : World) : Prop where
  os : w'.os = w.os
  tape : w'.tape = w.tape
  output : w'.output = w.output
  size : w.heap.size ≤ w'.heap.size
  block : ∀ k, k < w.heap.size → ¬ F k → w'.heap[k]? = w.heap[k]?
theorem Fr.refl (F : Nat → Prop) (w : World) : Fr F w w := ⟨rfl, rfl, rfl, Nat.le_refl _, fun _ _ _ => rfl⟩
theorem Fr.trans {F F' : Nat → Prop} {w w1 w2 : World} (h : Fr F w w1) (k : Fr F' w1 w2) (hF : ∀ i, F' i → F i ∨ w.heap.size ≤ i) : Fr F w w2 :=
  ⟨k.os.trans h.os, k.tape.trans h.tape, k.output.trans h.output, Nat.le_trans h.size k.size, fun i hi hn => (k.block i (Nat.lt_of_lt_of_le hi h.size) (fun hf => (hF i hf).elim hn (fun hh => absurd hi (Nat.not_lt.2 hh)))).trans (h.block i hi hn)⟩
theorem Fr.of_below {F : Nat → Prop} {w w' : World} (h : Below w.heap.size w w') : Fr F w w' := ⟨h.os, h.tape, h.output, h.size, fun k hk _ => h.block k hk⟩
theorem Fr.below {w w' : World} (h : Fr (fun _ => False) w w') : Below w.heap.size w w' := ⟨h.os, h.tape, h.output, h.size, fun k hk => h.block k hk (fun f => f)⟩
theorem Fr.mono {F F' : Nat → Prop} {w w' : World} (h : Fr F w w') (hF : ∀ k, F k → F' k) : Fr F' w w' := ⟨h.os, h.tape, h.output, h.size, fun k hk hn => h.block k hk (fun hf => hn (hF k hf))⟩
theorem Fr.set {F : Nat → Prop} {w w1 : World} (h : Fr F w w1) {p : Addr} (hg : F p.block ∨ w.heap.size ≤ p.block) (u : Value) : Fr F w (w1.setCell p u) :=
  ⟨h.os, h.tape, h.output, by simpa [World.setCell] using h.size, fun k hk hn => (Below.heap_setCell w1 p u k (fun e => by rcases hg with hg | hg; exact hn (e ▸ hg); omega)).trans (h.block k hk hn)⟩
abbrev Part := World → (Nat → Prop) → Prop
structure Loc (A : Part) : Prop where
  step : ∀ {w w' : World} {F : Nat → Prop}, A w F → w.heap.size ≤ w'.heap.size → (∀ k, F k → k < w.heap.size → w'.heap[k]? = w.heap[k]?) → A w' F
  bound : ∀ {w : World} {F : Nat → Prop}, A w F → A w (fun k => F k ∧ k < w.heap.size)
  mono : ∀ {w : World} {F F' : Nat → Prop}, A w F → (∀ k, F k → F' k) → A w F'
def Stars : List Part → (Nat → Prop) → World → Prop
  | [], _, _ => True
  | A :: l, G, w => ∃ F : Nat → Prop, (∀ k, F k → G k) ∧ Loc A ∧ A w F ∧ Stars l (fun k => G k ∧ ¬ F k) w
theorem Stars.mono : ∀ {l : List Part} {G G' : Nat → Prop} {w : World}, Stars l G w → (∀ k, G k → G' k) → Stars l G' w
  | [], _, _, _, _, _ => trivial
  | _ :: _, _, _, _, ⟨F, h1, h2, h3, h4⟩, h => ⟨F, fun k hk => h k (h1 k hk), h2, h3, Stars.mono h4 (fun k hk => ⟨h k hk.1, hk.2⟩)⟩
theorem Stars.step : ∀ {l : List Part} {G : Nat → Prop} {w w' : World}, Stars l G w → w.heap.size ≤ w'.heap.size → (∀ k, G k → k < w.heap.size → w'.heap[k]? = w.heap[k]?) → Stars l G w'
  | [], _, _, _, _, _, _ => trivial
  | _ :: _, _, _, _, ⟨F, h1, h2, h3, h4⟩, hs, h => ⟨F, h1, h2, h2.step h3 hs (fun k hk hl => h k (h1 k hk) hl), Stars.step h4 hs (fun k hk hl => h k hk.1 hl)⟩
theorem Stars.bound : ∀ {l : List Part} {G : Nat → Prop} {w : World}, Stars l G w → Stars l (fun k => G k ∧ k < w.heap.size) w
  | [], _, _, _ => trivial
  | _ :: _, _, _, ⟨F, h1, h2, h3, h4⟩ => ⟨fun k => F k ∧ k < _, fun k hk => ⟨h1 k hk.1, hk.2⟩, h2, h2.bound h3, Stars.mono (Stars.bound h4) (fun k hk => ⟨⟨hk.1.1, hk.2⟩, fun hf => hk.1.2 hf.1⟩)⟩
theorem Stars.swap {A B : Part} {l : List Part} {G : Nat → Prop} {w : World} : Stars (A :: B :: l) G w → Stars (B :: A :: l) G w := by
  rintro ⟨F, h1, h2, h3, F', k1, k2, k3, k4⟩
  exact ⟨F', fun k hk => (k1 k hk).1, k2, k3, F, fun k hk => ⟨h1 k hk, fun hf => (k1 k hf).2 hk⟩, h2, h3, k4.mono (fun k hk => ⟨⟨hk.1.1, hk.2⟩, hk.1.2⟩)⟩
theorem Stars.front : ∀ (i : Nat) {l : List Part} {A : Part} {G : Nat → Prop} {w : World}, Stars l G w → l[i]? = some A → Stars (A :: l.eraseIdx i) G w
  | 0, _ :: _, _, _, _, h, e => by cases e; exact h
  | i + 1, B :: l, A, G, w, ⟨F, h1, h2, h3, h4⟩, e => by
    have := Stars.front i h4 (by simpa using e)
    exact Stars.swap ⟨F, h1, h2, h3, this⟩
theorem Stars.loc : ∀ {l : List Part}, Loc (fun w F => Stars l F w)
  | [] => ⟨fun _ _ _ => trivial, fun _ => trivial, fun _ _ => trivial⟩
  | _ :: _ => ⟨fun h hs hh => Stars.step h hs hh, fun h => Stars.bound h, fun h hh => Stars.mono h hh⟩
structure St (W : World) (F0 : Nat → Prop) (w : World) (l : List Part) : Prop where
  fr : Fr F0 W w
  st : Stars l (fun k => F0 k ∨ W.heap.size ≤ k) w
section
variable {W w w' : World} {F0 : Nat → Prop} {l : List Part} {A B : Part}
theorem St.start (W : World) (F0 : Nat → Prop) : St W F0 W [] := ⟨Fr.refl _ _, trivial⟩
theorem St.call (h : St W F0 w l) (hb : Below w.heap.size w w') : St W F0 w' l := ⟨h.fr.trans (Fr.of_below (F := fun _ => False) hb) (fun _ hk => hk.elim), h.st.step hb.size (fun k _ hl => hb.block k hl)⟩
theorem St.drew (h : St W F0 w l) (n : Nat) : St W F0 (w.drewN n) l := h.call (pw_below_drewN (Below.refl _ _) n)
theorem St.drew1 (h : St W F0 w l) : St W F0 w.drew l := h.call (below_drew (Below.refl _ _))
theorem St.new (h : St W F0 w l) (hb : Below w.heap.size w w') (hl : Loc A) (ha : A w' (fun k => w.heap.size ≤ k)) : St W F0 w' (A :: l) := by
  have h' := h.call hb
  refine ⟨h'.fr, fun k => w.heap.size ≤ k, fun k hk => .inr (Nat.le_trans h.fr.size hk), hl, ha, ?_⟩
  have hs := h.st.bound.step hb.size (fun k hk hl => hb.block k hl)
  exact hs.mono (fun k hk => ⟨hk.1, by omega⟩)
theorem St.front (h : St W F0 w l) (i : Nat) (e : l[i]? = some A) : St W F0 w (A :: l.eraseIdx i) := ⟨h.fr, h.st.front i e⟩
theorem St.drop (h : St W F0 w (A :: l)) : St W F0 w l := by
  obtain ⟨h0, F, h1, h2, h3, h4⟩ := h
  exact ⟨h0, h4.mono (fun k hk => hk.1)⟩
theorem St.get (h : St W F0 w l) (i : Nat) (e : l[i]? = some A) : ∃ F, A w F := by
  obtain ⟨h0, F, h1, h2, h3, h4⟩ := h.front i e
  exact ⟨F, h3⟩
theorem St.upd (h : St W F0 w (A :: l)) : ∃ F, A w F ∧ (∀ k, F k → k < w.heap.size ∧ (F0 k ∨ W.heap.size ≤ k)) ∧ ∀ (w' : World) (A' : Part) (F' : Nat → Prop), Fr F w w' → (∀ k, F' k → F k ∨ w.heap.size ≤ k) → Loc A' → A' w' F' → St W F0 w' (A' :: l) := by
  obtain ⟨h0, hst⟩ := h
  obtain ⟨F, h1, h2, h3, h4⟩ := hst.bound
  refine ⟨F, h3, fun k hk => ⟨(h1 k hk).2, (h1 k hk).1⟩, fun w' A' F' hf hF' hl ha => ?_⟩
  refine ⟨h0.trans hf (fun k hk => (h1 k hk).1), F', fun k hk => ?_, hl, ha, ?_⟩
  · rcases hF' k hk with h | h
    · exact (h1 k h).1
    · exact .inr (Nat.le_trans h0.size h)
  · exact (h4.step hf.size (fun k hk hl => hf.block k hl hk.2)).mono (fun k hk => ⟨hk.1.1, fun hh => by rcases hF' k hh with h | h; exact hk.2 h; have := hk.1.2; omega⟩)
theorem St.end_ (h : St W F0 w (A :: l)) : Fr F0 W w ∧ ∃ F', (∀ k, F' k → F0 k ∨ W.heap.size ≤ k) ∧ A w F' := by
  obtain ⟨h0, F, h1, h2, h3, h4⟩ := h
  exact ⟨h0, F, h1, h3⟩
theorem St.below (h : St W (fun _ => False) w l) : Below W.heap.size W w := h.fr.below
theorem St.split (h : St W F0 w ((fun w F => Stars [A, B] F w) :: l)) : St W F0 w (A :: B :: l) := by
  obtain ⟨h0, G, h1, h2, ⟨F, k1, k2, k3, F', j1, j2, j3, _⟩, h4⟩ := h
  exact ⟨h0, F, fun k hk => h1 k (k1 k hk), k2, k3, F', fun k hk => ⟨h1 k (j1 k hk).1, (j1 k hk).2⟩, j2, j3, h4.mono (fun k hk => ⟨⟨hk.1, fun hf => hk.2 (k1 k hf)⟩, fun hf => hk.2 (j1 k hf).1⟩)⟩
end
def Pt (g : Nat) (cs : Array Value) (t : TypeId) : Part := fun w F => F g ∧ w.heap[g]? = some (.cells cs t (0, 0))
theorem Pt.loc {g : Nat} {cs : Array Value} {t : TypeId} : Loc (Pt g cs t) :=
  ⟨fun h _ hh => ⟨h.1, (hh g h.1 (blk_lt h.2)).trans h.2⟩, fun h => ⟨⟨h.1, blk_lt h.2⟩, h.2⟩, fun h hh => ⟨hh g h.1, h.2⟩⟩
def Rw {α : Type} (d : Kd α) (e : Nat) (v : Value) (xs : List α) : Part := fun w F => d.R e w 0 F v xs
theorem Rw.loc {α : Type} {d : Kd α} {e : Nat} {v : Value} {xs : List α} : Loc (Rw d e v xs) :=
  ⟨fun h _ hh => Kd.R_step h hh, fun h => Kd.R_mono (Kd.R_bound h) (fun _ hk => ⟨hk.1, hk.2.2.1⟩), fun h hh => Kd.R_mono h hh⟩
def Sem (P : World → Prop) : Part := fun w F => ∀ w' : World, w.heap.size ≤ w'.heap.size → (∀ k, F k → k < w.heap.size → w'.heap[k]? = w.heap[k]?) → P w'
theorem Sem.loc {P : World → Prop} : Loc (Sem P) :=
  ⟨fun h hs hh w' hs' h' => h w' (Nat.le_trans hs hs') (fun k hk hl => (h' k hk (Nat.lt_of_lt_of_le hl hs)).trans (hh k hk hl)), fun h w' hs h' => h w' hs (fun k hk hl => h' k ⟨hk, hl⟩ hl), fun h hh w' hs h' => h w' hs (fun k hk hl => h' k (hh k hk) hl)⟩
section
variable {W w w' : World} {F0 : Nat → Prop} {l : List Part} {g g' : Nat} {cs cs' : Array Value} {t t' : TypeId}
theorem St.box (h : St W F0 w l) (e : g = w.heap.size) (hb : Below w.heap.size w w') (hg : w'.heap[g]? = some (.cells cs t (0, 0))) : St W F0 w' (Pt g cs t :: l) := h.new hb Pt.loc ⟨Nat.le_of_eq e.symm, hg⟩
theorem St.row {α : Type} {d : Kd α} {e : Nat} {v : Value} {xs : List α} {ok : Nat → Prop} (h : St W F0 w l) (hb : Below w.heap.size w w') (hr : d.R e w' w.heap.size ok v xs) : St W F0 w' (Rw d e v xs :: l) := h.new hb Rw.loc (Kd.R_lower (Kd.R_mono (Kd.R_bound hr) (fun _ hk => hk.2.1)) (Nat.zero_le _))
theorem St.put (h : St W F0 w (Pt g cs t :: l)) (i : Nat) (u : Value) (e : cs.setIfInBounds i u = cs') : St W F0 (w.setCell ⟨g, i, none⟩ u) (Pt g cs' t :: l) := by
  obtain ⟨F, hA, hF, hu⟩ := h.upd
  refine hu _ _ F (Fr.set (Fr.refl _ _) (.inl hA.1) u) (fun k hk => .inl hk) Pt.loc ⟨hA.1, blk_put hA.2 i u e⟩
theorem St.blk (h : St W F0 w l) (i : Nat) (e : l[i]? = some (Pt g cs t)) : w.heap[g]? = some (.cells cs t (0, 0)) := by
  obtain ⟨F, h1⟩ := h.get i e
  exact h1.2
theorem St.rd {α : Type} {d : Kd α} {q : Nat} {v : Value} {xs : List α} (h : St W F0 w l) (i : Nat) (e : l[i]? = some (Rw d q v xs)) : ∃ ok, d.R q w 0 ok v xs := h.get i e
theorem St.ne (h : St W F0 w l) (i j : Nat) (hi : l[i]? = some (Pt g cs t)) (hj : l[j]? = some (Pt g' cs' t')) (hij : i ≠ j) : g ≠ g' := by
  obtain ⟨h0, F, h1, h2, h3, h4⟩ := h.front i hi
  have hj' : (l.eraseIdx i)[if j < i then j else j - 1]? = some (Pt g' cs' t') := by
    rw [List.getElem?_eraseIdx]
    by_cases c : j < i
    · rw [if_pos c, if_pos c]; exact hj
    · rw [if_neg c, if_neg (by omega), show j - 1 + 1 = j by omega]; exact hj
  obtain ⟨F', k1, k2, k3, k4⟩ := h4.front _ hj'
  rintro rfl
  exact (k1 g k3.1).2 h3.1
end
theorem Calls.named {P : Program} {f : FuncId} {args : Array Value} {w : World} {R : Ending → World → Prop} (h : ∀ w', w' = w → Calls P f args w' R) : Calls P f args w R := h _ rfl
theorem St.alloc {W w : World} {F0 : Nat → Prop} {l : List Part} {cs : Array Value} {t : TypeId} (h : St W F0 w l) : St W F0 (w.alloc (.cells cs t)) (Pt w.heap.size cs t :: l) := h.box rfl (below_alloc (Below.refl _ _) _) (blk_new w _)
theorem Stars.append : ∀ {l l' : List Part} {G G' : Nat → Prop} {w : World}, Stars l G w → Stars l' G' w → (∀ k, G k → ¬ G' k) → Stars (l ++ l') (fun k => G k ∨ G' k) w
  | [], _, _, _, _, _, h', _ => h'.mono (fun _ hk => .inr hk)
  | _ :: _, _, _, _, _, ⟨F, h1, h2, h3, h4⟩, h', hd => ⟨F, fun k hk => .inl (h1 k hk), h2, h3, (Stars.append h4 h' (fun k hk => hd k hk.1)).mono (fun k hk => hk.elim (fun h => ⟨.inl h.1, h.2⟩) (fun h => ⟨.inr h, fun hf => hd k (h1 k hf) h⟩))⟩
theorem Stars.take : ∀ (n : Nat) {l : List Part} {G : Nat → Prop} {w : World}, Stars l G w → Stars (l.take n) G w
  | 0, _, _, _, _ => trivial
  | _ + 1, [], _, _, _ => trivial
  | n + 1, _ :: _, _, _, ⟨F, h1, h2, h3, h4⟩ => ⟨F, h1, h2, h3, Stars.take n h4⟩
section
variable {W w w' : World} {F0 : Nat → Prop} {l l' : List Part} {A B : Part}
theorem St.take (h : St W F0 w l) (n : Nat) : St W F0 w (l.take n) := ⟨h.fr, h.st.take n⟩
end
theorem Fr.of_grown {F : Nat → Prop} {w w' : World} {row : Option Nat} (h : w.grownBy w' row) (hr : ∀ k, row = some k → F k) : Fr F w w' := ⟨h.os, h.tape, h.output, h.size, fun k hk hn => h.block k hk (fun e => hn (hr k e.symm))⟩
section
variable {W w : World} {F0 : Nat → Prop} {l : List Part} {α : Type} {d : Kd α} {e n : Nat} {v : Value} {A : Option Addr} {xs ys : List α}
end
section
variable {P : Program}
end
theorem Stars.get {l : List Part} {G : Nat → Prop} {w : World} {A : Part} (h : Stars l G w) (i : Nat) (e : l[i]? = some A) : ∃ F, A w F := by
  obtain ⟨F, _, _, h3, _⟩ := h.front i e
  exact ⟨F, h3⟩
theorem Stars.rd {α : Type} {d : Kd α} {q : Nat} {v : Value} {xs : List α} {l : List Part} {G : Nat → Prop} {w : World} (h : Stars l G w) (i : Nat) (e : l[i]? = some (Rw d q v xs)) : ∃ ok, d.R q w 0 ok v xs := h.get i e
def cr (x : SO) (price : Int) : Bool := decide ((x.f2 = 1 ∧ price ≤ x.f3) ∨ (x.f2 = 2 ∧ x.f3 ≤ price))
theorem crosses_eq (x : SO) (price : Int) : order_Crosses.f x.f2 x.f3 price = some (cr x price) := by
  unfold order_Crosses.f order_Better.f cr
  by_cases h1 : x.f2 = 1
  · simp only [h1]; by_cases h : price ≤ x.f3 <;> simp [h] <;> omega
  · by_cases h2 : x.f2 = 2
    · simp only [h2]; by_cases h : x.f3 ≤ price <;> simp [h] <;> omega
    · simp [h1, h2]
def sumP (s price : Int) : List SO → Int
  | [] => 0
  | x :: l => (if x.f2 = s ∧ cr x price = true then x.f4 else 0) + sumP s price l
def gdO (x : SO) : Prop := (x.f2 = 1 ∨ x.f2 = 2) ∧ 1 ≤ x.f3 ∧ x.f3 ≤ 1099511627776 ∧ 1 ≤ x.f4 ∧ x.f4 ≤ 1099511627776
theorem sumP_range (s price : Int) : ∀ l : List SO, (∀ x ∈ l, gdO x) → 0 ≤ sumP s price l ∧ sumP s price l ≤ 1099511627776 * l.length
  | [], _ => ⟨Int.le_refl _, Int.le_refl _⟩
  | x :: l, h => by
    have ih := sumP_range s price l (fun y hy => h y (List.mem_cons_of_mem _ hy))
    have hx := h x (List.mem_cons_self ..)
    unfold gdO at hx
    rw [sumP, List.length_cons]
    split <;> omega
def farM (a b : Int) : Int := if a < b then b - a else a - b
def lookM (l : List SO) (price last : Int) : Int × Int × Int × Int := (price, mn (sumP 1 price l) (sumP 2 price l), farM (sumP 1 price l) (sumP 2 price l), if 0 < last then farM price last else 0)
theorem results_c {P : Program} {fn : Func} {p : Tmp} {ty : TypeId} (h : fn.results = #[.cell p ty]) (tmps : Array Value) (w : World) (g : Nat) (t : TypeId) (cs : Array Value) (fr : Nat × Nat) (d : TypeDesc)
    (hp : tmps.getD p undef = .pointer (some ⟨g, 0, none⟩)) (hg : w.heap[g]? = some (.cells cs t fr))
    (hu : P.underlying ty = some d) (hd : (match d with | .struct _ | .array _ _ => true | _ => false) = true) (hi : (P.info? ty).map (·.size) = some cs.size) :
    (results fn tmps).run P w = .ok (.agg cs) w := by
  have hp' : tmps[p]?.getD undef = .pointer (some ⟨g, 0, none⟩) := by simpa using hp
  simp [results, h, hp', asAddr, run_loadVar_row w g t ty cs fr d hg hu hd hi]
set_option maxHeartbeats 8000000 in
set_option maxRecDepth 100000 in
theorem call_look (W : World) (A0 : Option Addr) (c0 : Nat) (l : List SO) (hC : KO.C W A0 l.length l) (hg : ∀ x ∈ l, gdO x) (hlen : l.length ≤ 64) (price last : Int) (hp : 1 ≤ price ∧ price ≤ 1099511627776) (hla : -9223372036854775808 ≤ last ∧ last ≤ 9223372036854775807) :
    Calls Try.prog 17 #[.slice A0 l.length c0, .int .i64 price, .int .i64 last] W fun e w' => e = .returned (.agg #[.int .i64 (lookM l price last).1, .int .i64 (lookM l price last).2.1, .int .i64 (lookM l price last).2.2.1, .int .i64 (lookM l price last).2.2.2]) ∧ Below W.heap.size W w' := by
  have mixed : Try.prog.follows .mixedOrders = true := by kernel_rfl
  have HC := Aside0.mk hC
  have HG := Aside0.mk hg
  obtain ⟨n, hn⟩ : ∃ x, l.length = x := ⟨_, rfl⟩
  rw [hn]
  rw [hn] at hlen
  have HN := Aside0.mk hn
  have HS1 := Aside0.mk (sumP_range 1 price l hg)
  have HS2 := Aside0.mk (sumP_range 2 price l hg)
  obtain ⟨T1, hT1⟩ : ∃ x, sumP 1 price l = x := ⟨_, rfl⟩
  obtain ⟨T2, hT2⟩ : ∃ x, sumP 2 price l = x := ⟨_, rfl⟩
  have HTB : Aside0 (T1 ≤ 1099511627776 * 64 ∧ T2 ≤ 1099511627776 * 64 ∧ 0 ≤ T1 ∧ 0 ≤ T2) := ⟨by have a := HS1.out; have b := HS2.out; have c := HN.out; omega⟩
  have HT1 := Aside0.mk hT1
  have HT2 := Aside0.mk hT2
  have S0 := St.start W (fun _ => False)
  clear hC hg hn hT1 hT2
  go_enter Try.func17, Try.ntmps17
  go_wp2_with (first
    | ((with_reducible refine gate_dst (N := 6) rfl ?_); refine box_event ?hg (N := 6) ?hd (cs := #[.int .i64 0, .int .i64 0, .int .i64 0, .int .i64 0]) (t := 52) ?hr ?_; (case hd => rfl); (case hg => rfl); (case hr => first | (go_simp; done) | (go_simp; rfl)); intro gR hg_ w1 hbB hb; have S1 := S0.box hg_ hb hbB; clear S0 hg_ hbB hb)
    | ((with_reducible refine gate_dst (N := 7) rfl ?_); refine box_event ?hg (N := 7) ?hd (cs := #[.int .i64 0, .int .i64 0, .int .i64 0]) (t := 67) ?hr ?_; (case hd => rfl); (case hg => rfl); (case hr => first | (go_simp; done) | (go_simp; rfl)); intro gA hg_ w2 hbB hb; have S2 := S1.box hg_ hb hbB; clear S1 hg_ hbB hb))
  have HS := Aside0.mk S2
  clear S2
  go_loopg [8, 12] n (fun g1 v8 v12 wr => ∃ (i : Nat) (iz a b : Int), v12 = .int .i64 iz ∧ Aside0 (iz = i) ∧ 0 ≤ iz ∧ iz ≤ n ∧ n ≤ i + g1 ∧ i ≤ n ∧ Aside0 (a + sumP 1 price (l.drop i) = T1 ∧ b + sumP 2 price (l.drop i) = T2 ∧ 0 ≤ a ∧ 0 ≤ b) ∧ Aside0 (St W (fun _ => False) wr [Pt gA #[.int .i64 0, .int .i64 a, .int .i64 b] 67, Pt gR #[.int .i64 0, .int .i64 0, .int .i64 0, .int .i64 0] 52]))
  case atStart => exact ⟨0, 0, 0, 0, rfl, ⟨rfl⟩, by omega, by omega, by omega, by omega, ⟨by rw [List.drop_zero, HT1.out]; omega, by rw [List.drop_zero, HT2.out]; omega, by omega, by omega⟩, HS⟩
  case round =>
    clear HS
    obtain ⟨i, iz, a, b, rfl, HI, h0, h1, hgk, him, HAB, HS⟩ := hrel
    by_cases hlt : i < n
    · have hltz : iz < (n : Int) := by have := HI.out; omega
      have hx : i < l.length := by rw [HN.out]; exact hlt
      obtain ⟨ad, rfl, q0, q1, q2, q3, q4, q5⟩ := at_T42 HC.out iz h0 (by rw [HN.out]; exact hltz)
      have hrd : rd_T42 l iz = l[i] := by
        have : iz.toNat = i := by have := HI.out; omega
        show l.getD iz.toNat _ = _
        rw [this, List.getD, List.getElem?_eq_getElem hx]; rfl
      rw [hrd] at q0 q1 q2 q3 q4 q5
      have hgx := HG.out l[i] (List.getElem_mem hx)
      have hce := crosses_eq l[i] price
      have hd1 : sumP 1 price (l.drop i) = (if l[i].f2 = 1 ∧ cr l[i] price = true then l[i].f4 else 0) + sumP 1 price (l.drop (i + 1)) := by rw [List.drop_eq_getElem_cons hx]; rfl
      have hd2 : sumP 2 price (l.drop i) = (if l[i].f2 = 2 ∧ cr l[i] price = true then l[i].f4 else 0) + sumP 2 price (l.drop (i + 1)) := by rw [List.drop_eq_getElem_cons hx]; rfl
      obtain ⟨x, hxx⟩ : ∃ x, l[i] = x := ⟨_, rfl⟩
      rw [hxx] at q0 q1 q2 q3 q4 q5 hgx hce hd1 hd2
      obtain ⟨x0, x1, x2, x3, x4, x5⟩ := x
      unfold gdO at hgx
      dsimp only at q0 q1 q2 q3 q4 q5 hgx hce hd1 hd2
      obtain ⟨cx, hcx⟩ : ∃ c, cr ⟨x0, x1, x2, x3, x4, x5⟩ price = c := ⟨_, rfl⟩
      rw [hcx] at hce hd1 hd2
      have hab := HAB.out
      rw [hd1, hd2] at hab
      have hr1 := sumP_range 1 price (l.drop (i + 1)) (fun y hy => HG.out y (List.mem_of_mem_drop hy))
      have hr2 := sumP_range 2 price (l.drop (i + 1)) (fun y hy => HG.out y (List.mem_of_mem_drop hy))
      have HB := Aside0.mk HS.out.below
      have Q2 : ∀ p : Bw wr, p.v.cell? ⟨(ad.add (iz.toNat * 6)).block, (ad.add (iz.toNat * 6)).off + 2, none⟩ = some (.int .i64 x2) := fun p => (((below_step HB.out p.h)).cell (World.block_lt_of_cell? W _ q2)).trans q2
      have Q3 : ∀ p : Bw wr, p.v.cell? ⟨(ad.add (iz.toNat * 6)).block, (ad.add (iz.toNat * 6)).off + 3, none⟩ = some (.int .i64 x3) := fun p => (((below_step HB.out p.h)).cell (World.block_lt_of_cell? W _ q3)).trans q3
      have hcg : ∀ W' : World, Calls Try.prog 23 #[.int .i64 x2, .int .i64 x3, .int .i64 price] W' fun e w' => e = .returned (.bool cx) ∧ Below W'.heap.size W' w' := fun W' => (order_Crosses.calls x2 x3 price cx W' hce).mono (fun e w' ⟨he, hd⟩ => ⟨he, hd.below⟩)
      have wi : IntKind.i64.wrap (iz + 1) = iz + 1 := by have := HI.out; rw [IntKind.wrap_i64]; omega
      have HR := Aside0.mk (And.intro hr1 (And.intro hr2 (And.intro hab hgx)))
      have HQ := Aside0.mk (And.intro q2 q4)
      clear hrd hxx hx hd1 hd2 hcx hce hab hr1 hr2 hgx q0 q1 q3 q5 q2 q4
      cases cx with
      | false =>
        go_wp2_with fail
        refine wp_region_quiet_below (by assumption) (by kernel_rfl) ?_
        repeat (quiet_step (first | (go_at_call 23; refine Calls.bw_of _ (hcg _))))
        refine wpQuiet_nil ?_
        intro wq hwq_
        have hwq := Bw.get hwq_
        clear hwq_
        go_wp2
        go_roundg (n - (i + 1))
        case measure => omega
        case rel => exact ⟨i + 1, iz + 1, a, b, rfl, ⟨by rw [HI.out]; rfl⟩, by omega, by have := HI.out; omega, by omega, by omega, ⟨by have := HR.out; simp at this; omega, by have := HR.out; simp at this; omega, by have := HR.out; simp at this; omega, by have := HR.out; simp at this; omega⟩, ⟨HS.out.call hwq⟩⟩
      | true =>
        rcases HR.out.2.2.2.1 with rfl | rfl
        · have HRR := HR
          go_wp2_with fail
          refine wp_region_quiet_below (by assumption) (by kernel_rfl) ?_
          repeat (quiet_step (first | (go_at_call 23; refine Calls.bw_of _ (hcg _))))
          refine wpQuiet_nil ?_
          intro wq hwq_
          have hwq := Bw.get hwq_
          clear hwq_
          have SQ := HS.out.call hwq
          have e2 := Q2 ⟨wq, hwq⟩
          have e4 : wq.cell? ⟨(ad.add (iz.toNat * 6)).block, (ad.add (iz.toNat * 6)).off + 4, none⟩ = some (.int .i64 x4) := (((below_step HB.out hwq)).cell (World.block_lt_of_cell? W _ HQ.out.2)).trans HQ.out.2
          dsimp only at e2
          have z0 : wq.cell? ⟨gA, 0, none⟩ = some (.int .i64 0) := (blk_cell (SQ.blk 0 rfl) 0).trans rfl; have fz0 : wq.frozen? ⟨gA, 0, none⟩ = false := blk_frozen (SQ.blk 0 rfl) 0; have z1 : wq.cell? ⟨gA, 1, none⟩ = some (.int .i64 a) := (blk_cell (SQ.blk 0 rfl) 1).trans rfl; have fz1 : wq.frozen? ⟨gA, 1, none⟩ = false := blk_frozen (SQ.blk 0 rfl) 1; have z2 : wq.cell? ⟨gA, 2, none⟩ = some (.int .i64 b) := (blk_cell (SQ.blk 0 rfl) 2).trans rfl; have fz2 : wq.frozen? ⟨gA, 2, none⟩ = false := blk_frozen (SQ.blk 0 rfl) 2
          have wad : IntKind.i64.wrap (a + x4) = a + x4 := by have h := HR.out; simp at h; have hb := HTB.out; rw [IntKind.wrap_i64]; omega
          go_wp2_with fail
          go_region
          all_goals go_wp2
          all_goals go_roundg (n - (i + 1))
          all_goals first | (case measure => omega) | skip
          all_goals exact ⟨i + 1, iz + 1, a + x4, b, rfl, ⟨by rw [HI.out]; rfl⟩, by omega, by have := HI.out; omega, by omega, by omega, ⟨by have h := HR.out; simp at h; omega, by have h := HR.out; simp at h; omega, by have h := HR.out; simp at h; omega, by have h := HR.out; simp at h; omega⟩, ⟨(SQ.put 1 _ rfl).drew1⟩⟩
        · have HRR := HR
          go_wp2_with fail
          refine wp_region_quiet_below (by assumption) (by kernel_rfl) ?_
          repeat (quiet_step (first | (go_at_call 23; refine Calls.bw_of _ (hcg _))))
          refine wpQuiet_nil ?_
          intro wq hwq_
          have hwq := Bw.get hwq_
          clear hwq_
          have SQ := HS.out.call hwq
          have e2 := Q2 ⟨wq, hwq⟩
          have e4 : wq.cell? ⟨(ad.add (iz.toNat * 6)).block, (ad.add (iz.toNat * 6)).off + 4, none⟩ = some (.int .i64 x4) := (((below_step HB.out hwq)).cell (World.block_lt_of_cell? W _ HQ.out.2)).trans HQ.out.2
          dsimp only at e2
          have z0 : wq.cell? ⟨gA, 0, none⟩ = some (.int .i64 0) := (blk_cell (SQ.blk 0 rfl) 0).trans rfl; have fz0 : wq.frozen? ⟨gA, 0, none⟩ = false := blk_frozen (SQ.blk 0 rfl) 0; have z1 : wq.cell? ⟨gA, 1, none⟩ = some (.int .i64 a) := (blk_cell (SQ.blk 0 rfl) 1).trans rfl; have fz1 : wq.frozen? ⟨gA, 1, none⟩ = false := blk_frozen (SQ.blk 0 rfl) 1; have z2 : wq.cell? ⟨gA, 2, none⟩ = some (.int .i64 b) := (blk_cell (SQ.blk 0 rfl) 2).trans rfl; have fz2 : wq.frozen? ⟨gA, 2, none⟩ = false := blk_frozen (SQ.blk 0 rfl) 2
          have wad : IntKind.i64.wrap (b + x4) = b + x4 := by have h := HR.out; simp at h; have hb := HTB.out; rw [IntKind.wrap_i64]; omega
          go_wp2_with fail
          go_region
          all_goals go_wp2
          all_goals go_roundg (n - (i + 1))
          all_goals first | (case measure => omega) | skip
          all_goals exact ⟨i + 1, iz + 1, a, b + x4, rfl, ⟨by rw [HI.out]; rfl⟩, by omega, by have := HI.out; omega, by omega, by omega, ⟨by have h := HR.out; simp at h; omega, by have h := HR.out; simp at h; omega, by have h := HR.out; simp at h; omega, by have h := HR.out; simp at h; omega⟩, ⟨(SQ.put 2 _ rfl).drew1⟩⟩
    · have hltz : ¬ iz < (n : Int) := by have := HI.out; omega
      have hab := HAB.out
      rw [List.drop_eq_nil_of_le (by have := HN.out; omega)] at hab
      simp only [sumP, Int.add_zero] at hab
      obtain ⟨rfl, rfl, -, -⟩ := hab
      have S3 := HS.out
      have hfar : ∀ W' : World, Calls Try.prog 30 #[.int .i64 a, .int .i64 b] W' fun e w' => e = .returned (.int .i64 (farM a b)) ∧ Below W'.heap.size W' w' := fun W' => call_far.calls a b (farM a b) W' (by have := HTB.out; rw [call_far.f]; refine congrArg some ?_; unfold mx farM wrap64; split <;> split <;> omega)
      have z0 : wr.cell? ⟨gA, 0, none⟩ = some (.int .i64 0) := (blk_cell (S3.blk 0 rfl) 0).trans rfl; have fz0 : wr.frozen? ⟨gA, 0, none⟩ = false := blk_frozen (S3.blk 0 rfl) 0; have z1 : wr.cell? ⟨gA, 1, none⟩ = some (.int .i64 a) := (blk_cell (S3.blk 0 rfl) 1).trans rfl; have fz1 : wr.frozen? ⟨gA, 1, none⟩ = false := blk_frozen (S3.blk 0 rfl) 1; have z2 : wr.cell? ⟨gA, 2, none⟩ = some (.int .i64 b) := (blk_cell (S3.blk 0 rfl) 2).trans rfl; have fz2 : wr.frozen? ⟨gA, 2, none⟩ = false := blk_frozen (S3.blk 0 rfl) 2
      have y0 : wr.cell? ⟨gR, 0, none⟩ = some (.int .i64 0) := (blk_cell (S3.blk 1 rfl) 0).trans rfl; have fy0 : wr.frozen? ⟨gR, 0, none⟩ = false := blk_frozen (S3.blk 1 rfl) 0; have y1 : wr.cell? ⟨gR, 1, none⟩ = some (.int .i64 0) := (blk_cell (S3.blk 1 rfl) 1).trans rfl; have fy1 : wr.frozen? ⟨gR, 1, none⟩ = false := blk_frozen (S3.blk 1 rfl) 1; have y2 : wr.cell? ⟨gR, 2, none⟩ = some (.int .i64 0) := (blk_cell (S3.blk 1 rfl) 2).trans rfl; have fy2 : wr.frozen? ⟨gR, 2, none⟩ = false := blk_frozen (S3.blk 1 rfl) 2; have y3 : wr.cell? ⟨gR, 3, none⟩ = some (.int .i64 0) := (blk_cell (S3.blk 1 rfl) 3).trans rfl; have fy3 : wr.frozen? ⟨gR, 3, none⟩ = false := blk_frozen (S3.blk 1 rfl) 3
      obtain ⟨fm, hfm⟩ : ∃ f, farM a b = f := ⟨_, rfl⟩
      rw [hfm] at hfar
      have HFM := Aside0.mk hfm
      clear hfm
      obtain ⟨mm, hmm⟩ : ∃ f, mn a b = f := ⟨_, rfl⟩
      have hcm : (b < a ∧ b = mm) ∨ (a ≤ b ∧ a = mm) := by
        rcases Int.lt_or_le b a with c | c
        · exact .inl ⟨c, by rw [← hmm, mn, if_pos c]⟩
        · exact .inr ⟨c, by rw [← hmm, mn, if_neg (by omega)]⟩
      have HMM := Aside0.mk hmm
      clear hmm
      rcases hcm with ⟨c, rfl⟩ | ⟨c, rfl⟩
      all_goals
        have n1 : gA ≠ wr.heap.size := Nat.ne_of_lt (blk_lt (S3.blk 0 rfl))
        have n2 := Ne.symm n1
        clear hlt HAB
        go_wp2_with fail
        go_cut [9] (fun v9 wc => ∃ g9 mz, v9 = .pointer (some ⟨g9, 0, none⟩) ∧ Aside0 (mn a b = mz) ∧ Aside0 (St W (fun _ => False) wc [Pt g9 #[.int .i64 price, .int .i64 mz, .int .i64 fm, .int .i64 0] 52, Pt gR #[.int .i64 0, .int .i64 0, .int .i64 0, .int .i64 0] 52]))
        case first =>
          go_region_held3 (fun w' => w'.cell? ⟨gA, 1, none⟩ = some (.int .i64 a) ∧ w'.cell? ⟨gA, 2, none⟩ = some (.int .i64 b)) (first | exact Y5 | go_keep) (first
            | (go_at_call 30; refine Calls.named ?_; intro v4 hv; have hB4 : Below wr.heap.size wr v4 := (by rw [hv]; with_reducible first | exact Below.refl _ _ | exact below_drew1 (Below.refl _ _) | exact below_drew1 (below_drew1 (Below.refl _ _))); clear hv; (with_reducible refine (hfar v4).mono ?_); rintro e w5 ⟨rfl, hb⟩; have S5 := (S3.call hB4).call hb; have Y5 : w5.cell? ⟨gA, 1, none⟩ = some (.int .i64 a) ∧ w5.cell? ⟨gA, 2, none⟩ = some (.int .i64 b) := ⟨(blk_cell (S5.blk 0 rfl) 1).trans rfl, (blk_cell (S5.blk 0 rfl) 2).trans rfl⟩; have n5 : gA ≠ w5.heap.size := Nat.ne_of_lt (blk_lt (S5.blk 0 rfl)); have n6 := Ne.symm n5; clear hb)
            | (go_at_call 30; refine Calls.named ?_; intro v4 hv; have S4 : St W (fun _ => False) v4 (Pt wr.heap.size #[.int .i64 0, .int .i64 0, .int .i64 0, .int .i64 0] 52 :: [Pt gA #[.int .i64 0, .int .i64 a, .int .i64 b] 67, Pt gR #[.int .i64 0, .int .i64 0, .int .i64 0, .int .i64 0] 52]) := (by rw [hv]; first | exact S3.alloc | exact S3.alloc.drew1 | exact S3.alloc.drew1.drew1); clear hv; (with_reducible refine (hfar v4).mono ?_); rintro e w5 ⟨rfl, hb⟩; have S5 := S4.call hb; have Y5 : w5.cell? ⟨gA, 1, none⟩ = some (.int .i64 a) ∧ w5.cell? ⟨gA, 2, none⟩ = some (.int .i64 b) := ⟨(blk_cell (S5.blk 1 rfl) 1).trans rfl, (blk_cell (S5.blk 1 rfl) 2).trans rfl⟩; have x0 : w5.cell? ⟨wr.heap.size, 0, none⟩ = some (.int .i64 0) := (blk_cell (S5.blk 0 rfl) 0).trans rfl; have fx0 : w5.frozen? ⟨wr.heap.size, 0, none⟩ = false := blk_frozen (S5.blk 0 rfl) 0; have x1 : w5.cell? ⟨wr.heap.size, 1, none⟩ = some (.int .i64 0) := (blk_cell (S5.blk 0 rfl) 1).trans rfl; have fx1 : w5.frozen? ⟨wr.heap.size, 1, none⟩ = false := blk_frozen (S5.blk 0 rfl) 1; have x2 : w5.cell? ⟨wr.heap.size, 2, none⟩ = some (.int .i64 0) := (blk_cell (S5.blk 0 rfl) 2).trans rfl; have fx2 : w5.frozen? ⟨wr.heap.size, 2, none⟩ = false := blk_frozen (S5.blk 0 rfl) 2; have x3 : w5.cell? ⟨wr.heap.size, 3, none⟩ = some (.int .i64 0) := (blk_cell (S5.blk 0 rfl) 3).trans rfl; have fx3 : w5.frozen? ⟨wr.heap.size, 3, none⟩ = false := blk_frozen (S5.blk 0 rfl) 3; clear hb))
          all_goals (go_wp2_with fail; go_meet)
          all_goals first
            | exact ⟨_, _, rfl, HMM, ⟨(S5.alloc.front 1 rfl).drop⟩⟩
            | exact ⟨_, _, rfl, HMM, ⟨(((((S5.put 0 _ rfl).put 1 _ rfl).put 2 _ rfl).put 3 _ rfl).front 1 rfl).drop⟩⟩
        case rest =>
          obtain ⟨g9, mz, rfl, HMZ, HS9⟩ := hcut
          have S9 := HS9.out
          have z0 : wc.cell? ⟨g9, 0, none⟩ = some (.int .i64 price) := (blk_cell (S9.blk 0 rfl) 0).trans rfl; have fz0 : wc.frozen? ⟨g9, 0, none⟩ = false := blk_frozen (S9.blk 0 rfl) 0; have z1 : wc.cell? ⟨g9, 1, none⟩ = some (.int .i64 mz) := (blk_cell (S9.blk 0 rfl) 1).trans rfl; have fz1 : wc.frozen? ⟨g9, 1, none⟩ = false := blk_frozen (S9.blk 0 rfl) 1; have z2 : wc.cell? ⟨g9, 2, none⟩ = some (.int .i64 fm) := (blk_cell (S9.blk 0 rfl) 2).trans rfl; have fz2 : wc.frozen? ⟨g9, 2, none⟩ = false := blk_frozen (S9.blk 0 rfl) 2; have z3 : wc.cell? ⟨g9, 3, none⟩ = some (.int .i64 0) := (blk_cell (S9.blk 0 rfl) 3).trans rfl; have fz3 : wc.frozen? ⟨g9, 3, none⟩ = false := blk_frozen (S9.blk 0 rfl) 3
          have y0 : wc.cell? ⟨gR, 0, none⟩ = some (.int .i64 0) := (blk_cell (S9.blk 1 rfl) 0).trans rfl; have fy0 : wc.frozen? ⟨gR, 0, none⟩ = false := blk_frozen (S9.blk 1 rfl) 0; have y1 : wc.cell? ⟨gR, 1, none⟩ = some (.int .i64 0) := (blk_cell (S9.blk 1 rfl) 1).trans rfl; have fy1 : wc.frozen? ⟨gR, 1, none⟩ = false := blk_frozen (S9.blk 1 rfl) 1; have y2 : wc.cell? ⟨gR, 2, none⟩ = some (.int .i64 0) := (blk_cell (S9.blk 1 rfl) 2).trans rfl; have fy2 : wc.frozen? ⟨gR, 2, none⟩ = false := blk_frozen (S9.blk 1 rfl) 2; have y3 : wc.cell? ⟨gR, 3, none⟩ = some (.int .i64 0) := (blk_cell (S9.blk 1 rfl) 3).trans rfl; have fy3 : wc.frozen? ⟨gR, 3, none⟩ = false := blk_frozen (S9.blk 1 rfl) 3
          have nx : g9 ≠ gR := S9.ne 0 1 rfl rfl (by decide); have nx' := Ne.symm nx
          by_cases c0 : 0 < last
          · have c0b : decide (0 < last) = true := decide_eq_true c0
            have hfar2 : ∀ W' : World, Calls Try.prog 30 #[.int .i64 price, .int .i64 last] W' fun e w' => e = .returned (.int .i64 (farM price last)) ∧ Below W'.heap.size W' w' := fun W' => call_far.calls price last (farM price last) W' (by rw [call_far.f]; refine congrArg some ?_; unfold mx farM wrap64; split <;> split <;> omega)
            have HLK : Aside0 (lookM l price last = (price, mz, fm, farM price last)) := ⟨by rw [lookM, HT1.out, HT2.out, HMZ.out, HFM.out, if_pos c0]⟩
            obtain ⟨f2, hf2⟩ : ∃ f, farM price last = f := ⟨_, rfl⟩
            rw [hf2] at hfar2 HLK
            clear c0 hf2
            go_wp2_with (go_at_call 30; refine (hfar2 _).mono ?_; rintro e w6 ⟨rfl, hb⟩; have S10 := S9.call hb; clear hb z0 z1 z2 z3 fz0 fz1 fz2 fz3 y0 y1 y2 y3 fy0 fy1 fy2 fy3; have z0 : w6.cell? ⟨g9, 0, none⟩ = some (.int .i64 price) := (blk_cell (S10.blk 0 rfl) 0).trans rfl; have fz0 : w6.frozen? ⟨g9, 0, none⟩ = false := blk_frozen (S10.blk 0 rfl) 0; have z1 : w6.cell? ⟨g9, 1, none⟩ = some (.int .i64 mz) := (blk_cell (S10.blk 0 rfl) 1).trans rfl; have fz1 : w6.frozen? ⟨g9, 1, none⟩ = false := blk_frozen (S10.blk 0 rfl) 1; have z2 : w6.cell? ⟨g9, 2, none⟩ = some (.int .i64 fm) := (blk_cell (S10.blk 0 rfl) 2).trans rfl; have fz2 : w6.frozen? ⟨g9, 2, none⟩ = false := blk_frozen (S10.blk 0 rfl) 2; have z3 : w6.cell? ⟨g9, 3, none⟩ = some (.int .i64 0) := (blk_cell (S10.blk 0 rfl) 3).trans rfl; have fz3 : w6.frozen? ⟨g9, 3, none⟩ = false := blk_frozen (S10.blk 0 rfl) 3; have y0 : w6.cell? ⟨gR, 0, none⟩ = some (.int .i64 0) := (blk_cell (S10.blk 1 rfl) 0).trans rfl; have fy0 : w6.frozen? ⟨gR, 0, none⟩ = false := blk_frozen (S10.blk 1 rfl) 0; have y1 : w6.cell? ⟨gR, 1, none⟩ = some (.int .i64 0) := (blk_cell (S10.blk 1 rfl) 1).trans rfl; have fy1 : w6.frozen? ⟨gR, 1, none⟩ = false := blk_frozen (S10.blk 1 rfl) 1; have y2 : w6.cell? ⟨gR, 2, none⟩ = some (.int .i64 0) := (blk_cell (S10.blk 1 rfl) 2).trans rfl; have fy2 : w6.frozen? ⟨gR, 2, none⟩ = false := blk_frozen (S10.blk 1 rfl) 2; have y3 : w6.cell? ⟨gR, 3, none⟩ = some (.int .i64 0) := (blk_cell (S10.blk 1 rfl) 3).trans rfl; have fy3 : w6.frozen? ⟨gR, 3, none⟩ = false := blk_frozen (S10.blk 1 rfl) 3)
            have S11 := ((((S10.put 3 (.int .i64 f2) rfl).front 1 rfl).put 0 (.int .i64 price) rfl).put 1 (.int .i64 mz) rfl).put 2 (.int .i64 fm) rfl |>.put 3 (.int .i64 f2) rfl
            refine bodyPost_ret (results_c rfl _ _ gR 52 _ (0, 0) _ rfl (S11.blk 0 rfl) Try.underlying52 rfl (by kernel_rfl)) rfl ?_
            rw [HLK.out]
            exact ⟨rfl, S11.below⟩
          · have c0b : decide (0 < last) = false := decide_eq_false c0
            have HLK : Aside0 (lookM l price last = (price, mz, fm, 0)) := ⟨by rw [lookM, HT1.out, HT2.out, HMZ.out, HFM.out, if_neg c0]⟩
            clear c0
            go_wp2
            have S11 := (((S9.front 1 rfl).put 0 (.int .i64 price) rfl).put 1 (.int .i64 mz) rfl).put 2 (.int .i64 fm) rfl |>.put 3 (.int .i64 0) rfl
            refine bodyPost_ret (results_c rfl _ _ gR 52 _ (0, 0) _ rfl (S11.blk 0 rfl) Try.underlying52 rfl (by kernel_rfl)) rfl ?_
            rw [HLK.out]
            exact ⟨rfl, S11.below⟩
def cmp_isNaN_int64.f (a0 : Int) : Option (Bool) := some (a0 != a0)
set_option maxHeartbeats 8000000 in
set_option maxRecDepth 100000 in
theorem cmp_isNaN_int64.calls (a0 : Int) (r : Bool) (w : World) (h : cmp_isNaN_int64.f a0 = some r) :
    Calls Try.prog 50 #[.int .i64 a0] w fun e w' => e = .returned (.bool r) ∧ Drawn0 w w' := by
  have H : (some (a0 != a0)) = some r := h
  clear h
  obtain rfl := Option.some.inj H
  go_enter Try.func50, Try.ntmps50
  go_wp2
  go_ret
  exact ⟨by first | rfl | (simp; done) | (simp [*]; done), by repeat (first | exact Drawn0.refl _ | apply Drawn0.step)⟩
end Go.Proofs.Ytjjnbcaemognhaa.Clr
