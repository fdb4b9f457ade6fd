/- Printed by this session's wip/drive.py over the translation; some functions by hand. -/
import Derived.Test.YtjjnbcaemognhaaZClrx0
import Derived.Test.YtjjnbcaemognhaaZClrx2
import Derived.Test.YtjjnbcaemognhaaZClrx4
import Derived.Test.YtjjnbcaemognhaaZClrx5
namespace Go.Proofs.Ytjjnbcaemognhaa.Clr
open Go.RowKit Go.Proofs.YtjjnbcaemognhaaW.PrintWords Go.Proofs.YtjjnbcaemognhaaW.PrintLast Go.Proofs.YtjjnbcaemognhaaW.PrintMore
attribute [local go_sem] max2_int min2_int max_two min_two max_three min_three max_four min_four
set_option linter.unusedVariables false
set_option linter.unusedSimpArgs false
def cmp_Compare_int64.f (a0 : Int) (a1 : Int) : Option (Int) := (cmp_isNaN_int64.f a0).bind fun t129 => ((cmp_isNaN_int64.f a1).bind fun t130 => (if t129 = true then (if t130 = true then (some 0) else (some (-1))) else (if t130 = true then (some 1) else (if a0 < a1 then (some (-1)) else (if a0 > a1 then (some 1) else (some 0))))))
set_option maxHeartbeats 8000000 in
set_option maxRecDepth 100000 in
theorem cmp_Compare_int64.calls (a0 : Int) (a1 : Int) (r : Int) (w : World) (h : cmp_Compare_int64.f a0 a1 = some r) :
    Calls Try.prog 31 #[.int .i64 a0, .int .i64 a1] w fun e w' => e = .returned (.int .i64 r) ∧ Drawn0 w w' := by
  have H : ((cmp_isNaN_int64.f a0).bind fun t129 => ((cmp_isNaN_int64.f a1).bind fun t130 => (if t129 = true then (if t130 = true then (some 0) else (some (-1))) else (if t130 = true then (some 1) else (if a0 < a1 then (some (-1)) else (if a0 > a1 then (some 1) else (some 0))))))) = some r := h
  clear h
  replace H := Option.bind_eq_some_iff.mp H
  obtain ⟨t129, A30, H⟩ := H
  replace H : ((cmp_isNaN_int64.f a1).bind fun t130 => (if t129 = true then (if t130 = true then (some 0) else (some (-1))) else (if t130 = true then (some 1) else (if a0 < a1 then (some (-1)) else (if a0 > a1 then (some 1) else (some 0)))))) = some r := H
  have A3 := Aside0.mk A30
  clear A30
  replace H := Option.bind_eq_some_iff.mp H
  obtain ⟨t130, A40, H⟩ := H
  replace H : (if t129 = true then (if t130 = true then (some 0) else (some (-1))) else (if t130 = true then (some 1) else (if a0 < a1 then (some (-1)) else (if a0 > a1 then (some 1) else (some 0))))) = some r := H
  have A4 := Aside0.mk A40
  clear A40
  by_cases c5 : t129 = true
  · subst c5
    have H1 : (if t130 = true then (some 0) else (some (-1))) = some r := by rw [if_pos rfl] at H; exact H
    clear H
    have H := H1
    clear H1
    by_cases c6 : t130 = true
    · subst c6
      have H1 : (some 0) = some r := by rw [if_pos rfl] at H; exact H
      clear H
      have H := H1
      clear H1
      obtain rfl := Option.some.inj H
      go_enter Try.func31, Try.ntmps31
      go_wp2_with (first | ((with_reducible refine gate_callee (f := 50) rfl ?_); refine goesL_ (some 8) rfl rfl Try.func50 (by kernel_rfl) rfl #[.int .i64 a0] rfl (by (try simp only [List.map_toArray, List.map_cons, List.map_nil]); first | done | rfl | (simp only [List.length_drop, List.length_take]; rfl)) ?_; (with_reducible refine (cmp_isNaN_int64.calls a0 true _ A3.out).mono ?_); rintro e w' ⟨rfl, ⟨nd, rfl⟩⟩; refine ⟨_, rfl, ?_⟩) | ((with_reducible refine gate_callee (f := 50) rfl ?_); refine goesL_ (some 10) rfl rfl Try.func50 (by kernel_rfl) rfl #[.int .i64 a1] rfl (by (try simp only [List.map_toArray, List.map_cons, List.map_nil]); first | done | rfl | (simp only [List.length_drop, List.length_take]; rfl)) ?_; (with_reducible refine (cmp_isNaN_int64.calls a1 true _ A4.out).mono ?_); rintro e w' ⟨rfl, ⟨nd, rfl⟩⟩; refine ⟨_, rfl, ?_⟩))
      go_ret
      exact ⟨by first | rfl | (simp; done) | (simp [*]; done), by repeat (first | exact Drawn0.refl _ | apply Drawn0.step)⟩
    · replace c6 := Bool.eq_false_iff.mpr c6
      subst c6
      have H1 : (some (-1)) = some r := by rw [if_neg (show ¬ (false = true) by decide)] at H; exact H
      clear H
      have H := H1
      clear H1
      obtain rfl := Option.some.inj H
      go_enter Try.func31, Try.ntmps31
      go_wp2_with (first | ((with_reducible refine gate_callee (f := 50) rfl ?_); refine goesL_ (some 8) rfl rfl Try.func50 (by kernel_rfl) rfl #[.int .i64 a0] rfl (by (try simp only [List.map_toArray, List.map_cons, List.map_nil]); first | done | rfl | (simp only [List.length_drop, List.length_take]; rfl)) ?_; (with_reducible refine (cmp_isNaN_int64.calls a0 true _ A3.out).mono ?_); rintro e w' ⟨rfl, ⟨nd, rfl⟩⟩; refine ⟨_, rfl, ?_⟩) | ((with_reducible refine gate_callee (f := 50) rfl ?_); refine goesL_ (some 10) rfl rfl Try.func50 (by kernel_rfl) rfl #[.int .i64 a1] rfl (by (try simp only [List.map_toArray, List.map_cons, List.map_nil]); first | done | rfl | (simp only [List.length_drop, List.length_take]; rfl)) ?_; (with_reducible refine (cmp_isNaN_int64.calls a1 false _ A4.out).mono ?_); rintro e w' ⟨rfl, ⟨nd, rfl⟩⟩; refine ⟨_, rfl, ?_⟩))
      go_ret
      exact ⟨by first | rfl | (simp; done) | (simp [*]; done), by repeat (first | exact Drawn0.refl _ | apply Drawn0.step)⟩
  · replace c5 := Bool.eq_false_iff.mpr c5
    subst c5
    have H1 : (if t130 = true then (some 1) else (if a0 < a1 then (some (-1)) else (if a0 > a1 then (some 1) else (some 0)))) = some r := by rw [if_neg (show ¬ (false = true) by decide)] at H; exact H
    clear H
    have H := H1
    clear H1
    by_cases c7 : t130 = true
    · subst c7
      have H1 : (some 1) = some r := by rw [if_pos rfl] at H; exact H
      clear H
      have H := H1
      clear H1
      obtain rfl := Option.some.inj H
      go_enter Try.func31, Try.ntmps31
      go_wp2_with (first | ((with_reducible refine gate_callee (f := 50) rfl ?_); refine goesL_ (some 8) rfl rfl Try.func50 (by kernel_rfl) rfl #[.int .i64 a0] rfl (by (try simp only [List.map_toArray, List.map_cons, List.map_nil]); first | done | rfl | (simp only [List.length_drop, List.length_take]; rfl)) ?_; (with_reducible refine (cmp_isNaN_int64.calls a0 false _ A3.out).mono ?_); rintro e w' ⟨rfl, ⟨nd, rfl⟩⟩; refine ⟨_, rfl, ?_⟩) | ((with_reducible refine gate_callee (f := 50) rfl ?_); refine goesL_ (some 10) rfl rfl Try.func50 (by kernel_rfl) rfl #[.int .i64 a1] rfl (by (try simp only [List.map_toArray, List.map_cons, List.map_nil]); first | done | rfl | (simp only [List.length_drop, List.length_take]; rfl)) ?_; (with_reducible refine (cmp_isNaN_int64.calls a1 true _ A4.out).mono ?_); rintro e w' ⟨rfl, ⟨nd, rfl⟩⟩; refine ⟨_, rfl, ?_⟩))
      go_ret
      exact ⟨by first | rfl | (simp; done) | (simp [*]; done), by repeat (first | exact Drawn0.refl _ | apply Drawn0.step)⟩
    · replace c7 := Bool.eq_false_iff.mpr c7
      subst c7
      have H1 : (if a0 < a1 then (some (-1)) else (if a0 > a1 then (some 1) else (some 0))) = some r := by rw [if_neg (show ¬ (false = true) by decide)] at H; exact H
      clear H
      have H := H1
      clear H1
      by_cases c8 : a0 < a1
      · rw [if_pos c8] at H
        have c8b0 : decide (a0 < a1) = true := decide_eq_true c8
        clear c8
        obtain rfl := Option.some.inj H
        go_enter Try.func31, Try.ntmps31
        go_wp2_with (first | ((with_reducible refine gate_callee (f := 50) rfl ?_); refine goesL_ (some 8) rfl rfl Try.func50 (by kernel_rfl) rfl #[.int .i64 a0] rfl (by (try simp only [List.map_toArray, List.map_cons, List.map_nil]); first | done | rfl | (simp only [List.length_drop, List.length_take]; rfl)) ?_; (with_reducible refine (cmp_isNaN_int64.calls a0 false _ A3.out).mono ?_); rintro e w' ⟨rfl, ⟨nd, rfl⟩⟩; refine ⟨_, rfl, ?_⟩) | ((with_reducible refine gate_callee (f := 50) rfl ?_); refine goesL_ (some 10) rfl rfl Try.func50 (by kernel_rfl) rfl #[.int .i64 a1] rfl (by (try simp only [List.map_toArray, List.map_cons, List.map_nil]); first | done | rfl | (simp only [List.length_drop, List.length_take]; rfl)) ?_; (with_reducible refine (cmp_isNaN_int64.calls a1 false _ A4.out).mono ?_); rintro e w' ⟨rfl, ⟨nd, rfl⟩⟩; refine ⟨_, rfl, ?_⟩))
        go_ret
        exact ⟨by first | rfl | (simp; done) | (simp [*]; done), by repeat (first | exact Drawn0.refl _ | apply Drawn0.step)⟩
      · rw [if_neg c8] at H
        have c8b0 : decide (a0 < a1) = false := decide_eq_false c8
        clear c8
        by_cases c9 : a0 > a1
        · rw [if_pos c9] at H
          have c9b0 : decide (a1 < a0) = true := decide_eq_true c9
          clear c9
          obtain rfl := Option.some.inj H
          go_enter Try.func31, Try.ntmps31
          go_wp2_with (first | ((with_reducible refine gate_callee (f := 50) rfl ?_); refine goesL_ (some 8) rfl rfl Try.func50 (by kernel_rfl) rfl #[.int .i64 a0] rfl (by (try simp only [List.map_toArray, List.map_cons, List.map_nil]); first | done | rfl | (simp only [List.length_drop, List.length_take]; rfl)) ?_; (with_reducible refine (cmp_isNaN_int64.calls a0 false _ A3.out).mono ?_); rintro e w' ⟨rfl, ⟨nd, rfl⟩⟩; refine ⟨_, rfl, ?_⟩) | ((with_reducible refine gate_callee (f := 50) rfl ?_); refine goesL_ (some 10) rfl rfl Try.func50 (by kernel_rfl) rfl #[.int .i64 a1] rfl (by (try simp only [List.map_toArray, List.map_cons, List.map_nil]); first | done | rfl | (simp only [List.length_drop, List.length_take]; rfl)) ?_; (with_reducible refine (cmp_isNaN_int64.calls a1 false _ A4.out).mono ?_); rintro e w' ⟨rfl, ⟨nd, rfl⟩⟩; refine ⟨_, rfl, ?_⟩))
          go_ret
          exact ⟨by first | rfl | (simp; done) | (simp [*]; done), by repeat (first | exact Drawn0.refl _ | apply Drawn0.step)⟩
        · rw [if_neg c9] at H
          have c9b0 : decide (a1 < a0) = false := decide_eq_false c9
          clear c9
          obtain rfl := Option.some.inj H
          go_enter Try.func31, Try.ntmps31
          go_wp2_with (first | ((with_reducible refine gate_callee (f := 50) rfl ?_); refine goesL_ (some 8) rfl rfl Try.func50 (by kernel_rfl) rfl #[.int .i64 a0] rfl (by (try simp only [List.map_toArray, List.map_cons, List.map_nil]); first | done | rfl | (simp only [List.length_drop, List.length_take]; rfl)) ?_; (with_reducible refine (cmp_isNaN_int64.calls a0 false _ A3.out).mono ?_); rintro e w' ⟨rfl, ⟨nd, rfl⟩⟩; refine ⟨_, rfl, ?_⟩) | ((with_reducible refine gate_callee (f := 50) rfl ?_); refine goesL_ (some 10) rfl rfl Try.func50 (by kernel_rfl) rfl #[.int .i64 a1] rfl (by (try simp only [List.map_toArray, List.map_cons, List.map_nil]); first | done | rfl | (simp only [List.length_drop, List.length_take]; rfl)) ?_; (with_reducible refine (cmp_isNaN_int64.calls a1 false _ A4.out).mono ?_); rintro e w' ⟨rfl, ⟨nd, rfl⟩⟩; refine ⟨_, rfl, ?_⟩))
          go_ret
          exact ⟨by first | rfl | (simp; done) | (simp [*]; done), by repeat (first | exact Drawn0.refl _ | apply Drawn0.step)⟩
def call_candidate_better.f (k : Nat) (a0_0 : Int) (a0_1 : Int) (a0_2 : Int) (a0_3 : Int) (a1_0 : Int) (a1_1 : Int) (a1_2 : Int) (a1_3 : Int) : Option (Bool) := (cmp_Compare_int64.f a1_1 a0_1).bind fun t133 => ((cmp_Compare_int64.f a0_2 a1_2).bind fun t134 => ((cmp_Compare_int64.f a0_3 a1_3).bind fun t135 => ((cmp_Compare_int64.f a0_0 a1_0).bind fun t136 => ((cmp_Or_int.f k (([t133, t134, t135, t136] : List Int))).bind fun t140 => (some (decide (t140 < 0)))))))
theorem call_candidate_better.mono : ∀ a0 a1 a2 a3 a4 a5 a6 a7 k, LeO (call_candidate_better.f k a0 a1 a2 a3 a4 a5 a6 a7) (call_candidate_better.f (k + 1) a0 a1 a2 a3 a4 a5 a6 a7) := by
  intro a0 a1 a2 a3 a4 a5 a6 a7 k
  unfold call_candidate_better.f
  repeat' first
      | (with_reducible exact cmp_Or_int.mono _ _)
      | (with_reducible exact LeO.refl _)
      | (with_reducible exact LeO.none _)
      | (with_reducible refine LeO.ite ?_ ?_)
      | (with_reducible refine LeO.bind ?_ (fun _ => ?_))
      | exact cmp_Or_int.mono _ _
      | exact LeO.none _
      | refine LeO.ite ?_ ?_
      | refine LeO.bind ?_ (fun _ => ?_)
def call_candidate_better.T2 : Bool × List (List Nat × List Nat) := (true, [([], []), ([], []), ([1], [1]), ([], []), ([3], [3]), ([2, 4], [2, 4]), ([], []), ([6], [6]), ([], []), ([8], [8]), ([7, 9, 5], [7, 9]), ([], []), ([11], [11]), ([], []), ([13], [13]), ([12, 14, 10], [12, 14]), ([0, 5, 10, 15], [0, 5, 10, 15]), ([16, 15], [16]), ([17], [17]), ([18, 17, 0, 1, 2, 3, 4, 5, 6, 7, 8, 9, 10, 11, 12, 13, 14, 15, 16, 17, 18], [18])])
def call_candidate_better.B2 : List Nat := [0, 0, 2, 0, 8, 30, 0, 64, 0, 256, 1022, 0, 2048, 0, 8192, 32766, 65535, 131071, 262143, 524287]
theorem call_candidate_better.tab2 : rtab .any (opsOf Try.f18 2) = call_candidate_better.T2 := by kernel_rfl
theorem call_candidate_better.bits2 : waitsOk call_candidate_better.T2.2 call_candidate_better.B2 = true := by kernel_rfl
set_option maxHeartbeats 8000000 in
set_option maxRecDepth 100000 in
theorem call_candidate_better.calls (k : Nat) (a0_0 : Int) (a0_1 : Int) (a0_2 : Int) (a0_3 : Int) (a1_0 : Int) (a1_1 : Int) (a1_2 : Int) (a1_3 : Int) (r : Bool) (w : World) (h : call_candidate_better.f k a0_0 a0_1 a0_2 a0_3 a1_0 a1_1 a1_2 a1_3 = some r) :
    Calls Try.prog 18 #[.agg #[.int .i64 a0_0, .int .i64 a0_1, .int .i64 a0_2, .int .i64 a0_3], .agg #[.int .i64 a1_0, .int .i64 a1_1, .int .i64 a1_2, .int .i64 a1_3]] w fun e w' => e = .returned (.bool r) ∧ Below w.heap.size w w' := by
  have hu52 := Try.underlying52
  have HB := Aside0.mk (Below.refl w.heap.size w)
  have H : ((cmp_Compare_int64.f a1_1 a0_1).bind fun t133 => ((cmp_Compare_int64.f a0_2 a1_2).bind fun t134 => ((cmp_Compare_int64.f a0_3 a1_3).bind fun t135 => ((cmp_Compare_int64.f a0_0 a1_0).bind fun t136 => ((cmp_Or_int.f k (([t133, t134, t135, t136] : List Int))).bind fun t140 => (some (decide (t140 < 0)))))))) = some r := h
  clear h
  replace H := Option.bind_eq_some_iff.mp H
  obtain ⟨t133, A30, H⟩ := H
  replace H : ((cmp_Compare_int64.f a0_2 a1_2).bind fun t134 => ((cmp_Compare_int64.f a0_3 a1_3).bind fun t135 => ((cmp_Compare_int64.f a0_0 a1_0).bind fun t136 => ((cmp_Or_int.f k (([t133, t134, t135, t136] : List Int))).bind fun t140 => (some (decide (t140 < 0))))))) = some r := H
  have A3 := Aside0.mk A30
  clear A30
  replace H := Option.bind_eq_some_iff.mp H
  obtain ⟨t134, A40, H⟩ := H
  replace H : ((cmp_Compare_int64.f a0_3 a1_3).bind fun t135 => ((cmp_Compare_int64.f a0_0 a1_0).bind fun t136 => ((cmp_Or_int.f k (([t133, t134, t135, t136] : List Int))).bind fun t140 => (some (decide (t140 < 0)))))) = some r := H
  have A4 := Aside0.mk A40
  clear A40
  replace H := Option.bind_eq_some_iff.mp H
  obtain ⟨t135, A50, H⟩ := H
  replace H : ((cmp_Compare_int64.f a0_0 a1_0).bind fun t136 => ((cmp_Or_int.f k (([t133, t134, t135, t136] : List Int))).bind fun t140 => (some (decide (t140 < 0))))) = some r := H
  have A5 := Aside0.mk A50
  clear A50
  replace H := Option.bind_eq_some_iff.mp H
  obtain ⟨t136, A60, H⟩ := H
  replace H : ((cmp_Or_int.f k (([t133, t134, t135, t136] : List Int))).bind fun t140 => (some (decide (t140 < 0)))) = some r := H
  have A6 := Aside0.mk A60
  clear A60
  obtain ⟨y137, hy137⟩ : ∃ y_ : List Int, y_ = (([t133, t134, t135, t136] : List Int)) := ⟨_, rfl⟩
  replace H : ((cmp_Or_int.f k y137).bind fun t140 => (some (decide (t140 < 0)))) = some r := by first | (rw [hy137]; with_reducible exact H) | (have H2_ := (Option.bind_some _ _).symm.trans H; rw [hy137]; with_reducible exact H2_) | (have H2_ := (Option.bind_some _ _).symm.trans H; with_reducible exact H2_) | with_reducible exact H | (rw [hy137]; exact H) | exact H
  have Ny137 := Aside0.mk hy137
  clear hy137
  replace H := Option.bind_eq_some_iff.mp H
  obtain ⟨t140, A70, H⟩ := H
  replace H : (some (decide (t140 < 0))) = some r := H
  have A7 := Aside0.mk A70
  clear A70
  obtain rfl := Option.some.inj H
  go_enter Try.func18, Try.ntmps18
  try go_wp2_with (first | ((with_reducible refine gate_dst (N := 2) rfl ?_); refine box_event ?hg (N := 2) ?hd (cs := #[.int .i64 a0_0, .int .i64 a0_1, .int .i64 a0_2, .int .i64 a0_3]) (t := 52) ?hr ?_; (case hd => rfl); (case hg => rfl); (case hr => first | (go_simp; done) | (go_simp; rfl)); intro gb131 hg w8 hbox hb; have n0_ := Aside0.mk (below_step (by repeat (first | (with_reducible first | exact HB.out | apply below_alloc | apply pw_below_drewN | apply below_drew1) | exact HB.out)) hb); have n1_ := Aside0.mk (hbox); have n2_ := Aside0.mk ((by rw [hg]; exact (below_size (by repeat (first | (with_reducible first | exact HB.out | apply below_alloc | apply pw_below_drewN | apply below_drew1) | exact HB.out))) : w.heap.size ≤ gb131)); have n3_ := Aside0.mk ((by rw [hg]; exact (below_size (by repeat (first | (with_reducible first | exact HB.out | apply below_alloc | apply pw_below_drewN | apply below_drew1) | exact HB.out))) : w.heap.size ≤ gb131)); clear HB; have HB := n0_; have BK131 := n1_; have GW131 := n2_; have GE131 := n3_; clear n0_ n1_ n2_ n3_; clear hb hbox hg) | ((with_reducible refine gate_dst (N := 3) rfl ?_); refine box_event ?hg (N := 3) ?hd (cs := #[.int .i64 a1_0, .int .i64 a1_1, .int .i64 a1_2, .int .i64 a1_3]) (t := 52) ?hr ?_; (case hd => rfl); (case hg => rfl); (case hr => first | (go_simp; done) | (go_simp; rfl)); intro gb132 hg w9 hbox hb; have n0_ := Aside0.mk (blk_below (g := gb131) (o := .cells #[.int .i64 a0_0, .int .i64 a0_1, .int .i64 a0_2, .int .i64 a0_3] 52 (0, 0)) (by (with_reducible repeat (first | refine blk_drewN ?_ _ | refine blk_drew ?_ | refine blk_alloc ?_ _)); exact BK131.out) hb); have n1_ := Aside0.mk (below_step (by repeat (first | (with_reducible first | exact HB.out | apply below_alloc | apply pw_below_drewN | apply below_drew1 | refine below_set ?_ GE131.out) | exact HB.out)) hb); have n2_ := Aside0.mk (hbox); have n3_ := Aside0.mk ((by rw [hg]; exact (below_size (by repeat (first | (with_reducible first | exact HB.out | apply below_alloc | apply pw_below_drewN | apply below_drew1 | refine below_set ?_ GE131.out) | exact HB.out))) : w.heap.size ≤ gb132)); have n4_ := Aside0.mk ((by rw [hg]; exact (below_size (by repeat (first | (with_reducible first | exact HB.out | apply below_alloc | apply pw_below_drewN | apply below_drew1 | refine below_set ?_ GE131.out) | exact HB.out))) : w.heap.size ≤ gb132)); have n5_ := Aside0.mk ((by rw [hg]; exact Nat.ne_of_lt (blk_lt (g := gb131) (o := .cells #[.int .i64 a0_0, .int .i64 a0_1, .int .i64 a0_2, .int .i64 a0_3] 52 (0, 0)) (by (with_reducible repeat (first | refine blk_drewN ?_ _ | refine blk_drew ?_ | refine blk_alloc ?_ _)); exact BK131.out)) : gb131 ≠ gb132)); have n6_ := Aside0.mk ((by rw [hg]; exact Nat.ne_of_gt (blk_lt (g := gb131) (o := .cells #[.int .i64 a0_0, .int .i64 a0_1, .int .i64 a0_2, .int .i64 a0_3] 52 (0, 0)) (by (with_reducible repeat (first | refine blk_drewN ?_ _ | refine blk_drew ?_ | refine blk_alloc ?_ _)); exact BK131.out)) : gb132 ≠ gb131)); clear BK131; clear HB; have BK131 := n0_; have HB := n1_; have BK132 := n2_; have GW132 := n3_; have GE132 := n4_; have NB131_132 := n5_; have NB132_131 := n6_; clear n0_ n1_ n2_ n3_ n4_ n5_ n6_; clear hb hbox hg; have hnb10 := NB132_131.out; have hnc10 := NB131_132.out; have hcz11_0 : w9.cell? ⟨gb132, 0, none⟩ = some (.int .i64 a1_0) := (blk_cell BK132.out 0).trans rfl; have hcz11_1 : w9.cell? ⟨gb132, 1, none⟩ = some (.int .i64 a1_1) := (blk_cell BK132.out 1).trans rfl; have hcz11_2 : w9.cell? ⟨gb132, 2, none⟩ = some (.int .i64 a1_2) := (blk_cell BK132.out 2).trans rfl; have hcz11_3 : w9.cell? ⟨gb132, 3, none⟩ = some (.int .i64 a1_3) := (blk_cell BK132.out 3).trans rfl; have hfz11_0 := blk_frozen BK132.out 0; have hfz11_1 := blk_frozen BK132.out 1; have hfz11_2 := blk_frozen BK132.out 2; have hfz11_3 := blk_frozen BK132.out 3; have hcz12_0 : w9.cell? ⟨gb131, 0, none⟩ = some (.int .i64 a0_0) := (blk_cell BK131.out 0).trans rfl; have hcz12_1 : w9.cell? ⟨gb131, 1, none⟩ = some (.int .i64 a0_1) := (blk_cell BK131.out 1).trans rfl; have hcz12_2 : w9.cell? ⟨gb131, 2, none⟩ = some (.int .i64 a0_2) := (blk_cell BK131.out 2).trans rfl; have hcz12_3 : w9.cell? ⟨gb131, 3, none⟩ = some (.int .i64 a0_3) := (blk_cell BK131.out 3).trans rfl; have hfz12_0 := blk_frozen BK131.out 0; have hfz12_1 := blk_frozen BK131.out 1; have hfz12_2 := blk_frozen BK131.out 2; have hfz12_3 := blk_frozen BK131.out 3) | ((with_reducible refine gate_callee (f := 31) rfl ?_); refine goesL_ (some 10) rfl rfl Try.func31 (by kernel_rfl) rfl #[.int .i64 a1_1, .int .i64 a0_1] rfl (by (try simp only [List.map_toArray, List.map_cons, List.map_nil]); first | done | rfl | (simp only [List.length_drop, List.length_take]; rfl)) ?_; (with_reducible refine (cmp_Compare_int64.calls a1_1 a0_1 t133 _ A3.out).mono ?_); rintro e w' ⟨rfl, ⟨nd, rfl⟩⟩; refine ⟨_, rfl, ?_⟩))
  (try (rw [drewN_self w9]; generalize hq_ : World.drewN w9 _ = w9; have n0_ : Aside0 (w9.heap[gb131]? = some (.cells #[.int .i64 a0_0, .int .i64 a0_1, .int .i64 a0_2, .int .i64 a0_3] 52 (0, 0))) := ⟨by rw [← hq_]; exact (by (with_reducible repeat (first | refine blk_drewN ?_ _ | refine blk_drew ?_ | refine blk_alloc ?_ _)); exact BK131.out)⟩; have n1_ : Aside0 (w9.heap[gb132]? = some (.cells #[.int .i64 a1_0, .int .i64 a1_1, .int .i64 a1_2, .int .i64 a1_3] 52 (0, 0))) := ⟨by rw [← hq_]; exact (by (with_reducible repeat (first | refine blk_drewN ?_ _ | refine blk_drew ?_ | refine blk_alloc ?_ _)); exact BK132.out)⟩; have n2_ : Aside0 (Below w.heap.size w w9) := ⟨by rw [← hq_]; exact (by repeat (first | (with_reducible first | exact HB.out | apply below_alloc | apply pw_below_drewN | apply below_drew1 | refine below_set ?_ GE131.out | refine below_set ?_ GE132.out) | exact HB.out))⟩; clear BK131 BK132 HB hq_; have BK131 := n0_; have BK132 := n1_; have HB := n2_; clear n0_ n1_ n2_))
  have n0_ := Aside0.mk (blk_drew BK131.out)
  have n1_ := Aside0.mk (blk_drew BK132.out)
  have n2_ := Aside0.mk (below_drew1 HB.out)
  clear BK131
  clear BK132
  clear HB
  have BK131 := n0_
  have BK132 := n1_
  have HB := n2_
  clear n0_ n1_ n2_
  refine start_ (n := 20) (S := fun w' => w'.cell? ⟨gb131, 0, none⟩ = some (.int .i64 a0_0) ∧ w'.cell? ⟨gb131, 1, none⟩ = some (.int .i64 a0_1) ∧ w'.cell? ⟨gb131, 2, none⟩ = some (.int .i64 a0_2) ∧ w'.cell? ⟨gb131, 3, none⟩ = some (.int .i64 a0_3) ∧ w'.cell? ⟨gb132, 0, none⟩ = some (.int .i64 a1_0) ∧ w'.cell? ⟨gb132, 1, none⟩ = some (.int .i64 a1_1) ∧ w'.cell? ⟨gb132, 2, none⟩ = some (.int .i64 a1_2) ∧ w'.cell? ⟨gb132, 3, none⟩ = some (.int .i64 a1_3)) (ds := []) #[false, false, false, false, false, false, false, false, false, false, false, false, false, false, false, false, false, false, false, false] (by kernel_rfl) rfl rfl ⟨(blk_cell BK131.out 0).trans rfl, (blk_cell BK131.out 1).trans rfl, (blk_cell BK131.out 2).trans rfl, (blk_cell BK131.out 3).trans rfl, (blk_cell BK132.out 0).trans rfl, (blk_cell BK132.out 1).trans rfl, (blk_cell BK132.out 2).trans rfl, (blk_cell BK132.out 3).trans rfl⟩ (fun hHeld => ?_); refine with_tabW call_candidate_better.tab2 call_candidate_better.bits2 (fun HT_ HW_ => ?_)
  generalize w9.drew = w13 at BK131 BK132 HB hHeld ⊢
  refine pure_ (i := 0) (N := some 11) (v := ?_) (a' := ?_) #[true, false, false, false, false, false, false, false, false, false, false, false, false, false, false, false, false, false, false, false] rfl rfl (any_of HT_.out (by kernel_rfl)) (fun _ _ _ h => h) (Or.inl ⟨by rfl, ?_⟩) ?_ ?_
  rotate_left
  · intro w'
    go_simp
    with_reducible rfl
  rotate_left
  · simp only [Act.put, List.setIfInBounds_toArray, List.set_cons_zero, List.set_cons_succ, i64_w, i32_w]
    rfl
  refine pure_ (i := 1) (N := some 12) (v := ?_) (a' := ?_) #[true, true, false, false, false, false, false, false, false, false, false, false, false, false, false, false, false, false, false, false] rfl rfl (any_of HT_.out (by kernel_rfl)) (fun _ _ _ h => h) (Or.inl ⟨by rfl, ?_⟩) ?_ ?_
  rotate_left
  · intro w'
    go_simp
    with_reducible rfl
  rotate_left
  · simp only [Act.put, List.setIfInBounds_toArray, List.set_cons_zero, List.set_cons_succ, i64_w, i32_w]
    rfl
  refine pure_ (i := 3) (N := some 14) (v := ?_) (a' := ?_) #[true, true, false, true, false, false, false, false, false, false, false, false, false, false, false, false, false, false, false, false] rfl rfl (any_of HT_.out (by kernel_rfl)) (fun _ _ _ h => h) (Or.inl ⟨by rfl, ?_⟩) ?_ ?_
  rotate_left
  · intro w'
    go_simp
    with_reducible rfl
  rotate_left
  · simp only [Act.put, List.setIfInBounds_toArray, List.set_cons_zero, List.set_cons_succ, i64_w, i32_w]
    rfl
  refine pure_ (i := 6) (N := some 17) (v := ?_) (a' := ?_) #[true, true, false, true, false, false, true, false, false, false, false, false, false, false, false, false, false, false, false, false] rfl rfl (any_of HT_.out (by kernel_rfl)) (fun _ _ _ h => h) (Or.inl ⟨by rfl, ?_⟩) ?_ ?_
  rotate_left
  · intro w'
    go_simp
    with_reducible rfl
  rotate_left
  · simp only [Act.put, List.setIfInBounds_toArray, List.set_cons_zero, List.set_cons_succ, i64_w, i32_w]
    rfl
  refine pure_ (i := 8) (N := some 19) (v := ?_) (a' := ?_) #[true, true, false, true, false, false, true, false, true, false, false, false, false, false, false, false, false, false, false, false] rfl rfl (any_of HT_.out (by kernel_rfl)) (fun _ _ _ h => h) (Or.inl ⟨by rfl, ?_⟩) ?_ ?_
  rotate_left
  · intro w'
    go_simp
    with_reducible rfl
  rotate_left
  · simp only [Act.put, List.setIfInBounds_toArray, List.set_cons_zero, List.set_cons_succ, i64_w, i32_w]
    rfl
  refine pure_ (i := 11) (N := some 22) (v := ?_) (a' := ?_) #[true, true, false, true, false, false, true, false, true, false, false, true, false, false, false, false, false, false, false, false] rfl rfl (any_of HT_.out (by kernel_rfl)) (fun _ _ _ h => h) (Or.inl ⟨by rfl, ?_⟩) ?_ ?_
  rotate_left
  · intro w'
    go_simp
    with_reducible rfl
  rotate_left
  · simp only [Act.put, List.setIfInBounds_toArray, List.set_cons_zero, List.set_cons_succ, i64_w, i32_w]
    rfl
  refine pure_ (i := 13) (N := some 24) (v := ?_) (a' := ?_) #[true, true, false, true, false, false, true, false, true, false, false, true, false, true, false, false, false, false, false, false] rfl rfl (any_of HT_.out (by kernel_rfl)) (fun _ _ _ h => h) (Or.inl ⟨by rfl, ?_⟩) ?_ ?_
  rotate_left
  · intro w'
    go_simp
    with_reducible rfl
  rotate_left
  · simp only [Act.put, List.setIfInBounds_toArray, List.set_cons_zero, List.set_cons_succ, i64_w, i32_w]
    rfl
  refine take_ (i := 2) (N := some 13) (v := ?_) (a' := ?_) #[true, true, true, true, false, false, true, false, true, false, false, true, false, true, false, false, false, false, false, false] rfl rfl (take_ofW HT_.out HW_.out (by kernel_rfl)) (fun _ _ _ h => h) (Or.inl ⟨by rfl, ?_⟩) hHeld ?_ ?_
  rotate_left
  · rintro w' ⟨s0, s1, s2, s3, s4, s5, s6, s7⟩
    go_simp
    with_reducible rfl
  rotate_left
  · simp only [Act.put, List.setIfInBounds_toArray, List.set_cons_zero, List.set_cons_succ, i64_w, i32_w]
    rfl
  refine take_ (i := 4) (N := some 15) (v := ?_) (a' := ?_) #[true, true, true, true, true, false, true, false, true, false, false, true, false, true, false, false, false, false, false, false] rfl rfl (take_ofW HT_.out HW_.out (by kernel_rfl)) (fun _ _ _ h => h) (Or.inl ⟨by rfl, ?_⟩) hHeld ?_ ?_
  rotate_left
  · rintro w' ⟨s0, s1, s2, s3, s4, s5, s6, s7⟩
    go_simp
    with_reducible rfl
  rotate_left
  · simp only [Act.put, List.setIfInBounds_toArray, List.set_cons_zero, List.set_cons_succ, i64_w, i32_w]
    rfl
  refine take_ (i := 7) (N := some 18) (v := ?_) (a' := ?_) #[true, true, true, true, true, false, true, true, true, false, false, true, false, true, false, false, false, false, false, false] rfl rfl (take_ofW HT_.out HW_.out (by kernel_rfl)) (fun _ _ _ h => h) (Or.inl ⟨by rfl, ?_⟩) hHeld ?_ ?_
  rotate_left
  · rintro w' ⟨s0, s1, s2, s3, s4, s5, s6, s7⟩
    go_simp
    with_reducible rfl
  rotate_left
  · simp only [Act.put, List.setIfInBounds_toArray, List.set_cons_zero, List.set_cons_succ, i64_w, i32_w]
    rfl
  refine take_ (i := 9) (N := some 20) (v := ?_) (a' := ?_) #[true, true, true, true, true, false, true, true, true, true, false, true, false, true, false, false, false, false, false, false] rfl rfl (take_ofW HT_.out HW_.out (by kernel_rfl)) (fun _ _ _ h => h) (Or.inl ⟨by rfl, ?_⟩) hHeld ?_ ?_
  rotate_left
  · rintro w' ⟨s0, s1, s2, s3, s4, s5, s6, s7⟩
    go_simp
    with_reducible rfl
  rotate_left
  · simp only [Act.put, List.setIfInBounds_toArray, List.set_cons_zero, List.set_cons_succ, i64_w, i32_w]
    rfl
  refine take_ (i := 12) (N := some 23) (v := ?_) (a' := ?_) #[true, true, true, true, true, false, true, true, true, true, false, true, true, true, false, false, false, false, false, false] rfl rfl (take_ofW HT_.out HW_.out (by kernel_rfl)) (fun _ _ _ h => h) (Or.inl ⟨by rfl, ?_⟩) hHeld ?_ ?_
  rotate_left
  · rintro w' ⟨s0, s1, s2, s3, s4, s5, s6, s7⟩
    go_simp
    with_reducible rfl
  rotate_left
  · simp only [Act.put, List.setIfInBounds_toArray, List.set_cons_zero, List.set_cons_succ, i64_w, i32_w]
    rfl
  refine take_ (i := 14) (N := some 25) (v := ?_) (a' := ?_) #[true, true, true, true, true, false, true, true, true, true, false, true, true, true, true, false, false, false, false, false] rfl rfl (take_ofW HT_.out HW_.out (by kernel_rfl)) (fun _ _ _ h => h) (Or.inl ⟨by rfl, ?_⟩) hHeld ?_ ?_
  rotate_left
  · rintro w' ⟨s0, s1, s2, s3, s4, s5, s6, s7⟩
    go_simp
    with_reducible rfl
  rotate_left
  · simp only [Act.put, List.setIfInBounds_toArray, List.set_cons_zero, List.set_cons_succ, i64_w, i32_w]
    rfl
  refine one_ (i := 5) (N := some 16) #[true, true, true, true, true, true, true, true, true, true, false, true, true, true, true, false, false, false, false, false] rfl rfl (one_of HT_.out (by kernel_rfl)) (by decide) (fun K hK => ?_)
  refine goes_ Try.func31 (by kernel_rfl) rfl #[.int .i64 a0_2, .int .i64 a1_2] (by rfl) rfl rfl (by (try simp only [List.map_toArray, List.map_cons, List.map_nil]); first | done | rfl | (simp only [List.length_drop, List.length_take]; rfl)) ?_
  with_reducible refine (cmp_Compare_int64.calls a0_2 a1_2 t134 _ A4.out).mono ?_
  rintro e w' ⟨rfl, ⟨nd, rfl⟩⟩
  refine ⟨_, rfl, ?_⟩
  refine hK.out _ _ ⟨(blk_cell BK131.out 0).trans rfl, (blk_cell BK131.out 1).trans rfl, (blk_cell BK131.out 2).trans rfl, (blk_cell BK131.out 3).trans rfl, (blk_cell BK132.out 0).trans rfl, (blk_cell BK132.out 1).trans rfl, (blk_cell BK132.out 2).trans rfl, (blk_cell BK132.out 3).trans rfl⟩ (fun hHeld => ?_)
  clear hK K
  refine norm_ (a' := ?_) ?_ ?_
  rotate_left
  · show Act.put _ (some 16) _ = _
    simp only [Act.put, List.setIfInBounds_toArray, List.set_cons_zero, List.set_cons_succ, i64_w, i32_w]
    rfl
  refine one_ (i := 10) (N := some 21) #[true, true, true, true, true, true, true, true, true, true, true, true, true, true, true, false, false, false, false, false] rfl rfl (one_of HT_.out (by kernel_rfl)) (by decide) (fun K hK => ?_)
  refine goes_ Try.func31 (by kernel_rfl) rfl #[.int .i64 a0_3, .int .i64 a1_3] (by rfl) rfl rfl (by (try simp only [List.map_toArray, List.map_cons, List.map_nil]); first | done | rfl | (simp only [List.length_drop, List.length_take]; rfl)) ?_
  with_reducible refine (cmp_Compare_int64.calls a0_3 a1_3 t135 _ A5.out).mono ?_
  rintro e w' ⟨rfl, ⟨nd, rfl⟩⟩
  refine ⟨_, rfl, ?_⟩
  refine hK.out _ _ ⟨(blk_cell BK131.out 0).trans rfl, (blk_cell BK131.out 1).trans rfl, (blk_cell BK131.out 2).trans rfl, (blk_cell BK131.out 3).trans rfl, (blk_cell BK132.out 0).trans rfl, (blk_cell BK132.out 1).trans rfl, (blk_cell BK132.out 2).trans rfl, (blk_cell BK132.out 3).trans rfl⟩ (fun hHeld => ?_)
  clear hK K
  refine norm_ (a' := ?_) ?_ ?_
  rotate_left
  · show Act.put _ (some 21) _ = _
    simp only [Act.put, List.setIfInBounds_toArray, List.set_cons_zero, List.set_cons_succ, i64_w, i32_w]
    rfl
  refine one_ (i := 15) (N := some 26) #[true, true, true, true, true, true, true, true, true, true, true, true, true, true, true, true, false, false, false, false] rfl rfl (one_of HT_.out (by kernel_rfl)) (by decide) (fun K hK => ?_)
  refine goes_ Try.func31 (by kernel_rfl) rfl #[.int .i64 a0_0, .int .i64 a1_0] (by rfl) rfl rfl (by (try simp only [List.map_toArray, List.map_cons, List.map_nil]); first | done | rfl | (simp only [List.length_drop, List.length_take]; rfl)) ?_
  with_reducible refine (cmp_Compare_int64.calls a0_0 a1_0 t136 _ A6.out).mono ?_
  rintro e w' ⟨rfl, ⟨nd, rfl⟩⟩
  refine ⟨_, rfl, ?_⟩
  refine hK.out _ _ ⟨(blk_cell BK131.out 0).trans rfl, (blk_cell BK131.out 1).trans rfl, (blk_cell BK131.out 2).trans rfl, (blk_cell BK131.out 3).trans rfl, (blk_cell BK132.out 0).trans rfl, (blk_cell BK132.out 1).trans rfl, (blk_cell BK132.out 2).trans rfl, (blk_cell BK132.out 3).trans rfl⟩ (fun hHeld => ?_)
  clear hK K
  refine norm_ (a' := ?_) ?_ ?_
  rotate_left
  · show Act.put _ (some 26) _ = _
    simp only [Act.put, List.setIfInBounds_toArray, List.set_cons_zero, List.set_cons_succ, i64_w, i32_w]
    rfl
  refine one_ (i := 16) (N := some 27) #[true, true, true, true, true, true, true, true, true, true, true, true, true, true, true, true, true, false, false, false] rfl rfl (one_of HT_.out (by kernel_rfl)) (by decide) (fun K hK => ?_)
  refine Kd.R_lit_step (Kd.int .i64) _ 3 ?hg (N := 27) ?hd (xs := ([t133, t134, t135, t136] : List Int)) (inner := [.int .i64 t133, .int .i64 t134, .int .i64 t135, .int .i64 t136]) (ok := fun _ => True) (okp := fun _ => True) ?hr ?hp (fun _ hk => hk) trivial (Below.refl _ _) (Nat.le_refl _) (by simp) ?_; (case hd => rfl); (case hg => rfl); (case hr => first | (go_simp; done) | (go_simp; rfl)); (case hp => exact (Reps.one (show Kd.M (Kd.int .i64) _ _ _ t133 [.int .i64 t133] from rfl) (Reps.one (show Kd.M (Kd.int .i64) _ _ _ t134 [.int .i64 t134] from rfl) (Reps.one (show Kd.M (Kd.int .i64) _ _ _ t135 [.int .i64 t135] from rfl) (Reps.one (show Kd.M (Kd.int .i64) _ _ _ t136 [.int .i64 t136] from rfl) (Reps.none _ _))))))
  intro v138 w14 ho15 hb hg_ hnew_
  clear hg_ hnew_
  (first | rw [← Ny137.out] at ho15 | (simp only [Int.reduceToNat] at ho15; rw [← Ny137.out] at ho15))
  have n0_ := Aside0.mk (Kd.R_lower ho15 (below_size (by repeat (first | (with_reducible first | exact HB.out | apply below_alloc | apply pw_below_drewN | apply below_drew1 | refine below_set ?_ GE131.out | refine below_set ?_ GE132.out) | exact HB.out))))
  have n1_ := Aside0.mk (blk_below (g := gb131) (o := .cells #[.int .i64 a0_0, .int .i64 a0_1, .int .i64 a0_2, .int .i64 a0_3] 52 (0, 0)) (by (with_reducible repeat (first | refine blk_drewN ?_ _ | refine blk_drew ?_ | refine blk_alloc ?_ _)); exact BK131.out) hb)
  have n2_ := Aside0.mk (blk_below (g := gb132) (o := .cells #[.int .i64 a1_0, .int .i64 a1_1, .int .i64 a1_2, .int .i64 a1_3] 52 (0, 0)) (by (with_reducible repeat (first | refine blk_drewN ?_ _ | refine blk_drew ?_ | refine blk_alloc ?_ _)); exact BK132.out) hb)
  have n3_ := Aside0.mk (below_step (by repeat (first | (with_reducible first | exact HB.out | apply below_alloc | apply pw_below_drewN | apply below_drew1 | refine below_set ?_ GE131.out | refine below_set ?_ GE132.out) | exact HB.out)) hb)
  clear BK131
  clear BK132
  clear HB
  have HO139 := n0_
  have BK131 := n1_
  have BK132 := n2_
  have HB := n3_
  clear n0_ n1_ n2_ n3_
  clear hb ho15
  obtain ⟨Ao16, co16, eo16⟩ := Kd.R_slice HO139.out
  (first | subst eo16 | (injection eo16 with f1_ f2_ f3_; have f4_ := f1_.symm; have f5_ := f3_.symm; clear f1_ f2_ f3_; subst f4_; subst f5_))
  refine hK.out _ _ ⟨(blk_cell BK131.out 0).trans rfl, (blk_cell BK131.out 1).trans rfl, (blk_cell BK131.out 2).trans rfl, (blk_cell BK131.out 3).trans rfl, (blk_cell BK132.out 0).trans rfl, (blk_cell BK132.out 1).trans rfl, (blk_cell BK132.out 2).trans rfl, (blk_cell BK132.out 3).trans rfl⟩ (fun hHeld => ?_)
  clear hK K
  refine norm_ (a' := ?_) ?_ ?_
  rotate_left
  · show Act.put _ (some 27) _ = _
    simp only [Act.put, List.setIfInBounds_toArray, List.set_cons_zero, List.set_cons_succ, i64_w, i32_w]
    rfl
  refine one_ (i := 17) (N := some 28) #[true, true, true, true, true, true, true, true, true, true, true, true, true, true, true, true, true, true, false, false] rfl rfl (one_of HT_.out (by kernel_rfl)) (by decide) (fun K hK => ?_)
  refine goes_ Try.func32 (by kernel_rfl) rfl #[.slice Ao16 y137.length co16] (by rfl) rfl rfl (by (try simp only [List.map_toArray, List.map_cons, List.map_nil]); first | done | rfl | (simp only [List.length_drop, List.length_take]; rfl)) ?_
  with_reducible refine (cmp_Or_int.calls k _ _ y137 t140 _ ?side1 ?side2 A7.out).mono ?_
  (case side1 => repeat (first | exact (Kd.R_reads' HO139.out).2.2 | (with_reducible refine Kd.C_alloc ?_ _) | (with_reducible refine Kd.C_drewN ?_ _) | (with_reducible refine Kd.C_drew ?_)))
  (case side2 => exact (Kd.R_reads' HO139.out).2.1)
  rintro e w' ⟨rfl, ⟨nd, rfl⟩⟩
  refine ⟨_, rfl, ?_⟩
  refine hK.out _ _ ⟨(blk_cell BK131.out 0).trans rfl, (blk_cell BK131.out 1).trans rfl, (blk_cell BK131.out 2).trans rfl, (blk_cell BK131.out 3).trans rfl, (blk_cell BK132.out 0).trans rfl, (blk_cell BK132.out 1).trans rfl, (blk_cell BK132.out 2).trans rfl, (blk_cell BK132.out 3).trans rfl⟩ (fun hHeld => ?_)
  clear hK K
  refine norm_ (a' := ?_) ?_ ?_
  rotate_left
  · show Act.put _ (some 28) _ = _
    simp only [Act.put, List.setIfInBounds_toArray, List.set_cons_zero, List.set_cons_succ, i64_w, i32_w]
    rfl
  refine pure_ (i := 18) (N := some 29) (v := ?_) (a' := ?_) #[true, true, true, true, true, true, true, true, true, true, true, true, true, true, true, true, true, true, true, false] rfl rfl (any_of HT_.out (by kernel_rfl)) (fun _ _ _ h => h) (Or.inl ⟨by rfl, ?_⟩) ?_ ?_
  rotate_left
  · intro w'
    go_simp
    with_reducible rfl
  rotate_left
  · simp only [Act.put, List.setIfInBounds_toArray, List.set_cons_zero, List.set_cons_succ, i64_w, i32_w]
    rfl
  refine pure_ (i := 19) (N := some 4) (v := ?_) (a' := ?_) #[true, true, true, true, true, true, true, true, true, true, true, true, true, true, true, true, true, true, true, true] rfl rfl (any_of HT_.out (by kernel_rfl)) (fun _ _ _ h => h) (Or.inl ⟨by rfl, ?_⟩) ?_ ?_
  rotate_left
  · intro w'
    go_simp
    with_reducible rfl
  rotate_left
  · simp only [Act.put, List.setIfInBounds_toArray, List.set_cons_zero, List.set_cons_succ, i64_w, i32_w]
    rfl
  refine done_ (done_of HT_.out (by kernel_rfl)) ?_
  try go_wp2
  go_ret
  exact ⟨by first | rfl | (simp [errW_none, errW_some] <;> rfl) | (simp [*, errW_none, errW_some] <;> rfl), by repeat (first | (with_reducible first | exact HB.out | apply below_alloc | apply pw_below_drewN | apply below_drew1 | refine below_set ?_ GE131.out | refine below_set ?_ GE132.out) | exact HB.out)⟩
abbrev SMp := SetM Try.prog 2 4 .i64
def MapP (g : Nat) (i : Nat) (S : List Int) : Part := fun w F => F g ∧ SMp w g i S
theorem SMp.of {w w' : World} {g i : Nat} {S : List Int} (h : SMp w g i S) (hb : w'.heap[g]? = w.heap[g]?) : SMp w' g i S := by
  obtain ⟨es, clock, h1, h2⟩ := h
  exact ⟨es, clock, hb.trans h1, h2⟩
theorem MapP.loc {g i : Nat} {S : List Int} : Loc (MapP g i S) :=
  ⟨fun h _ hh => ⟨h.1, h.2.of (hh g h.1 h.2.lt)⟩, fun h => ⟨⟨h.1, h.2.lt⟩, h.2⟩, fun h hh => ⟨hh g h.1, h.2⟩⟩
theorem St.map {W w : World} {F0 : Nat → Prop} {l : List Part} {g i : Nat} {S : List Int} (h : St W F0 w l) (j : Nat) (e : l[j]? = some (MapP g i S)) : SMp w g i S := by
  obtain ⟨F, h1⟩ := h.get j e
  exact h1.2
theorem St.mapPut {W w w' : World} {F0 : Nat → Prop} {l : List Part} {g i j : Nat} {S S' : List Int} (h : St W F0 w (MapP g i S :: l)) (hm : SMp w' g j S') (hg : w.grownBy w' (some g)) : St W F0 w' (MapP g j S' :: l) := by
  obtain ⟨F, hA, hF, hu⟩ := h.upd
  exact hu w' _ F (Fr.of_grown hg (fun k hk => by cases hk; exact hA.1)) (fun k hk => .inl hk) MapP.loc ⟨hA.1, hm⟩
abbrev Cand := Int × Int × Int × Int
def betM (c d : Cand) : Bool := (call_candidate_better.f 5 c.1 c.2.1 c.2.2.1 c.2.2.2 d.1 d.2.1 d.2.2.1 d.2.2.2).getD false
def takeC (c b : Cand) : Cand := if b = (0, 0, 0, 0) ∨ betM c b = true then c else b
def bestM (l0 : List SO) (last : Int) : List SO → List Int → Cand → Cand
  | [], _, b => b
  | x :: l, S, b => if S.contains x.f3 = true then bestM l0 last l S b else bestM l0 last l (x.f3 :: S) (takeC (lookM l0 x.f3 last) b)
theorem or_int_four (a b c d : Int) : ∃ r, cmp_Or_int.f 5 [a, b, c, d] = some r := by
  have e : rd [a, b, c, d] 0 = a := rfl
  have e1 : rd [a, b, c, d] 1 = b := rfl
  have e2 : rd [a, b, c, d] 2 = c := rfl
  have e3 : rd [a, b, c, d] 3 = d := rfl
  have w1 : wrap64 (0 + 1) = 1 := by decide +kernel
  have w2 : wrap64 (1 + 1) = 2 := by decide +kernel
  have w3 : wrap64 (2 + 1) = 3 := by decide +kernel
  have w4 : wrap64 (3 + 1) = 4 := by decide +kernel
  simp only [cmp_Or_int.f, cmp_Or_int.l0, List.length_cons, List.length_nil, e, e1, e2, e3, w1, w2, w3, w4]
  by_cases ha : a = 0 <;> by_cases hb : b = 0 <;> by_cases hc : c = 0 <;> by_cases hd : d = 0 <;> simp [ha, hb, hc, hd, e1, e2, e3, w1, w2, w3, w4]
theorem compare_i64 (a b : Int) : ∃ c, cmp_Compare_int64.f a b = some c := by
  simp only [cmp_Compare_int64.f, cmp_isNaN_int64.f, Option.bind_some]
  repeat' split
  all_goals exact ⟨_, rfl⟩
theorem betM_some (c d : Cand) : call_candidate_better.f 5 c.1 c.2.1 c.2.2.1 c.2.2.2 d.1 d.2.1 d.2.2.1 d.2.2.2 = some (betM c d) := by
  obtain ⟨r, hr⟩ : ∃ r, call_candidate_better.f 5 c.1 c.2.1 c.2.2.1 c.2.2.2 d.1 d.2.1 d.2.2.1 d.2.2.2 = some r := by
    obtain ⟨a1, h1⟩ := compare_i64 d.2.1 c.2.1
    obtain ⟨a2, h2⟩ := compare_i64 c.2.2.1 d.2.2.1
    obtain ⟨a3, h3⟩ := compare_i64 c.2.2.2 d.2.2.2
    obtain ⟨a4, h4⟩ := compare_i64 c.1 d.1
    obtain ⟨q, hq⟩ := or_int_four a1 a2 a3 a4
    simp only [call_candidate_better.f, h1, h2, h3, h4, hq, Option.bind_some]
    exact ⟨_, rfl⟩
  rw [hr, betM, hr]; rfl
def priceM (l : List SO) (last : Int) : Int × Int := if (bestM l last l [] (0, 0, 0, 0)).2.1 = 0 then (0, 0) else ((bestM l last l [] (0, 0, 0, 0)).1, (bestM l last l [] (0, 0, 0, 0)).2.1)
set_option maxHeartbeats 8000000 in
set_option maxRecDepth 100000 in
theorem call_price (W : World) (A0 : Option Addr) (c0 : Nat) (l : List SO) (hC : KO.C W A0 l.length l) (hc0 : l.length ≤ c0) (hbk : order_Book.f l = some true) (hg : ∀ x ∈ l, gdO x) (hlen : l.length ≤ 64) (last : Int) (hla : -9223372036854775808 ≤ last ∧ last ≤ 9223372036854775807) :
    Calls Try.prog 8 #[.slice A0 l.length c0, .int .i64 last] W fun e w' => e = .returned (.tuple #[.int .i64 (priceM l last).1, .int .i64 (priceM l last).2]) ∧ Below W.heap.size W w' := by
  have HC := Aside0.mk hC
  have HG := Aside0.mk hg
  obtain ⟨n, hn⟩ : ∃ x, l.length = x := ⟨_, rfl⟩
  have HBK := Aside0.mk (order_Book.calls A0 c0 l true W hC hc0 hbk)
  have KL := Aside0.mk (fun (w' : World) (hb : Below W.heap.size W w') (price : Int) (hp : 1 ≤ price ∧ price ≤ 1099511627776) => call_look w' A0 c0 l (Kd.C_below hC hb) hg hlen price last hp hla)
  rw [hn] at hlen HBK KL ⊢
  have HN := Aside0.mk hn
  obtain ⟨best, hbest⟩ : ∃ b, bestM l last l [] (0, 0, 0, 0) = b := ⟨_, rfl⟩
  have HBEST := Aside0.mk hbest
  have HPM : Aside0 (priceM l last = if best.2.1 = 0 then (0, 0) else (best.1, best.2.1)) := ⟨by rw [priceM, hbest]⟩
  have S0 := St.start W (fun _ => False)
  have hmm := @run_makeMap Try.prog
  clear hC hg hn hbk hc0 hla hbest
  go_enter Try.func8, Try.ntmps8
  go_upto_region 4 with (go_at_call 16; refine HBK.out.mono ?_; rintro e w1 ⟨rfl, hb⟩; have S1 := S0.call hb; clear hb S0)
  have hS0 := SetM.made Try.prog 2 4 .i64 w1
  have S2 : St W (fun _ => False) (w1.alloc (.map #[] 0)) [MapP w1.heap.size 0 []] := S1.new (below_alloc (Below.refl _ _) _) MapP.loc ⟨Nat.le_refl _, hS0⟩
  generalize w1.alloc (.map #[] 0) = w2 at S2 ⊢
  generalize w1.heap.size = gM at S2 ⊢
  clear hS0 S1 hmm
  go_wp2_with ((with_reducible refine gate_dst (N := 7) rfl ?_); refine box_event ?hg (N := 7) ?hd (cs := #[.int .i64 0, .int .i64 0, .int .i64 0, .int .i64 0]) (t := 52) ?hr ?_; (case hd => rfl); (case hg => rfl); (case hr => first | (go_simp; done) | (go_simp; rfl)); intro gB hg_ w3 hbB hb; have S3 := S2.box hg_ hb hbB; clear S2 hg_ hbB hb)
  have HS := Aside0.mk (S3.front 1 rfl)
  clear S3
  go_loopg [9, 10, 17] n (fun g1 v9 v10 v17 wr => ∃ (i : Nat) (iz : Int) (m : Nat) (S : List Int) (b0 b1 b2 b3 : Int), v17 = .int .i64 iz ∧ Aside0 (iz = i) ∧ 0 ≤ iz ∧ iz ≤ n ∧ n ≤ i + g1 ∧ i ≤ n ∧ Aside0 (m ≤ i) ∧ Aside0 (bestM l last (l.drop i) S (b0, b1, b2, b3) = best) ∧ Aside0 (St W (fun _ => False) wr [MapP gM m S, Pt gB #[.int .i64 b0, .int .i64 b1, .int .i64 b2, .int .i64 b3] 52]))
  case atStart => exact ⟨0, 0, 0, [], 0, 0, 0, 0, rfl, ⟨rfl⟩, by omega, by omega, by omega, by omega, ⟨by omega⟩, ⟨HBEST.out⟩, HS⟩
  case round =>
    clear HS HBEST
    obtain ⟨i, iz, m, S, b0, b1, b2, b3, rfl, HI, h0, h1, hgk, him, HM, HO, HS⟩ := hrel
    by_cases hlt : i < n
    · have hltz : iz < (n : Int) := by have := HI.out; omega
      have hx : i < l.length := by rw [HN.out]; exact hlt
      obtain ⟨ad, rfl, q0, q1, q2, q3, q4, q5⟩ := at_T42 HC.out iz h0 (by rw [HN.out]; exact hltz)
      have hrd : rd_T42 l iz = l[i] := by
        have : iz.toNat = i := by have := HI.out; omega
        show l.getD iz.toNat _ = _
        rw [this, List.getD, List.getElem?_eq_getElem hx]; rfl
      rw [hrd] at q0 q1 q2 q3 q4 q5
      have hgx := HG.out l[i] (List.getElem_mem hx)
      have hd : bestM l last (l.drop i) S (b0, b1, b2, b3) = if S.contains l[i].f3 = true then bestM l last (l.drop (i + 1)) S (b0, b1, b2, b3) else bestM l last (l.drop (i + 1)) (l[i].f3 :: S) (takeC (lookM l l[i].f3 last) (b0, b1, b2, b3)) := by rw [List.drop_eq_getElem_cons hx]; rfl
      rw [HO.out] at hd
      obtain ⟨x, hxx⟩ : ∃ x, l[i] = x := ⟨_, rfl⟩
      rw [hxx] at q0 q1 q2 q3 q4 q5 hgx hd
      obtain ⟨x0, x1, x2, x3, x4, x5⟩ := x
      unfold gdO at hgx
      dsimp only at q0 q1 q2 q3 q4 q5 hgx hd
      have HB := Aside0.mk HS.out.below
      replace q0 := (HB.out.cell (World.block_lt_of_cell? W _ q0)).trans q0
      replace q1 := (HB.out.cell (World.block_lt_of_cell? W _ q1)).trans q1
      replace q2 := (HB.out.cell (World.block_lt_of_cell? W _ q2)).trans q2
      replace q3 := (HB.out.cell (World.block_lt_of_cell? W _ q3)).trans q3
      replace q4 := (HB.out.cell (World.block_lt_of_cell? W _ q4)).trans q4
      replace q5 := (HB.out.cell (World.block_lt_of_cell? W _ q5)).trans q5
      have hwf : (Lit.int IntKind.i64 x3).wf = true := by simp [Lit.wf, IntKind.min, IntKind.max, IntKind.signed, IntKind.bits]; omega
      have HWF := Aside0.mk hwf
      have HGX := Aside0.mk hgx
      have HD := Aside0.mk hd
      have S0 := HS.out
      have wi : IntKind.i64.wrap (iz + 1) = iz + 1 := by have := HI.out; rw [IntKind.wrap_i64]; omega
      clear hrd hxx hx hgx hd hwf
      go_upto_region 8 with ((with_reducible refine gate_dst (N := 9) rfl ?_); refine box_event ?hg (N := 9) ?hd (cs := #[.int .u64 0, .int .i64 0, .int .i64 0, .int .i64 0, .int .i64 0, .int .u64 0]) (t := 42) ?hr ?_; (case hd => rfl); (case hg => rfl); (case hr => first | (go_simp; done) | (go_simp; rfl)); intro gO hg_ w1 hbB hb; have S1 := S0.box hg_ hb hbB; clear S0 hg_ hbB hb; have z0 : w1.cell? ⟨gO, 0, none⟩ = some (.int .u64 0) := (blk_cell (S1.blk 0 rfl) 0).trans rfl; have fz0 : w1.frozen? ⟨gO, 0, none⟩ = false := blk_frozen (S1.blk 0 rfl) 0; have z1 : w1.cell? ⟨gO, 1, none⟩ = some (.int .i64 0) := (blk_cell (S1.blk 0 rfl) 1).trans rfl; have fz1 : w1.frozen? ⟨gO, 1, none⟩ = false := blk_frozen (S1.blk 0 rfl) 1; have z2 : w1.cell? ⟨gO, 2, none⟩ = some (.int .i64 0) := (blk_cell (S1.blk 0 rfl) 2).trans rfl; have fz2 : w1.frozen? ⟨gO, 2, none⟩ = false := blk_frozen (S1.blk 0 rfl) 2; have z3 : w1.cell? ⟨gO, 3, none⟩ = some (.int .i64 0) := (blk_cell (S1.blk 0 rfl) 3).trans rfl; have fz3 : w1.frozen? ⟨gO, 3, none⟩ = false := blk_frozen (S1.blk 0 rfl) 3; have z4 : w1.cell? ⟨gO, 4, none⟩ = some (.int .i64 0) := (blk_cell (S1.blk 0 rfl) 4).trans rfl; have fz4 : w1.frozen? ⟨gO, 4, none⟩ = false := blk_frozen (S1.blk 0 rfl) 4; have z5 : w1.cell? ⟨gO, 5, none⟩ = some (.int .u64 0) := (blk_cell (S1.blk 0 rfl) 5).trans rfl; have fz5 : w1.frozen? ⟨gO, 5, none⟩ = false := blk_frozen (S1.blk 0 rfl) 5)
      have S5 : St W (fun _ => False) ((((((w1.setCell ⟨gO, 0, none⟩ (.int .u64 x0)).setCell ⟨gO, 1, none⟩ (.int .i64 x1)).setCell ⟨gO, 2, none⟩ (.int .i64 x2)).setCell ⟨gO, 3, none⟩ (.int .i64 x3)).setCell ⟨gO, 4, none⟩ (.int .i64 x4)).setCell ⟨gO, 5, none⟩ (.int .u64 x5)) [Pt gO #[.int .u64 x0, .int .i64 x1, .int .i64 x2, .int .i64 x3, .int .i64 x4, .int .u64 x5] 42, MapP gM m S, Pt gB #[.int .i64 b0, .int .i64 b1, .int .i64 b2, .int .i64 b3] 52] := ((((((S1.put 0 (.int .u64 x0) rfl).put 1 (.int .i64 x1) rfl).put 2 (.int .i64 x2) rfl).put 3 (.int .i64 x3) rfl).put 4 (.int .i64 x4) rfl).put 5 (.int .u64 x5) rfl)
      generalize ((((((w1.setCell ⟨gO, 0, none⟩ (.int .u64 x0)).setCell ⟨gO, 1, none⟩ (.int .i64 x1)).setCell ⟨gO, 2, none⟩ (.int .i64 x2)).setCell ⟨gO, 3, none⟩ (.int .i64 x3)).setCell ⟨gO, 4, none⟩ (.int .i64 x4)).setCell ⟨gO, 5, none⟩ (.int .u64 x5)) = w5 at S5 ⊢
      clear S1 z0 z1 z2 z3 z4 z5 fz0 fz1 fz2 fz3 fz4 fz5 q0 q1 q2 q3 q4 q5
      have z0 : w5.cell? ⟨gO, 0, none⟩ = some (.int .u64 x0) := (blk_cell (S5.blk 0 rfl) 0).trans rfl; have z1 : w5.cell? ⟨gO, 1, none⟩ = some (.int .i64 x1) := (blk_cell (S5.blk 0 rfl) 1).trans rfl; have z2 : w5.cell? ⟨gO, 2, none⟩ = some (.int .i64 x2) := (blk_cell (S5.blk 0 rfl) 2).trans rfl; have z3 : w5.cell? ⟨gO, 3, none⟩ = some (.int .i64 x3) := (blk_cell (S5.blk 0 rfl) 3).trans rfl; have z4 : w5.cell? ⟨gO, 4, none⟩ = some (.int .i64 x4) := (blk_cell (S5.blk 0 rfl) 4).trans rfl; have z5 : w5.cell? ⟨gO, 5, none⟩ = some (.int .u64 x5) := (blk_cell (S5.blk 0 rfl) 5).trans rfl
      have hlk := (S5.map 1 rfl).look Try.underlying2 Try.underlying4 Try.underlying50 (Try.zeroValue4 _) x3 HWF.out
      obtain ⟨cs, hcs⟩ : ∃ c, S.contains x3 = c := ⟨_, rfl⟩
      rw [hcs] at hlk HD
      clear hcs
      cases cs with
      | true =>
        go_wp2
        go_roundg (n - (i + 1))
        case measure => omega
        case rel => exact ⟨i + 1, iz + 1, m, S, b0, b1, b2, b3, rfl, ⟨by rw [HI.out]; rfl⟩, by omega, by have := HI.out; omega, by omega, by omega, ⟨by have := HM.out; omega⟩, ⟨by have := HD.out; simp only [if_true] at this; exact this.symm⟩, ⟨S5.drop⟩⟩
      | false =>
        obtain ⟨w7, hput, hM7, hg7⟩ := (S5.map 1 rfl).put Try.underlying2 Try.underlying4 Try.underlying50 (by have := HM.out; simp only [maxLen]; omega) x3 HWF.out
        have S7 : St W (fun _ => False) w7 [MapP gM (m + 1) (x3 :: S), Pt gO #[.int .u64 x0, .int .i64 x1, .int .i64 x2, .int .i64 x3, .int .i64 x4, .int .u64 x5] 42, Pt gB #[.int .i64 b0, .int .i64 b1, .int .i64 b2, .int .i64 b3] 52] := (S5.front 1 rfl).mapPut hM7 hg7
        obtain ⟨⟨k0, k1, k2, k3⟩, hk⟩ : ∃ c : Cand, lookM l x3 last = c := ⟨_, rfl⟩
        have KLx := KL.out w7 S7.below x3 ⟨HGX.out.2.1, HGX.out.2.2.1⟩
        rw [hk] at KLx HD
        have KLX := Aside0.mk KLx
        have y3 : w7.cell? ⟨gO, 3, none⟩ = some (.int .i64 x3) := (blk_cell (S7.blk 1 rfl) 3).trans rfl
        clear hM7 hg7 hk KLx
        go_upto_region 11 with (first
          | (go_at_call 17; refine KLX.out.mono ?_; rintro e w8 ⟨rfl, hb⟩; have S8 := S7.call hb; clear hb)
          | ((with_reducible refine gate_dst (N := 10) rfl ?_); refine box_event ?hg (N := 10) ?hd (cs := #[.int .i64 0, .int .i64 0, .int .i64 0, .int .i64 0]) (t := 52) ?hr ?_; (case hd => rfl); (case hg => rfl); (case hr => first | (go_simp; done) | (go_simp; rfl)); intro gC hg_ w9 hbB hb; have S9 := S8.box hg_ hb hbB; clear S8 hg_ hbB hb; have u0 : w9.cell? ⟨gC, 0, none⟩ = some (.int .i64 0) := (blk_cell (S9.blk 0 rfl) 0).trans rfl; have fu0 : w9.frozen? ⟨gC, 0, none⟩ = false := blk_frozen (S9.blk 0 rfl) 0; have u1 : w9.cell? ⟨gC, 1, none⟩ = some (.int .i64 0) := (blk_cell (S9.blk 0 rfl) 1).trans rfl; have fu1 : w9.frozen? ⟨gC, 1, none⟩ = false := blk_frozen (S9.blk 0 rfl) 1; have u2 : w9.cell? ⟨gC, 2, none⟩ = some (.int .i64 0) := (blk_cell (S9.blk 0 rfl) 2).trans rfl; have fu2 : w9.frozen? ⟨gC, 2, none⟩ = false := blk_frozen (S9.blk 0 rfl) 2; have u3 : w9.cell? ⟨gC, 3, none⟩ = some (.int .i64 0) := (blk_cell (S9.blk 0 rfl) 3).trans rfl; have fu3 : w9.frozen? ⟨gC, 3, none⟩ = false := blk_frozen (S9.blk 0 rfl) 3))
        have S10 : St W (fun _ => False) ((((w9.setCell ⟨gC, 0, none⟩ (.int .i64 k0)).setCell ⟨gC, 1, none⟩ (.int .i64 k1)).setCell ⟨gC, 2, none⟩ (.int .i64 k2)).setCell ⟨gC, 3, none⟩ (.int .i64 k3)) [Pt gC #[.int .i64 k0, .int .i64 k1, .int .i64 k2, .int .i64 k3] 52, MapP gM (m + 1) (x3 :: S), Pt gO #[.int .u64 x0, .int .i64 x1, .int .i64 x2, .int .i64 x3, .int .i64 x4, .int .u64 x5] 42, Pt gB #[.int .i64 b0, .int .i64 b1, .int .i64 b2, .int .i64 b3] 52] := ((((S9.put 0 (.int .i64 k0) rfl).put 1 (.int .i64 k1) rfl).put 2 (.int .i64 k2) rfl).put 3 (.int .i64 k3) rfl)
        generalize ((((w9.setCell ⟨gC, 0, none⟩ (.int .i64 k0)).setCell ⟨gC, 1, none⟩ (.int .i64 k1)).setCell ⟨gC, 2, none⟩ (.int .i64 k2)).setCell ⟨gC, 3, none⟩ (.int .i64 k3)) = w10 at S10 ⊢
        clear S9 u0 u1 u2 u3 fu0 fu1 fu2 fu3 z0 z1 z2 z3 z4 z5 y3 hlk hput
        have u0 : w10.cell? ⟨gC, 0, none⟩ = some (.int .i64 k0) := (blk_cell (S10.blk 0 rfl) 0).trans rfl; have u1 : w10.cell? ⟨gC, 1, none⟩ = some (.int .i64 k1) := (blk_cell (S10.blk 0 rfl) 1).trans rfl; have u2 : w10.cell? ⟨gC, 2, none⟩ = some (.int .i64 k2) := (blk_cell (S10.blk 0 rfl) 2).trans rfl; have u3 : w10.cell? ⟨gC, 3, none⟩ = some (.int .i64 k3) := (blk_cell (S10.blk 0 rfl) 3).trans rfl
        have v0 : w10.cell? ⟨gB, 0, none⟩ = some (.int .i64 b0) := (blk_cell (S10.blk 3 rfl) 0).trans rfl; have fv0 : w10.frozen? ⟨gB, 0, none⟩ = false := blk_frozen (S10.blk 3 rfl) 0; have v1 : w10.cell? ⟨gB, 1, none⟩ = some (.int .i64 b1) := (blk_cell (S10.blk 3 rfl) 1).trans rfl; have fv1 : w10.frozen? ⟨gB, 1, none⟩ = false := blk_frozen (S10.blk 3 rfl) 1; have v2 : w10.cell? ⟨gB, 2, none⟩ = some (.int .i64 b2) := (blk_cell (S10.blk 3 rfl) 2).trans rfl; have fv2 : w10.frozen? ⟨gB, 2, none⟩ = false := blk_frozen (S10.blk 3 rfl) 2; have v3 : w10.cell? ⟨gB, 3, none⟩ = some (.int .i64 b3) := (blk_cell (S10.blk 3 rfl) 3).trans rfl; have fv3 : w10.frozen? ⟨gB, 3, none⟩ = false := blk_frozen (S10.blk 3 rfl) 3
        have HD2 : Aside0 (best = bestM l last (l.drop (i + 1)) (x3 :: S) (takeC (k0, k1, k2, k3) (b0, b1, b2, b3))) := ⟨by have := HD.out; simpa using this⟩
        clear HD
        obtain ⟨bb, hbb⟩ : ∃ c, betM (k0, k1, k2, k3) (b0, b1, b2, b3) = c := ⟨_, rfl⟩
        have KBT : Aside0 (∀ W' : World, Calls Try.prog 18 #[.agg #[.int .i64 k0, .int .i64 k1, .int .i64 k2, .int .i64 k3], .agg #[.int .i64 b0, .int .i64 b1, .int .i64 b2, .int .i64 b3]] W' fun e w' => e = .returned (.bool bb) ∧ Below W'.heap.size W' w') := ⟨fun W' => call_candidate_better.calls 5 k0 k1 k2 k3 b0 b1 b2 b3 bb W' (by have := betM_some (k0, k1, k2, k3) (b0, b1, b2, b3); rw [hbb] at this; exact this)⟩
        by_cases hz : b0 = 0 ∧ b1 = 0 ∧ b2 = 0 ∧ b3 = 0
        · obtain ⟨rfl, rfl, rfl, rfl⟩ := hz
          have HTK : Aside0 (takeC (k0, k1, k2, k3) (0, 0, 0, 0) = (k0, k1, k2, k3)) := ⟨if_pos (.inl rfl)⟩
          clear hbb
          go_wp2_with fail
          go_roundg (n - (i + 1))
          case measure => omega
          case rel => exact ⟨i + 1, iz + 1, m + 1, x3 :: S, k0, k1, k2, k3, rfl, ⟨by rw [HI.out]; rfl⟩, by omega, by have := HI.out; omega, by omega, by omega, ⟨by have := HM.out; omega⟩, ⟨by have := HD2.out; rw [HTK.out] at this; exact this.symm⟩, ⟨(((((((S10.front 3 rfl).put 0 (.int .i64 k0) rfl).put 1 (.int .i64 k1) rfl).put 2 (.int .i64 k2) rfl).put 3 (.int .i64 k3) rfl).front 2 rfl).take 2)⟩⟩
        · have hz4 : ¬ b0 = 0 ∨ (b0 = 0 ∧ ¬ b1 = 0) ∨ (b0 = 0 ∧ b1 = 0 ∧ ¬ b2 = 0) ∨ (b0 = 0 ∧ b1 = 0 ∧ b2 = 0 ∧ ¬ b3 = 0) := by omega
          have hzt : ¬ ((b0, b1, b2, b3) : Cand) = (0, 0, 0, 0) := fun e => hz (by injection e with e0 e; injection e with e1 e; injection e with e2 e3; exact ⟨e0, e1, e2, e3⟩)
          have HTK : Aside0 (takeC (k0, k1, k2, k3) (b0, b1, b2, b3) = if bb = true then (k0, k1, k2, k3) else (b0, b1, b2, b3)) := ⟨by rw [takeC, hbb]; by_cases q : bb = true; rw [if_pos (.inr q), if_pos q]; rw [if_neg (fun h => h.elim hzt q), if_neg q]⟩
          clear hz hzt hbb
          cases bb with
          | true =>
            rcases hz4 with c | ⟨rfl, c⟩ | ⟨rfl, rfl, c⟩ | ⟨rfl, rfl, rfl, c⟩
            all_goals
              go_wp2_with (go_at_call 18; refine (KBT.out _).mono ?_; rintro e w11 ⟨rfl, hb⟩; have S11 := S10.call hb; have U : ∀ j, w11.cell? ⟨gC, j, none⟩ = _ := fun j => blk_cell (S11.blk 0 rfl) j; have u0 := (U 0).trans rfl; have u1 := (U 1).trans rfl; have u2 := (U 2).trans rfl; have u3 := (U 3).trans rfl; have hV := S11.blk 3 rfl; have v0 := (blk_cell hV 0).trans rfl; have v1 := (blk_cell hV 1).trans rfl; have v2 := (blk_cell hV 2).trans rfl; have v3 := (blk_cell hV 3).trans rfl; have fv0 := blk_frozen hV 0; have fv1 := blk_frozen hV 1; have fv2 := blk_frozen hV 2; have fv3 := blk_frozen hV 3; clear hb hV U)
              go_roundg (n - (i + 1))
              case measure => omega
              case rel => exact ⟨i + 1, iz + 1, m + 1, x3 :: S, k0, k1, k2, k3, rfl, ⟨by rw [HI.out]; rfl⟩, by omega, by have := HI.out; omega, by omega, by omega, ⟨by have := HM.out; omega⟩, ⟨by have := HD2.out; rw [HTK.out] at this; simp only [if_true] at this; exact this.symm⟩, ⟨(((((((S11.front 3 rfl).put 0 (.int .i64 k0) rfl).put 1 (.int .i64 k1) rfl).put 2 (.int .i64 k2) rfl).put 3 (.int .i64 k3) rfl).front 2 rfl).take 2)⟩⟩
          | false =>
            rcases hz4 with c | ⟨rfl, c⟩ | ⟨rfl, rfl, c⟩ | ⟨rfl, rfl, rfl, c⟩
            all_goals
              go_wp2_with (go_at_call 18; refine (KBT.out _).mono ?_; rintro e w11 ⟨rfl, hb⟩; have S11 := S10.call hb; have U : ∀ j, w11.cell? ⟨gC, j, none⟩ = _ := fun j => blk_cell (S11.blk 0 rfl) j; have u0 := (U 0).trans rfl; have u1 := (U 1).trans rfl; have u2 := (U 2).trans rfl; have u3 := (U 3).trans rfl; have hV := S11.blk 3 rfl; have v0 := (blk_cell hV 0).trans rfl; have v1 := (blk_cell hV 1).trans rfl; have v2 := (blk_cell hV 2).trans rfl; have v3 := (blk_cell hV 3).trans rfl; have fv0 := blk_frozen hV 0; have fv1 := blk_frozen hV 1; have fv2 := blk_frozen hV 2; have fv3 := blk_frozen hV 3; clear hb hV U)
              go_roundg (n - (i + 1))
              case measure => omega
              case rel => exact ⟨i + 1, iz + 1, m + 1, x3 :: S, _, _, _, _, rfl, ⟨by rw [HI.out]; rfl⟩, by omega, by have := HI.out; omega, by omega, by omega, ⟨by have := HM.out; omega⟩, ⟨by have := HD2.out; rw [HTK.out, if_neg (by decide)] at this; exact this.symm⟩, ⟨((S11.front 3 rfl).front 2 rfl).take 2⟩⟩
    · have hltz : ¬ iz < (n : Int) := by have := HI.out; omega
      have hb := HO.out
      rw [List.drop_eq_nil_of_le (by have := HN.out; omega)] at hb
      have HB : Aside0 (best = (b0, b1, b2, b3)) := ⟨hb.symm⟩
      clear hb HO hlt
      have S3 := HS.out
      have v0 : wr.cell? ⟨gB, 0, none⟩ = some (.int .i64 b0) := (blk_cell (S3.blk 1 rfl) 0).trans rfl; have v1 : wr.cell? ⟨gB, 1, none⟩ = some (.int .i64 b1) := (blk_cell (S3.blk 1 rfl) 1).trans rfl; have v2 : wr.cell? ⟨gB, 2, none⟩ = some (.int .i64 b2) := (blk_cell (S3.blk 1 rfl) 2).trans rfl; have v3 : wr.cell? ⟨gB, 3, none⟩ = some (.int .i64 b3) := (blk_cell (S3.blk 1 rfl) 3).trans rfl
      by_cases c : b1 = 0
      · subst c
        go_wp2
        go_ret2
        exact ⟨by rw [HPM.out, HB.out, if_pos rfl]; rfl, S3.below⟩
      · have c2 : (b1 == 0) = false := by rw [beq_eq_false_iff_ne]; exact c
        have HPR : Aside0 (priceM l last = (b0, b1)) := ⟨by rw [HPM.out, HB.out, if_neg c]⟩
        clear c
        go_wp2_with fail
        go_region
        all_goals go_wp2
        all_goals go_ret2
        all_goals exact ⟨by rw [HPR.out]; rfl, by repeat (first | exact S3.below | apply below_drew1)⟩
theorem bookL_good : ∀ (l : List SO) (S : List Int), bookL l S = true → ∀ x ∈ l, goodO x = true
  | [], _, _ => fun x hx => nomatch hx
  | y :: l, S, h => fun x hx => by
    rw [bookL, Bool.and_eq_true, Bool.and_eq_true] at h
    rcases List.mem_cons.1 hx with rfl | hx
    · exact h.1.1
    · exact bookL_good l _ h.2 x hx
theorem goodO_gd {x : SO} (h : goodO x = true) : gdO x := by
  have e := goodO_some x
  rw [h] at e
  unfold order_Good.f at e
  unfold gdO
  repeat' split at e
  all_goals first
    | (injection e with e; exact absurd e (by decide))
    | (injection e with e; have := of_decide_eq_true e; omega)
theorem book_good {l : List SO} (h : order_Book.f l = some true) : l.length ≤ 64 ∧ ∀ x ∈ l, gdO x := by
  unfold order_Book.f at h
  split at h
  · split at h
    · cases h
    · obtain ⟨s, _, h⟩ := Option.map_eq_some_iff.1 h
      rw [Bool.and_eq_true] at h
      exact ⟨by omega, fun x hx => goodO_gd (bookL_good l [] h.2 x hx)⟩
  · cases h
set_option maxHeartbeats 8000000 in
set_option maxRecDepth 100000 in
theorem call_price_bad (W : World) (A0 : Option Addr) (c0 : Nat) (l : List SO) (hC : KO.C W A0 l.length l) (hc0 : l.length ≤ c0) (hbk : order_Book.f l = some false) (last : Int) :
    Calls Try.prog 8 #[.slice A0 l.length c0, .int .i64 last] W fun e w' => e = .returned (.tuple #[.int .i64 0, .int .i64 0]) ∧ Below W.heap.size W w' := by
  have HBK := Aside0.mk (order_Book.calls A0 c0 l false W hC hc0 hbk)
  obtain ⟨n, hn⟩ : ∃ x, l.length = x := ⟨_, rfl⟩
  rw [hn] at HBK ⊢
  have S0 := St.start W (fun _ => False)
  clear hC hc0 hbk hn
  go_enter Try.func8, Try.ntmps8
  go_wp2_with (go_at_call 16; refine HBK.out.mono ?_; rintro e w1 ⟨rfl, hb⟩; have S1 := S0.call hb; clear hb S0)
  go_ret2
  exact ⟨rfl, S1.below⟩
def call_Price.f (l0 : List SO) (a1 : Int) : Option (Int × Int) := if -9223372036854775808 ≤ a1 ∧ a1 ≤ 9223372036854775807 then (order_Book.f l0).map fun b => if b = true then priceM l0 a1 else (0, 0) else none
theorem call_Price.calls (A0 : Option Addr) (c0 : Nat) (l0 : List SO) (a1 : Int) (r1 : Int) (r2 : Int) (w : World) (hr0 : KO.C w A0 l0.length l0) (hc0 : l0.length ≤ c0) (h : call_Price.f l0 a1 = some (r1, r2)) :
    Calls Try.prog 8 #[.slice A0 l0.length c0, .int .i64 a1] w fun e w' => e = .returned (.tuple #[.int .i64 r1, .int .i64 r2]) ∧ Below w.heap.size w w' := by
  unfold call_Price.f at h
  split at h
  · rename_i hb
    obtain ⟨b, hk, e⟩ := Option.map_eq_some_iff.1 h
    cases b with
    | false => injection e with e1 e2; subst e1 e2; exact call_price_bad w A0 c0 l0 hr0 hc0 hk a1
    | true =>
      have hp : priceM l0 a1 = (r1, r2) := e
      have := call_price w A0 c0 l0 hr0 hc0 hk (book_good hk).2 (book_good hk).1 a1 hb
      rw [hp] at this
      exact this
  · cases h
def limits_Trim.f (a0 : Int) (a1 : Int) : Option (Int) := if (mn a0 a1) < 1 then (some 0) else (if a0 = 0 then (none) else (some (wrap64 (a1 - (Int.tmod a1 a0)))))
set_option maxHeartbeats 8000000 in
set_option maxRecDepth 100000 in
theorem limits_Trim.calls (a0 : Int) (a1 : Int) (r : Int) (w : World) (h : limits_Trim.f a0 a1 = some r) :
    Calls Try.prog 38 #[.int .i64 a0, .int .i64 a1] w fun e w' => e = .returned (.int .i64 r) ∧ Below w.heap.size w w' := by
  have HB := Aside0.mk (Below.refl w.heap.size w)
  have H : (if (mn a0 a1) < 1 then (some 0) else (if a0 = 0 then (none) else (some (wrap64 (a1 - (Int.tmod a1 a0)))))) = some r := h
  clear h
  obtain ⟨ji3, hji3⟩ : ∃ j_ : Int, (mn a0 a1) = j_ := ⟨_, rfl⟩
  replace H : (if (ji3) < 1 then (some 0) else (if a0 = 0 then (none) else (some (wrap64 (a1 - (Int.tmod a1 a0)))))) = some r := by first | (rw [hji3] at H; exact H) | (simp only [hji3] at H ⊢; exact H)
  have hji3_ : (if a1 < a0 then a1 else a0) = ji3 := hji3
  by_cases c4 : (ji3) < 1
  · rw [if_pos c4] at H
    have c4b0 : decide ((ji3) < 1) = true := decide_eq_true c4
    clear c4
    obtain rfl := Option.some.inj H
    go_enter Try.func38, Try.ntmps38
    go_wp2
    go_ret
    exact ⟨by first | rfl | (simp [errW_none, errW_some] <;> rfl) | (simp only [← hji3]; first | rfl | (simp [errW_none, errW_some] <;> rfl)) | (simp [*, errW_none, errW_some] <;> rfl), by repeat (first | (with_reducible first | exact HB.out | apply below_alloc | apply pw_below_drewN | apply below_drew1) | exact HB.out)⟩
  · rw [if_neg c4] at H
    have c4b0 : decide ((ji3) < 1) = false := decide_eq_false c4
    clear c4
    by_cases c5 : a0 = 0
    · rw [if_pos c5] at H
      exact absurd H (by simp)
    · rw [if_neg c5] at H
      have c5b0 : (a0 == 0) = false := beq_eq_false_iff_ne.mpr c5
      have c5b1 : (a0 != 0) = true := bne_iff_ne.mpr c5
      obtain rfl := Option.some.inj H
      go_enter Try.func38, Try.ntmps38
      go_wp2
      go_ret
      exact ⟨by first | rfl | (simp [errW_none, errW_some] <;> rfl) | (simp only [← hji3]; first | rfl | (simp [errW_none, errW_some] <;> rfl)) | (simp [*, errW_none, errW_some] <;> rfl), by repeat (first | (with_reducible first | exact HB.out | apply below_alloc | apply pw_below_drewN | apply below_drew1) | exact HB.out)⟩
end Go.Proofs.Ytjjnbcaemognhaa.Clr
