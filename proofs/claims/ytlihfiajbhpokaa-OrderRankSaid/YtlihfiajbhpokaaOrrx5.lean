/- Printed by this session's wip/drive.py over the translation; some functions by hand. -/
import Derived.Test.YtlihfiajbhpokaaOrrx0
import Derived.Test.YtlihfiajbhpokaaOrrx2
import Derived.Test.YtlihfiajbhpokaaOrrx4
namespace Go.Proofs.Ytlihfiajbhpokaa.Orr
open Go.RowKit Go.Proofs.YtlihfiajbhpokaaW.PrintWords Go.Proofs.YtlihfiajbhpokaaW.PrintLast Go.Proofs.YtlihfiajbhpokaaW.PrintMore
attribute [local go_sem] max2_int min2_int max_two min_two max_three min_three max_four min_four   -- for this text's walks alone
set_option linter.unusedVariables false
set_option linter.unusedSimpArgs false

/-! ### jobberlaw12_OrderRank: function 4 -/
mutual
def jobberlaw12_OrderRank.j0 : Nat → Bool → Int → Int → Int → Int → Int → Int → Int → Int → Int → Int → Int → Int → Int → Int → Int → Int → Int → Int → Option (Bool)
  | 0, _, _, _, _, _, _, _, _, _, _, _, _, _, _, _, _, _, _, _ => none
  | k + 1, x21, x128000, x128001, x128002, x128003, x128004, x128005, x129000, x129001, x129002, x129003, x129004, x129005, x130000, x130001, x130002, x130003, x130004, x130005 => if x21 = true then ((order_Ahead.f k x128000 x128001 x128002 x128003 x128004 x128005 x129000 x129001 x129002 x129003 x129004 x129005).bind fun t130 => (if t130 = true then (some false) else ((jobberlaw12_lives.f).bind fun t131 => (some t131)))) else (if x128003 = x129003 then (if x128005 = x129005 then (jobberlaw12_OrderRank.j1 k (x128000 != x129000) x128000 x128001 x128002 x128003 x128004 x128005 x129000 x129001 x129002 x129003 x129004 x129005 x130000 x130001 x130002 x130003 x130004 x130005) else (jobberlaw12_OrderRank.j1 k true x128000 x128001 x128002 x128003 x128004 x128005 x129000 x129001 x129002 x129003 x129004 x129005 x130000 x130001 x130002 x130003 x130004 x130005)) else (jobberlaw12_OrderRank.j1 k true x128000 x128001 x128002 x128003 x128004 x128005 x129000 x129001 x129002 x129003 x129004 x129005 x130000 x130001 x130002 x130003 x130004 x130005))
def jobberlaw12_OrderRank.j1 : Nat → Bool → Int → Int → Int → Int → Int → Int → Int → Int → Int → Int → Int → Int → Int → Int → Int → Int → Int → Int → Option (Bool)
  | 0, _, _, _, _, _, _, _, _, _, _, _, _, _, _, _, _, _, _, _ => none
  | k + 1, x9, x128000, x128001, x128002, x128003, x128004, x128005, x129000, x129001, x129002, x129003, x129004, x129005, x130000, x130001, x130002, x130003, x130004, x130005 => (order_Ahead.f k x128000 x128001 x128002 x128003 x128004 x128005 x129000 x129001 x129002 x129003 x129004 x129005).bind fun t132 => ((order_Ahead.f k x129000 x129001 x129002 x129003 x129004 x129005 x128000 x128001 x128002 x128003 x128004 x128005).bind fun t133 => (if ((t132 != t133) != x9) = true then (some false) else ((order_Ahead.f k x128000 x128001 x128002 x128003 x128004 x128005 x129000 x129001 x129002 x129003 x129004 x129005).bind fun t134 => (if t134 = true then ((order_Ahead.f k x129000 x129001 x129002 x129003 x129004 x129005 x130000 x130001 x130002 x130003 x130004 x130005).bind fun t135 => (if t135 = true then ((order_Ahead.f k x128000 x128001 x128002 x128003 x128004 x128005 x130000 x130001 x130002 x130003 x130004 x130005).bind fun t136 => (if t136 = true then ((jobberlaw12_lives.f).bind fun t137 => (some t137)) else (some false))) else ((jobberlaw12_lives.f).bind fun t138 => (some t138)))) else ((jobberlaw12_lives.f).bind fun t139 => (some t139))))))
end
def jobberlaw12_OrderRank.f (k : Nat) (a0_0 : Int) (a0_1 : Int) (a0_2 : Int) (a0_3 : Int) (a0_4 : Int) (a0_5 : Int) (a1_0 : Int) (a1_1 : Int) (a1_2 : Int) (a1_3 : Int) (a1_4 : Int) (a1_5 : Int) (a2_0 : Int) (a2_1 : Int) (a2_2 : Int) (a2_3 : Int) (a2_4 : Int) (a2_5 : Int) (a3 : Int) : Option (Bool) := if a3 = 1 then (jobberlaw12_OrderRank.j0 k false a0_0 a0_1 a3 a0_3 a0_4 a0_5 a1_0 a1_1 a3 a1_3 a1_4 a1_5 a2_0 a2_1 a3 a2_3 a2_4 a2_5) else (jobberlaw12_OrderRank.j0 k (a3 != 2) a0_0 a0_1 a3 a0_3 a0_4 a0_5 a1_0 a1_1 a3 a1_3 a1_4 a1_5 a2_0 a2_1 a3 a2_3 a2_4 a2_5)
theorem jobberlaw12_OrderRank.mono_l : ∀ k, (∀ y0 y1 y2 y3 y4 y5 y6 y7 y8 y9 y10 y11 y12 y13 y14 y15 y16 y17 y18, LeO (jobberlaw12_OrderRank.j0 k y0 y1 y2 y3 y4 y5 y6 y7 y8 y9 y10 y11 y12 y13 y14 y15 y16 y17 y18) (jobberlaw12_OrderRank.j0 (k + 1) y0 y1 y2 y3 y4 y5 y6 y7 y8 y9 y10 y11 y12 y13 y14 y15 y16 y17 y18)) ∧ (∀ y0 y1 y2 y3 y4 y5 y6 y7 y8 y9 y10 y11 y12 y13 y14 y15 y16 y17 y18, LeO (jobberlaw12_OrderRank.j1 k y0 y1 y2 y3 y4 y5 y6 y7 y8 y9 y10 y11 y12 y13 y14 y15 y16 y17 y18) (jobberlaw12_OrderRank.j1 (k + 1) y0 y1 y2 y3 y4 y5 y6 y7 y8 y9 y10 y11 y12 y13 y14 y15 y16 y17 y18))
  | 0 => ⟨fun _ _ _ _ _ _ _ _ _ _ _ _ _ _ _ _ _ _ _ r h => by simp [jobberlaw12_OrderRank.j0] at h, fun _ _ _ _ _ _ _ _ _ _ _ _ _ _ _ _ _ _ _ r h => by simp [jobberlaw12_OrderRank.j1] at h⟩
  | k + 1 => by
    obtain ⟨ih0, ih1⟩ := jobberlaw12_OrderRank.mono_l k
    refine ⟨?_, ?_⟩
    · intro y0 y1 y2 y3 y4 y5 y6 y7 y8 y9 y10 y11 y12 y13 y14 y15 y16 y17 y18
      unfold jobberlaw12_OrderRank.j0
      repeat' first
      | (with_reducible exact ih0 _ _ _ _ _ _ _ _ _ _ _ _ _ _ _ _ _ _ _)
      | (with_reducible exact ih1 _ _ _ _ _ _ _ _ _ _ _ _ _ _ _ _ _ _ _)
      | (with_reducible exact order_Ahead.mono _ _ _ _ _ _ _ _ _ _ _ _ _)
      | (with_reducible exact LeO.refl _)
      | (with_reducible exact LeO.none _)
      | (with_reducible refine LeO.ite ?_ ?_)
      | (with_reducible refine LeO.bind ?_ (fun _ => ?_))
      | exact ih0 _ _ _ _ _ _ _ _ _ _ _ _ _ _ _ _ _ _ _
      | exact ih1 _ _ _ _ _ _ _ _ _ _ _ _ _ _ _ _ _ _ _
      | exact order_Ahead.mono _ _ _ _ _ _ _ _ _ _ _ _ _
      | exact LeO.none _
      | refine LeO.ite ?_ ?_
      | refine LeO.bind ?_ (fun _ => ?_)
    · intro y0 y1 y2 y3 y4 y5 y6 y7 y8 y9 y10 y11 y12 y13 y14 y15 y16 y17 y18
      unfold jobberlaw12_OrderRank.j1
      repeat' first
      | (with_reducible exact ih0 _ _ _ _ _ _ _ _ _ _ _ _ _ _ _ _ _ _ _)
      | (with_reducible exact ih1 _ _ _ _ _ _ _ _ _ _ _ _ _ _ _ _ _ _ _)
      | (with_reducible exact order_Ahead.mono _ _ _ _ _ _ _ _ _ _ _ _ _)
      | (with_reducible exact LeO.refl _)
      | (with_reducible exact LeO.none _)
      | (with_reducible refine LeO.ite ?_ ?_)
      | (with_reducible refine LeO.bind ?_ (fun _ => ?_))
      | exact ih0 _ _ _ _ _ _ _ _ _ _ _ _ _ _ _ _ _ _ _
      | exact ih1 _ _ _ _ _ _ _ _ _ _ _ _ _ _ _ _ _ _ _
      | exact order_Ahead.mono _ _ _ _ _ _ _ _ _ _ _ _ _
      | exact LeO.none _
      | refine LeO.ite ?_ ?_
      | refine LeO.bind ?_ (fun _ => ?_)
theorem jobberlaw12_OrderRank.mono : ∀ a0 a1 a2 a3 a4 a5 a6 a7 a8 a9 a10 a11 a12 a13 a14 a15 a16 a17 a18 k, LeO (jobberlaw12_OrderRank.f k a0 a1 a2 a3 a4 a5 a6 a7 a8 a9 a10 a11 a12 a13 a14 a15 a16 a17 a18) (jobberlaw12_OrderRank.f (k + 1) a0 a1 a2 a3 a4 a5 a6 a7 a8 a9 a10 a11 a12 a13 a14 a15 a16 a17 a18) := by
  intro a0 a1 a2 a3 a4 a5 a6 a7 a8 a9 a10 a11 a12 a13 a14 a15 a16 a17 a18 k
  obtain ⟨ih0, ih1⟩ := jobberlaw12_OrderRank.mono_l k
  unfold jobberlaw12_OrderRank.f
  repeat' first
      | (with_reducible exact ih0 _ _ _ _ _ _ _ _ _ _ _ _ _ _ _ _ _ _ _)
      | (with_reducible exact ih1 _ _ _ _ _ _ _ _ _ _ _ _ _ _ _ _ _ _ _)
      | (with_reducible exact order_Ahead.mono _ _ _ _ _ _ _ _ _ _ _ _ _)
      | (with_reducible exact LeO.refl _)
      | (with_reducible exact LeO.none _)
      | (with_reducible refine LeO.ite ?_ ?_)
      | (with_reducible refine LeO.bind ?_ (fun _ => ?_))
      | exact ih0 _ _ _ _ _ _ _ _ _ _ _ _ _ _ _ _ _ _ _
      | exact ih1 _ _ _ _ _ _ _ _ _ _ _ _ _ _ _ _ _ _ _
      | exact order_Ahead.mono _ _ _ _ _ _ _ _ _ _ _ _ _
      | exact LeO.none _
      | refine LeO.ite ?_ ?_
      | refine LeO.bind ?_ (fun _ => ?_)
def jobberlaw12_OrderRank.T5 : Bool × List (List Nat × List Nat) := (true, [([], []), ([], []), ([0, 1], [0, 1]), ([], []), ([], []), ([3, 4, 2], [3, 4]), ([2, 5], [2, 5]), ([], []), ([6, 7], [6, 7])])
def jobberlaw12_OrderRank.B5 : List Nat := [0, 0, 3, 0, 0, 31, 63, 0, 255]
theorem jobberlaw12_OrderRank.tab5 : rtab .any (opsOf Try.f4 5) = jobberlaw12_OrderRank.T5 := by kernel_rfl
theorem jobberlaw12_OrderRank.bits5 : waitsOk jobberlaw12_OrderRank.T5.2 jobberlaw12_OrderRank.B5 = true := by kernel_rfl
set_option maxHeartbeats 8000000 in
set_option maxRecDepth 100000 in
theorem jobberlaw12_OrderRank.calls (k : Nat) (a0_0 : Int) (a0_1 : Int) (a0_2 : Int) (a0_3 : Int) (a0_4 : Int) (a0_5 : Int) (a1_0 : Int) (a1_1 : Int) (a1_2 : Int) (a1_3 : Int) (a1_4 : Int) (a1_5 : Int) (a2_0 : Int) (a2_1 : Int) (a2_2 : Int) (a2_3 : Int) (a2_4 : Int) (a2_5 : Int) (a3 : Int) (r : Bool) (w : World) (h : jobberlaw12_OrderRank.f k a0_0 a0_1 a0_2 a0_3 a0_4 a0_5 a1_0 a1_1 a1_2 a1_3 a1_4 a1_5 a2_0 a2_1 a2_2 a2_3 a2_4 a2_5 a3 = some r) :
    Calls Try.prog 4 #[.agg #[.int .u64 a0_0, .int .i64 a0_1, .int .i64 a0_2, .int .i64 a0_3, .int .i64 a0_4, .int .u64 a0_5], .agg #[.int .u64 a1_0, .int .i64 a1_1, .int .i64 a1_2, .int .i64 a1_3, .int .i64 a1_4, .int .u64 a1_5], .agg #[.int .u64 a2_0, .int .i64 a2_1, .int .i64 a2_2, .int .i64 a2_3, .int .i64 a2_4, .int .u64 a2_5], .int .i64 a3] w fun e w' => e = .returned (.bool r) ∧ Below w.heap.size w w' := by
  have hu33 := Try.underlying33
  have HB := Aside0.mk (Below.refl w.heap.size w)
  have H : (if a3 = 1 then (jobberlaw12_OrderRank.j0 k false a0_0 a0_1 a3 a0_3 a0_4 a0_5 a1_0 a1_1 a3 a1_3 a1_4 a1_5 a2_0 a2_1 a3 a2_3 a2_4 a2_5) else (jobberlaw12_OrderRank.j0 k (a3 != 2) a0_0 a0_1 a3 a0_3 a0_4 a0_5 a1_0 a1_1 a3 a1_3 a1_4 a1_5 a2_0 a2_1 a3 a2_3 a2_4 a2_5)) = some r := h
  clear h
  have HC5 := Aside0.mk H
  clear H
  go_enter Try.func4, Try.ntmps4
  go_upto_region 2 with (first | ((with_reducible refine gate_dst (N := 4) rfl ?_); refine box_event ?hg (N := 4) ?hd (cs := #[.int .u64 a0_0, .int .i64 a0_1, .int .i64 a0_2, .int .i64 a0_3, .int .i64 a0_4, .int .u64 a0_5]) (t := 33) ?hr ?_; (case hd => rfl); (case hg => rfl); (case hr => first | (go_simp; done) | (go_simp; rfl)); intro gb127 hg w6 hbox hb; have n0_ := Aside0.mk (below_step (by repeat (first | (with_reducible first | exact HB.out | apply below_alloc | apply pw_below_drewN | apply below_drew1) | exact HB.out)) hb); have n1_ := Aside0.mk (hbox); have n2_ := Aside0.mk ((by rw [hg]; exact (below_size (by repeat (first | (with_reducible first | exact HB.out | apply below_alloc | apply pw_below_drewN | apply below_drew1) | exact HB.out))) : w.heap.size ≤ gb127)); have n3_ := Aside0.mk ((by rw [hg]; exact (below_size (by repeat (first | (with_reducible first | exact HB.out | apply below_alloc | apply pw_below_drewN | apply below_drew1) | exact HB.out))) : w.heap.size ≤ gb127)); clear HB; have HB := n0_; have BK127 := n1_; have GW127 := n2_; have GE127 := n3_; clear n0_ n1_ n2_ n3_; clear hb hbox hg) | ((with_reducible refine gate_dst (N := 5) rfl ?_); refine box_event ?hg (N := 5) ?hd (cs := #[.int .u64 a1_0, .int .i64 a1_1, .int .i64 a1_2, .int .i64 a1_3, .int .i64 a1_4, .int .u64 a1_5]) (t := 33) ?hr ?_; (case hd => rfl); (case hg => rfl); (case hr => first | (go_simp; done) | (go_simp; rfl)); intro gb128 hg w7 hbox hb; have n0_ := Aside0.mk (blk_below (g := gb127) (o := .cells #[.int .u64 a0_0, .int .i64 a0_1, .int .i64 a0_2, .int .i64 a0_3, .int .i64 a0_4, .int .u64 a0_5] 33 (0, 0)) (by (with_reducible repeat (first | refine blk_drewN ?_ _ | refine blk_drew ?_ | refine blk_alloc ?_ _)); exact BK127.out) hb); have n1_ := Aside0.mk (below_step (by repeat (first | (with_reducible first | exact HB.out | apply below_alloc | apply pw_below_drewN | apply below_drew1 | refine below_set ?_ GE127.out) | exact HB.out)) hb); have n2_ := Aside0.mk (hbox); have n3_ := Aside0.mk ((by rw [hg]; exact (below_size (by repeat (first | (with_reducible first | exact HB.out | apply below_alloc | apply pw_below_drewN | apply below_drew1 | refine below_set ?_ GE127.out) | exact HB.out))) : w.heap.size ≤ gb128)); have n4_ := Aside0.mk ((by rw [hg]; exact (below_size (by repeat (first | (with_reducible first | exact HB.out | apply below_alloc | apply pw_below_drewN | apply below_drew1 | refine below_set ?_ GE127.out) | exact HB.out))) : w.heap.size ≤ gb128)); have n5_ := Aside0.mk ((by rw [hg]; exact Nat.ne_of_lt (blk_lt (g := gb127) (o := .cells #[.int .u64 a0_0, .int .i64 a0_1, .int .i64 a0_2, .int .i64 a0_3, .int .i64 a0_4, .int .u64 a0_5] 33 (0, 0)) (by (with_reducible repeat (first | refine blk_drewN ?_ _ | refine blk_drew ?_ | refine blk_alloc ?_ _)); exact BK127.out)) : gb127 ≠ gb128)); have n6_ := Aside0.mk ((by rw [hg]; exact Nat.ne_of_gt (blk_lt (g := gb127) (o := .cells #[.int .u64 a0_0, .int .i64 a0_1, .int .i64 a0_2, .int .i64 a0_3, .int .i64 a0_4, .int .u64 a0_5] 33 (0, 0)) (by (with_reducible repeat (first | refine blk_drewN ?_ _ | refine blk_drew ?_ | refine blk_alloc ?_ _)); exact BK127.out)) : gb128 ≠ gb127)); clear BK127; clear HB; have BK127 := n0_; have HB := n1_; have BK128 := n2_; have GW128 := n3_; have GE128 := n4_; have NB127_128 := n5_; have NB128_127 := n6_; clear n0_ n1_ n2_ n3_ n4_ n5_ n6_; clear hb hbox hg) | ((with_reducible refine gate_dst (N := 6) rfl ?_); refine box_event ?hg (N := 6) ?hd (cs := #[.int .u64 a2_0, .int .i64 a2_1, .int .i64 a2_2, .int .i64 a2_3, .int .i64 a2_4, .int .u64 a2_5]) (t := 33) ?hr ?_; (case hd => rfl); (case hg => rfl); (case hr => first | (go_simp; done) | (go_simp; rfl)); intro gb129 hg w8 hbox hb; have n0_ := Aside0.mk (blk_below (g := gb127) (o := .cells #[.int .u64 a0_0, .int .i64 a0_1, .int .i64 a0_2, .int .i64 a0_3, .int .i64 a0_4, .int .u64 a0_5] 33 (0, 0)) (by (with_reducible repeat (first | refine blk_drewN ?_ _ | refine blk_drew ?_ | refine blk_alloc ?_ _)); exact BK127.out) hb); have n1_ := Aside0.mk (blk_below (g := gb128) (o := .cells #[.int .u64 a1_0, .int .i64 a1_1, .int .i64 a1_2, .int .i64 a1_3, .int .i64 a1_4, .int .u64 a1_5] 33 (0, 0)) (by (with_reducible repeat (first | refine blk_drewN ?_ _ | refine blk_drew ?_ | refine blk_alloc ?_ _)); exact BK128.out) hb); have n2_ := Aside0.mk (below_step (by repeat (first | (with_reducible first | exact HB.out | apply below_alloc | apply pw_below_drewN | apply below_drew1 | refine below_set ?_ GE127.out | refine below_set ?_ GE128.out) | exact HB.out)) hb); have n3_ := Aside0.mk (hbox); have n4_ := Aside0.mk ((by rw [hg]; exact (below_size (by repeat (first | (with_reducible first | exact HB.out | apply below_alloc | apply pw_below_drewN | apply below_drew1 | refine below_set ?_ GE127.out | refine below_set ?_ GE128.out) | exact HB.out))) : w.heap.size ≤ gb129)); have n5_ := Aside0.mk ((by rw [hg]; exact (below_size (by repeat (first | (with_reducible first | exact HB.out | apply below_alloc | apply pw_below_drewN | apply below_drew1 | refine below_set ?_ GE127.out | refine below_set ?_ GE128.out) | exact HB.out))) : w.heap.size ≤ gb129)); have n6_ := Aside0.mk ((by rw [hg]; exact Nat.ne_of_lt (blk_lt (g := gb127) (o := .cells #[.int .u64 a0_0, .int .i64 a0_1, .int .i64 a0_2, .int .i64 a0_3, .int .i64 a0_4, .int .u64 a0_5] 33 (0, 0)) (by (with_reducible repeat (first | refine blk_drewN ?_ _ | refine blk_drew ?_ | refine blk_alloc ?_ _)); exact BK127.out)) : gb127 ≠ gb129)); have n7_ := Aside0.mk ((by rw [hg]; exact Nat.ne_of_gt (blk_lt (g := gb127) (o := .cells #[.int .u64 a0_0, .int .i64 a0_1, .int .i64 a0_2, .int .i64 a0_3, .int .i64 a0_4, .int .u64 a0_5] 33 (0, 0)) (by (with_reducible repeat (first | refine blk_drewN ?_ _ | refine blk_drew ?_ | refine blk_alloc ?_ _)); exact BK127.out)) : gb129 ≠ gb127)); have n8_ := Aside0.mk ((by rw [hg]; exact Nat.ne_of_lt (blk_lt (g := gb128) (o := .cells #[.int .u64 a1_0, .int .i64 a1_1, .int .i64 a1_2, .int .i64 a1_3, .int .i64 a1_4, .int .u64 a1_5] 33 (0, 0)) (by (with_reducible repeat (first | refine blk_drewN ?_ _ | refine blk_drew ?_ | refine blk_alloc ?_ _)); exact BK128.out)) : gb128 ≠ gb129)); have n9_ := Aside0.mk ((by rw [hg]; exact Nat.ne_of_gt (blk_lt (g := gb128) (o := .cells #[.int .u64 a1_0, .int .i64 a1_1, .int .i64 a1_2, .int .i64 a1_3, .int .i64 a1_4, .int .u64 a1_5] 33 (0, 0)) (by (with_reducible repeat (first | refine blk_drewN ?_ _ | refine blk_drew ?_ | refine blk_alloc ?_ _)); exact BK128.out)) : gb129 ≠ gb128)); clear BK127; clear BK128; clear HB; have BK127 := n0_; have BK128 := n1_; have HB := n2_; have BK129 := n3_; have GW129 := n4_; have GE129 := n5_; have NB127_129 := n6_; have NB129_127 := n7_; have NB128_129 := n8_; have NB129_128 := n9_; clear n0_ n1_ n2_ n3_ n4_ n5_ n6_ n7_ n8_ n9_; clear hb hbox hg; have hnb9 := NB127_128.out; have hnc9 := NB128_127.out; have hnb10 := NB127_129.out; have hnc10 := NB129_127.out; have hcz11_0 : w8.cell? ⟨gb127, 0, none⟩ = some (.int .u64 a0_0) := (blk_cell BK127.out 0).trans rfl; have hcz11_1 : w8.cell? ⟨gb127, 1, none⟩ = some (.int .i64 a0_1) := (blk_cell BK127.out 1).trans rfl; have hcz11_2 : w8.cell? ⟨gb127, 2, none⟩ = some (.int .i64 a0_2) := (blk_cell BK127.out 2).trans rfl; have hcz11_3 : w8.cell? ⟨gb127, 3, none⟩ = some (.int .i64 a0_3) := (blk_cell BK127.out 3).trans rfl; have hcz11_4 : w8.cell? ⟨gb127, 4, none⟩ = some (.int .i64 a0_4) := (blk_cell BK127.out 4).trans rfl; have hcz11_5 : w8.cell? ⟨gb127, 5, none⟩ = some (.int .u64 a0_5) := (blk_cell BK127.out 5).trans rfl; have hfz11_0 := blk_frozen BK127.out 0; have hfz11_1 := blk_frozen BK127.out 1; have hfz11_2 := blk_frozen BK127.out 2; have hfz11_3 := blk_frozen BK127.out 3; have hfz11_4 := blk_frozen BK127.out 4; have hfz11_5 := blk_frozen BK127.out 5; have hnb12 := NB128_129.out; have hnc12 := NB129_128.out; have hcz13_0 : w8.cell? ⟨gb128, 0, none⟩ = some (.int .u64 a1_0) := (blk_cell BK128.out 0).trans rfl; have hcz13_1 : w8.cell? ⟨gb128, 1, none⟩ = some (.int .i64 a1_1) := (blk_cell BK128.out 1).trans rfl; have hcz13_2 : w8.cell? ⟨gb128, 2, none⟩ = some (.int .i64 a1_2) := (blk_cell BK128.out 2).trans rfl; have hcz13_3 : w8.cell? ⟨gb128, 3, none⟩ = some (.int .i64 a1_3) := (blk_cell BK128.out 3).trans rfl; have hcz13_4 : w8.cell? ⟨gb128, 4, none⟩ = some (.int .i64 a1_4) := (blk_cell BK128.out 4).trans rfl; have hcz13_5 : w8.cell? ⟨gb128, 5, none⟩ = some (.int .u64 a1_5) := (blk_cell BK128.out 5).trans rfl; have hfz13_0 := blk_frozen BK128.out 0; have hfz13_1 := blk_frozen BK128.out 1; have hfz13_2 := blk_frozen BK128.out 2; have hfz13_3 := blk_frozen BK128.out 3; have hfz13_4 := blk_frozen BK128.out 4; have hfz13_5 := blk_frozen BK128.out 5; have hcz14_0 : w8.cell? ⟨gb129, 0, none⟩ = some (.int .u64 a2_0) := (blk_cell BK129.out 0).trans rfl; have hcz14_1 : w8.cell? ⟨gb129, 1, none⟩ = some (.int .i64 a2_1) := (blk_cell BK129.out 1).trans rfl; have hcz14_2 : w8.cell? ⟨gb129, 2, none⟩ = some (.int .i64 a2_2) := (blk_cell BK129.out 2).trans rfl; have hcz14_3 : w8.cell? ⟨gb129, 3, none⟩ = some (.int .i64 a2_3) := (blk_cell BK129.out 3).trans rfl; have hcz14_4 : w8.cell? ⟨gb129, 4, none⟩ = some (.int .i64 a2_4) := (blk_cell BK129.out 4).trans rfl; have hcz14_5 : w8.cell? ⟨gb129, 5, none⟩ = some (.int .u64 a2_5) := (blk_cell BK129.out 5).trans rfl; have hfz14_0 := blk_frozen BK129.out 0; have hfz14_1 := blk_frozen BK129.out 1; have hfz14_2 := blk_frozen BK129.out 2; have hfz14_3 := blk_frozen BK129.out 3; have hfz14_4 := blk_frozen BK129.out 4; have hfz14_5 := blk_frozen BK129.out 5))
  (try simp only [Act.put, List.setIfInBounds_toArray, List.set_cons_zero, List.set_cons_succ])
  go_cut [21] (fun v21 wc => ∃ (kq : Nat) (x21_4 : Bool), v21 = .bool x21_4 ∧ Aside0 (jobberlaw12_OrderRank.j0 kq x21_4 a0_0 a0_1 a3 a0_3 a0_4 a0_5 a1_0 a1_1 a3 a1_3 a1_4 a1_5 a2_0 a2_1 a3 a2_3 a2_4 a2_5 = some r) ∧ Aside0 (kq ≤ k) ∧ Aside0 (wc.heap[gb127]? = some (.cells #[.int .u64 a0_0, .int .i64 a0_1, .int .i64 a3, .int .i64 a0_3, .int .i64 a0_4, .int .u64 a0_5] 33 (0, 0))) ∧ Aside0 (wc.heap[gb128]? = some (.cells #[.int .u64 a1_0, .int .i64 a1_1, .int .i64 a3, .int .i64 a1_3, .int .i64 a1_4, .int .u64 a1_5] 33 (0, 0))) ∧ Aside0 (wc.heap[gb129]? = some (.cells #[.int .u64 a2_0, .int .i64 a2_1, .int .i64 a3, .int .i64 a2_3, .int .i64 a2_4, .int .u64 a2_5] 33 (0, 0))) ∧ Aside0 (Below w.heap.size w wc))
  case first =>
    have H := HC5.out
    clear HC5
    by_cases c15 : a3 = 1
    · rw [if_pos c15] at H
      have c15b0 : (a3 == 1) = true := beq_iff_eq.mpr c15
      have c15b1 : (a3 != 1) = false := bne_eq_false_iff_eq.mpr c15
      clear c15
      (first | rw [c15b0] | (simp only [i64_w, i32_w]; rw [c15b0]) | skip)
      have H' := Aside0.mk H
      clear H
      go_wp2
      go_meet
      case rel => exact ⟨_, (false), (by first | rfl | (simp; done) | (simp [*]; done)), H', ⟨by first | omega | exact Nat.le_refl _⟩, ⟨by (with_reducible repeat (first | refine blk_drewN ?_ _ | refine blk_drew ?_ | refine blk_alloc ?_ _)); refine blk_far ?_ NB127_129.out _; (with_reducible repeat (first | refine blk_drewN ?_ _ | refine blk_drew ?_ | refine blk_alloc ?_ _)); refine blk_far ?_ NB127_128.out _; (with_reducible repeat (first | refine blk_drewN ?_ _ | refine blk_drew ?_ | refine blk_alloc ?_ _)); refine blk_put (cs := #[.int .u64 a0_0, .int .i64 a0_1, .int .i64 a0_2, .int .i64 a0_3, .int .i64 a0_4, .int .u64 a0_5]) ?_ 2 _ rfl; (with_reducible repeat (first | refine blk_drewN ?_ _ | refine blk_drew ?_ | refine blk_alloc ?_ _)); exact BK127.out⟩, ⟨by (with_reducible repeat (first | refine blk_drewN ?_ _ | refine blk_drew ?_ | refine blk_alloc ?_ _)); refine blk_far ?_ NB128_129.out _; (with_reducible repeat (first | refine blk_drewN ?_ _ | refine blk_drew ?_ | refine blk_alloc ?_ _)); refine blk_put (cs := #[.int .u64 a1_0, .int .i64 a1_1, .int .i64 a1_2, .int .i64 a1_3, .int .i64 a1_4, .int .u64 a1_5]) ?_ 2 _ rfl; (with_reducible repeat (first | refine blk_drewN ?_ _ | refine blk_drew ?_ | refine blk_alloc ?_ _)); refine blk_far ?_ NB128_127.out _; (with_reducible repeat (first | refine blk_drewN ?_ _ | refine blk_drew ?_ | refine blk_alloc ?_ _)); exact BK128.out⟩, ⟨by (with_reducible repeat (first | refine blk_drewN ?_ _ | refine blk_drew ?_ | refine blk_alloc ?_ _)); refine blk_put (cs := #[.int .u64 a2_0, .int .i64 a2_1, .int .i64 a2_2, .int .i64 a2_3, .int .i64 a2_4, .int .u64 a2_5]) ?_ 2 _ rfl; (with_reducible repeat (first | refine blk_drewN ?_ _ | refine blk_drew ?_ | refine blk_alloc ?_ _)); refine blk_far ?_ NB129_128.out _; (with_reducible repeat (first | refine blk_drewN ?_ _ | refine blk_drew ?_ | refine blk_alloc ?_ _)); refine blk_far ?_ NB129_127.out _; (with_reducible repeat (first | refine blk_drewN ?_ _ | refine blk_drew ?_ | refine blk_alloc ?_ _)); exact BK129.out⟩, ⟨by repeat (first | (with_reducible first | exact HB.out | apply below_alloc | apply pw_below_drewN | apply below_drew1 | refine below_set ?_ GE127.out | refine below_set ?_ GE128.out | refine below_set ?_ GE129.out) | exact HB.out)⟩⟩
    · rw [if_neg c15] at H
      have c15b0 : (a3 == 1) = false := beq_eq_false_iff_ne.mpr c15
      have c15b1 : (a3 != 1) = true := bne_iff_ne.mpr c15
      (first | rw [c15b0] | (simp only [i64_w, i32_w]; rw [c15b0]) | skip)
      have H' := Aside0.mk H
      clear H
      go_wp2
      go_meet
      case rel => exact ⟨_, ((a3 != 2)), (by first | rfl | (simp; done) | (simp [*]; done)), H', ⟨by first | omega | exact Nat.le_refl _⟩, ⟨by (with_reducible repeat (first | refine blk_drewN ?_ _ | refine blk_drew ?_ | refine blk_alloc ?_ _)); refine blk_far ?_ NB127_129.out _; (with_reducible repeat (first | refine blk_drewN ?_ _ | refine blk_drew ?_ | refine blk_alloc ?_ _)); refine blk_far ?_ NB127_128.out _; (with_reducible repeat (first | refine blk_drewN ?_ _ | refine blk_drew ?_ | refine blk_alloc ?_ _)); refine blk_put (cs := #[.int .u64 a0_0, .int .i64 a0_1, .int .i64 a0_2, .int .i64 a0_3, .int .i64 a0_4, .int .u64 a0_5]) ?_ 2 _ rfl; (with_reducible repeat (first | refine blk_drewN ?_ _ | refine blk_drew ?_ | refine blk_alloc ?_ _)); exact BK127.out⟩, ⟨by (with_reducible repeat (first | refine blk_drewN ?_ _ | refine blk_drew ?_ | refine blk_alloc ?_ _)); refine blk_far ?_ NB128_129.out _; (with_reducible repeat (first | refine blk_drewN ?_ _ | refine blk_drew ?_ | refine blk_alloc ?_ _)); refine blk_put (cs := #[.int .u64 a1_0, .int .i64 a1_1, .int .i64 a1_2, .int .i64 a1_3, .int .i64 a1_4, .int .u64 a1_5]) ?_ 2 _ rfl; (with_reducible repeat (first | refine blk_drewN ?_ _ | refine blk_drew ?_ | refine blk_alloc ?_ _)); refine blk_far ?_ NB128_127.out _; (with_reducible repeat (first | refine blk_drewN ?_ _ | refine blk_drew ?_ | refine blk_alloc ?_ _)); exact BK128.out⟩, ⟨by (with_reducible repeat (first | refine blk_drewN ?_ _ | refine blk_drew ?_ | refine blk_alloc ?_ _)); refine blk_put (cs := #[.int .u64 a2_0, .int .i64 a2_1, .int .i64 a2_2, .int .i64 a2_3, .int .i64 a2_4, .int .u64 a2_5]) ?_ 2 _ rfl; (with_reducible repeat (first | refine blk_drewN ?_ _ | refine blk_drew ?_ | refine blk_alloc ?_ _)); refine blk_far ?_ NB129_128.out _; (with_reducible repeat (first | refine blk_drewN ?_ _ | refine blk_drew ?_ | refine blk_alloc ?_ _)); refine blk_far ?_ NB129_127.out _; (with_reducible repeat (first | refine blk_drewN ?_ _ | refine blk_drew ?_ | refine blk_alloc ?_ _)); exact BK129.out⟩, ⟨by repeat (first | (with_reducible first | exact HB.out | apply below_alloc | apply pw_below_drewN | apply below_drew1 | refine below_set ?_ GE127.out | refine below_set ?_ GE128.out | refine below_set ?_ GE129.out) | exact HB.out)⟩⟩
  case rest =>
    clear HC5
    try clear c1
    try clear p2
    try clear c4
    try clear c9
    try clear c10
    try clear c12
    try clear c15
    try clear c15b0
    try clear c15b1
    try clear hcz11_0
    try clear hcz11_1
    try clear hcz11_2
    try clear hcz11_3
    try clear hcz11_4
    try clear hcz11_5
    try clear hcz13_0
    try clear hcz13_1
    try clear hcz13_2
    try clear hcz13_3
    try clear hcz13_4
    try clear hcz13_5
    try clear hcz14_0
    try clear hcz14_1
    try clear hcz14_2
    try clear hcz14_3
    try clear hcz14_4
    try clear hcz14_5
    try clear hfz11_0
    try clear hfz11_1
    try clear hfz11_2
    try clear hfz11_3
    try clear hfz11_4
    try clear hfz11_5
    try clear hfz13_0
    try clear hfz13_1
    try clear hfz13_2
    try clear hfz13_3
    try clear hfz13_4
    try clear hfz13_5
    try clear hfz14_0
    try clear hfz14_1
    try clear hfz14_2
    try clear hfz14_3
    try clear hfz14_4
    try clear hfz14_5
    obtain ⟨kq, x21_4, rfl, HA, HJ4, BK127, BK128, BK129, HB⟩ := hcut
    cases kq with
    | zero => exact absurd HA.out (by simp [jobberlaw12_OrderRank.j0])
    | succ kj4 =>
      have H := HA.out
      clear HA
      simp only [jobberlaw12_OrderRank.j0] at H
      by_cases c16 : x21_4 = true
      · subst c16
        have H1 : ((order_Ahead.f kj4 a0_0 a0_1 a3 a0_3 a0_4 a0_5 a1_0 a1_1 a3 a1_3 a1_4 a1_5).bind fun t130 => (if t130 = true then (some false) else ((jobberlaw12_lives.f).bind fun t131 => (some t131)))) = some r := by rw [if_pos rfl] at H; exact H
        clear H
        have H := H1
        clear H1
        replace H := Option.bind_eq_some_iff.mp H
        obtain ⟨t130, A170, H⟩ := H
        replace H : (if t130 = true then (some false) else ((jobberlaw12_lives.f).bind fun t131 => (some t131))) = some r := H
        have A17 := Aside0.mk A170
        clear A170
        by_cases c18 : t130 = true
        · subst c18
          have H1 : (some false) = some r := by rw [if_pos rfl] at H; exact H
          clear H
          have H := H1
          clear H1
          obtain rfl := Option.some.inj H
          have hnb19 := NB127_128.out
          have hnc19 := NB128_127.out
          have hnb20 := NB127_129.out
          have hnc20 := NB129_127.out
          have hcz21_0 : wc.cell? ⟨gb127, 0, none⟩ = some (.int .u64 a0_0) := (blk_cell BK127.out 0).trans rfl
          have hcz21_1 : wc.cell? ⟨gb127, 1, none⟩ = some (.int .i64 a0_1) := (blk_cell BK127.out 1).trans rfl
          have hcz21_2 : wc.cell? ⟨gb127, 2, none⟩ = some (.int .i64 a3) := (blk_cell BK127.out 2).trans rfl
          have hcz21_3 : wc.cell? ⟨gb127, 3, none⟩ = some (.int .i64 a0_3) := (blk_cell BK127.out 3).trans rfl
          have hcz21_4 : wc.cell? ⟨gb127, 4, none⟩ = some (.int .i64 a0_4) := (blk_cell BK127.out 4).trans rfl
          have hcz21_5 : wc.cell? ⟨gb127, 5, none⟩ = some (.int .u64 a0_5) := (blk_cell BK127.out 5).trans rfl
          have hfz21_0 := blk_frozen BK127.out 0
          have hfz21_1 := blk_frozen BK127.out 1
          have hfz21_2 := blk_frozen BK127.out 2
          have hfz21_3 := blk_frozen BK127.out 3
          have hfz21_4 := blk_frozen BK127.out 4
          have hfz21_5 := blk_frozen BK127.out 5
          have hnb22 := NB128_129.out
          have hnc22 := NB129_128.out
          have hcz23_0 : wc.cell? ⟨gb128, 0, none⟩ = some (.int .u64 a1_0) := (blk_cell BK128.out 0).trans rfl
          have hcz23_1 : wc.cell? ⟨gb128, 1, none⟩ = some (.int .i64 a1_1) := (blk_cell BK128.out 1).trans rfl
          have hcz23_2 : wc.cell? ⟨gb128, 2, none⟩ = some (.int .i64 a3) := (blk_cell BK128.out 2).trans rfl
          have hcz23_3 : wc.cell? ⟨gb128, 3, none⟩ = some (.int .i64 a1_3) := (blk_cell BK128.out 3).trans rfl
          have hcz23_4 : wc.cell? ⟨gb128, 4, none⟩ = some (.int .i64 a1_4) := (blk_cell BK128.out 4).trans rfl
          have hcz23_5 : wc.cell? ⟨gb128, 5, none⟩ = some (.int .u64 a1_5) := (blk_cell BK128.out 5).trans rfl
          have hfz23_0 := blk_frozen BK128.out 0
          have hfz23_1 := blk_frozen BK128.out 1
          have hfz23_2 := blk_frozen BK128.out 2
          have hfz23_3 := blk_frozen BK128.out 3
          have hfz23_4 := blk_frozen BK128.out 4
          have hfz23_5 := blk_frozen BK128.out 5
          go_wp2_with (first | ((with_reducible refine gate_callee (f := 17) rfl ?_); refine goesL_ (some 24) rfl rfl Try.func17 (by kernel_rfl) rfl #[.agg #[.int .u64 a0_0, .int .i64 a0_1, .int .i64 a3, .int .i64 a0_3, .int .i64 a0_4, .int .u64 a0_5], .agg #[.int .u64 a1_0, .int .i64 a1_1, .int .i64 a3, .int .i64 a1_3, .int .i64 a1_4, .int .u64 a1_5]] rfl (by (try simp only [List.map_toArray, List.map_cons, List.map_nil]); first | done | rfl | (simp only [List.length_drop, List.length_take]; rfl)) ?_; (with_reducible refine (order_Ahead.calls kj4 a0_0 a0_1 a3 a0_3 a0_4 a0_5 a1_0 a1_1 a3 a1_3 a1_4 a1_5 true _ A17.out).mono ?_); rintro e w24 ⟨rfl, hb⟩; refine ⟨_, rfl, ?_⟩; have n0_ := Aside0.mk (blk_below (g := gb127) (o := .cells #[.int .u64 a0_0, .int .i64 a0_1, .int .i64 a3, .int .i64 a0_3, .int .i64 a0_4, .int .u64 a0_5] 33 (0, 0)) (by (with_reducible repeat (first | refine blk_drewN ?_ _ | refine blk_drew ?_ | refine blk_alloc ?_ _)); exact BK127.out) hb); have n1_ := Aside0.mk (blk_below (g := gb128) (o := .cells #[.int .u64 a1_0, .int .i64 a1_1, .int .i64 a3, .int .i64 a1_3, .int .i64 a1_4, .int .u64 a1_5] 33 (0, 0)) (by (with_reducible repeat (first | refine blk_drewN ?_ _ | refine blk_drew ?_ | refine blk_alloc ?_ _)); exact BK128.out) hb); have n2_ := Aside0.mk (blk_below (g := gb129) (o := .cells #[.int .u64 a2_0, .int .i64 a2_1, .int .i64 a3, .int .i64 a2_3, .int .i64 a2_4, .int .u64 a2_5] 33 (0, 0)) (by (with_reducible repeat (first | refine blk_drewN ?_ _ | refine blk_drew ?_ | refine blk_alloc ?_ _)); exact BK129.out) hb); have n3_ := Aside0.mk (below_step (by repeat (first | (with_reducible first | exact HB.out | apply below_alloc | apply pw_below_drewN | apply below_drew1 | refine below_set ?_ GE127.out | refine below_set ?_ GE128.out | refine below_set ?_ GE129.out) | exact HB.out)) hb); clear BK127; clear BK128; clear BK129; clear HB; have BK127 := n0_; have BK128 := n1_; have BK129 := n2_; have HB := n3_; clear n0_ n1_ n2_ n3_; (try clear hb); (try clear hb2); (try clear hk); (try clear hi)))
          go_ret
          exact ⟨by first | rfl | (simp [errW_none, errW_some] <;> rfl) | (simp [*, errW_none, errW_some] <;> rfl), by repeat (first | (with_reducible first | exact HB.out | apply below_alloc | apply pw_below_drewN | apply below_drew1 | refine below_set ?_ GE127.out | refine below_set ?_ GE128.out | refine below_set ?_ GE129.out) | exact HB.out)⟩
        · replace c18 := Bool.eq_false_iff.mpr c18
          subst c18
          have H1 : ((jobberlaw12_lives.f).bind fun t131 => (some t131)) = some r := by rw [if_neg (show ¬ (false = true) by decide)] at H; exact H
          clear H
          have H := H1
          clear H1
          replace H := Option.bind_eq_some_iff.mp H
          obtain ⟨t131, A250, H⟩ := H
          replace H : (some t131) = some r := H
          have A25 := Aside0.mk A250
          clear A250
          obtain rfl := Option.some.inj H
          have hnb26 := NB127_128.out
          have hnc26 := NB128_127.out
          have hnb27 := NB127_129.out
          have hnc27 := NB129_127.out
          have hcz28_0 : wc.cell? ⟨gb127, 0, none⟩ = some (.int .u64 a0_0) := (blk_cell BK127.out 0).trans rfl
          have hcz28_1 : wc.cell? ⟨gb127, 1, none⟩ = some (.int .i64 a0_1) := (blk_cell BK127.out 1).trans rfl
          have hcz28_2 : wc.cell? ⟨gb127, 2, none⟩ = some (.int .i64 a3) := (blk_cell BK127.out 2).trans rfl
          have hcz28_3 : wc.cell? ⟨gb127, 3, none⟩ = some (.int .i64 a0_3) := (blk_cell BK127.out 3).trans rfl
          have hcz28_4 : wc.cell? ⟨gb127, 4, none⟩ = some (.int .i64 a0_4) := (blk_cell BK127.out 4).trans rfl
          have hcz28_5 : wc.cell? ⟨gb127, 5, none⟩ = some (.int .u64 a0_5) := (blk_cell BK127.out 5).trans rfl
          have hfz28_0 := blk_frozen BK127.out 0
          have hfz28_1 := blk_frozen BK127.out 1
          have hfz28_2 := blk_frozen BK127.out 2
          have hfz28_3 := blk_frozen BK127.out 3
          have hfz28_4 := blk_frozen BK127.out 4
          have hfz28_5 := blk_frozen BK127.out 5
          have hnb29 := NB128_129.out
          have hnc29 := NB129_128.out
          have hcz30_0 : wc.cell? ⟨gb128, 0, none⟩ = some (.int .u64 a1_0) := (blk_cell BK128.out 0).trans rfl
          have hcz30_1 : wc.cell? ⟨gb128, 1, none⟩ = some (.int .i64 a1_1) := (blk_cell BK128.out 1).trans rfl
          have hcz30_2 : wc.cell? ⟨gb128, 2, none⟩ = some (.int .i64 a3) := (blk_cell BK128.out 2).trans rfl
          have hcz30_3 : wc.cell? ⟨gb128, 3, none⟩ = some (.int .i64 a1_3) := (blk_cell BK128.out 3).trans rfl
          have hcz30_4 : wc.cell? ⟨gb128, 4, none⟩ = some (.int .i64 a1_4) := (blk_cell BK128.out 4).trans rfl
          have hcz30_5 : wc.cell? ⟨gb128, 5, none⟩ = some (.int .u64 a1_5) := (blk_cell BK128.out 5).trans rfl
          have hfz30_0 := blk_frozen BK128.out 0
          have hfz30_1 := blk_frozen BK128.out 1
          have hfz30_2 := blk_frozen BK128.out 2
          have hfz30_3 := blk_frozen BK128.out 3
          have hfz30_4 := blk_frozen BK128.out 4
          have hfz30_5 := blk_frozen BK128.out 5
          go_wp2_with (first | ((with_reducible refine gate_callee (f := 17) rfl ?_); refine goesL_ (some 24) rfl rfl Try.func17 (by kernel_rfl) rfl #[.agg #[.int .u64 a0_0, .int .i64 a0_1, .int .i64 a3, .int .i64 a0_3, .int .i64 a0_4, .int .u64 a0_5], .agg #[.int .u64 a1_0, .int .i64 a1_1, .int .i64 a3, .int .i64 a1_3, .int .i64 a1_4, .int .u64 a1_5]] rfl (by (try simp only [List.map_toArray, List.map_cons, List.map_nil]); first | done | rfl | (simp only [List.length_drop, List.length_take]; rfl)) ?_; (with_reducible refine (order_Ahead.calls kj4 a0_0 a0_1 a3 a0_3 a0_4 a0_5 a1_0 a1_1 a3 a1_3 a1_4 a1_5 false _ A17.out).mono ?_); rintro e w31 ⟨rfl, hb⟩; refine ⟨_, rfl, ?_⟩; have n0_ := Aside0.mk (blk_below (g := gb127) (o := .cells #[.int .u64 a0_0, .int .i64 a0_1, .int .i64 a3, .int .i64 a0_3, .int .i64 a0_4, .int .u64 a0_5] 33 (0, 0)) (by (with_reducible repeat (first | refine blk_drewN ?_ _ | refine blk_drew ?_ | refine blk_alloc ?_ _)); exact BK127.out) hb); have n1_ := Aside0.mk (blk_below (g := gb128) (o := .cells #[.int .u64 a1_0, .int .i64 a1_1, .int .i64 a3, .int .i64 a1_3, .int .i64 a1_4, .int .u64 a1_5] 33 (0, 0)) (by (with_reducible repeat (first | refine blk_drewN ?_ _ | refine blk_drew ?_ | refine blk_alloc ?_ _)); exact BK128.out) hb); have n2_ := Aside0.mk (blk_below (g := gb129) (o := .cells #[.int .u64 a2_0, .int .i64 a2_1, .int .i64 a3, .int .i64 a2_3, .int .i64 a2_4, .int .u64 a2_5] 33 (0, 0)) (by (with_reducible repeat (first | refine blk_drewN ?_ _ | refine blk_drew ?_ | refine blk_alloc ?_ _)); exact BK129.out) hb); have n3_ := Aside0.mk (below_step (by repeat (first | (with_reducible first | exact HB.out | apply below_alloc | apply pw_below_drewN | apply below_drew1 | refine below_set ?_ GE127.out | refine below_set ?_ GE128.out | refine below_set ?_ GE129.out) | exact HB.out)) hb); clear BK127; clear BK128; clear BK129; clear HB; have BK127 := n0_; have BK128 := n1_; have BK129 := n2_; have HB := n3_; clear n0_ n1_ n2_ n3_; (try clear hb); (try clear hb2); (try clear hk); (try clear hi)) | (go_at_call 10; (with_reducible refine (jobberlaw12_lives.calls  t131 _ A25.out).mono ?_); rintro e w32 ⟨rfl, hb⟩; have n0_ := Aside0.mk (blk_below (g := gb127) (o := .cells #[.int .u64 a0_0, .int .i64 a0_1, .int .i64 a3, .int .i64 a0_3, .int .i64 a0_4, .int .u64 a0_5] 33 (0, 0)) (by (with_reducible repeat (first | refine blk_drewN ?_ _ | refine blk_drew ?_ | refine blk_alloc ?_ _)); exact BK127.out) hb); have n1_ := Aside0.mk (blk_below (g := gb128) (o := .cells #[.int .u64 a1_0, .int .i64 a1_1, .int .i64 a3, .int .i64 a1_3, .int .i64 a1_4, .int .u64 a1_5] 33 (0, 0)) (by (with_reducible repeat (first | refine blk_drewN ?_ _ | refine blk_drew ?_ | refine blk_alloc ?_ _)); exact BK128.out) hb); have n2_ := Aside0.mk (blk_below (g := gb129) (o := .cells #[.int .u64 a2_0, .int .i64 a2_1, .int .i64 a3, .int .i64 a2_3, .int .i64 a2_4, .int .u64 a2_5] 33 (0, 0)) (by (with_reducible repeat (first | refine blk_drewN ?_ _ | refine blk_drew ?_ | refine blk_alloc ?_ _)); exact BK129.out) hb); have n3_ := Aside0.mk (below_step (by repeat (first | (with_reducible first | exact HB.out | apply below_alloc | apply pw_below_drewN | apply below_drew1 | refine below_set ?_ GE127.out | refine below_set ?_ GE128.out | refine below_set ?_ GE129.out) | exact HB.out)) hb); clear BK127; clear BK128; clear BK129; clear HB; have BK127 := n0_; have BK128 := n1_; have BK129 := n2_; have HB := n3_; clear n0_ n1_ n2_ n3_; (try clear hb); (try clear hb2); (try clear hk); (try clear hi)))
          go_ret
          exact ⟨by first | rfl | (simp [errW_none, errW_some] <;> rfl) | (simp [*, errW_none, errW_some] <;> rfl), by repeat (first | (with_reducible first | exact HB.out | apply below_alloc | apply pw_below_drewN | apply below_drew1 | refine below_set ?_ GE127.out | refine below_set ?_ GE128.out | refine below_set ?_ GE129.out) | exact HB.out)⟩
      · replace c16 := Bool.eq_false_iff.mpr c16
        subst c16
        have H1 : (if a0_3 = a1_3 then (if a0_5 = a1_5 then (jobberlaw12_OrderRank.j1 kj4 (a0_0 != a1_0) a0_0 a0_1 a3 a0_3 a0_4 a0_5 a1_0 a1_1 a3 a1_3 a1_4 a1_5 a2_0 a2_1 a3 a2_3 a2_4 a2_5) else (jobberlaw12_OrderRank.j1 kj4 true a0_0 a0_1 a3 a0_3 a0_4 a0_5 a1_0 a1_1 a3 a1_3 a1_4 a1_5 a2_0 a2_1 a3 a2_3 a2_4 a2_5)) else (jobberlaw12_OrderRank.j1 kj4 true a0_0 a0_1 a3 a0_3 a0_4 a0_5 a1_0 a1_1 a3 a1_3 a1_4 a1_5 a2_0 a2_1 a3 a2_3 a2_4 a2_5)) = some r := by rw [if_neg (show ¬ (false = true) by decide)] at H; exact H
        clear H
        have H := H1
        clear H1
        have HC33 := Aside0.mk H
        clear H
        go_upto_region 4 with (fail)
        go_cut [9] (fun v9 wc => ∃ (kq : Nat) (x9_32 : Bool), v9 = .bool x9_32 ∧ Aside0 (jobberlaw12_OrderRank.j1 kq x9_32 a0_0 a0_1 a3 a0_3 a0_4 a0_5 a1_0 a1_1 a3 a1_3 a1_4 a1_5 a2_0 a2_1 a3 a2_3 a2_4 a2_5 = some r) ∧ Aside0 (kq ≤ kj4) ∧ Aside0 (wc.heap[gb127]? = some (.cells #[.int .u64 a0_0, .int .i64 a0_1, .int .i64 a3, .int .i64 a0_3, .int .i64 a0_4, .int .u64 a0_5] 33 (0, 0))) ∧ Aside0 (wc.heap[gb128]? = some (.cells #[.int .u64 a1_0, .int .i64 a1_1, .int .i64 a3, .int .i64 a1_3, .int .i64 a1_4, .int .u64 a1_5] 33 (0, 0))) ∧ Aside0 (wc.heap[gb129]? = some (.cells #[.int .u64 a2_0, .int .i64 a2_1, .int .i64 a3, .int .i64 a2_3, .int .i64 a2_4, .int .u64 a2_5] 33 (0, 0))) ∧ Aside0 (Below w.heap.size w wc))
        case first =>
          have H := HC33.out
          clear HC33
          by_cases c34 : a0_3 = a1_3
          · rw [if_pos c34] at H
            have c34b0 : (a0_3 == a1_3) = true := beq_iff_eq.mpr c34
            have c34b1 : (a0_3 != a1_3) = false := bne_eq_false_iff_eq.mpr c34
            clear c34
            (first | rw [c34b0] | (simp only [i64_w, i32_w]; rw [c34b0]) | skip)
            by_cases c35 : a0_5 = a1_5
            · rw [if_pos c35] at H
              have c35b0 : (a0_5 == a1_5) = true := beq_iff_eq.mpr c35
              have c35b1 : (a0_5 != a1_5) = false := bne_eq_false_iff_eq.mpr c35
              clear c35
              have H' := Aside0.mk H
              clear H
              have hnb36 := NB127_128.out
              have hnc36 := NB128_127.out
              have hnb37 := NB127_129.out
              have hnc37 := NB129_127.out
              have hcz38_0 : wc.cell? ⟨gb127, 0, none⟩ = some (.int .u64 a0_0) := (blk_cell BK127.out 0).trans rfl
              have hcz38_1 : wc.cell? ⟨gb127, 1, none⟩ = some (.int .i64 a0_1) := (blk_cell BK127.out 1).trans rfl
              have hcz38_2 : wc.cell? ⟨gb127, 2, none⟩ = some (.int .i64 a3) := (blk_cell BK127.out 2).trans rfl
              have hcz38_3 : wc.cell? ⟨gb127, 3, none⟩ = some (.int .i64 a0_3) := (blk_cell BK127.out 3).trans rfl
              have hcz38_4 : wc.cell? ⟨gb127, 4, none⟩ = some (.int .i64 a0_4) := (blk_cell BK127.out 4).trans rfl
              have hcz38_5 : wc.cell? ⟨gb127, 5, none⟩ = some (.int .u64 a0_5) := (blk_cell BK127.out 5).trans rfl
              have hfz38_0 := blk_frozen BK127.out 0
              have hfz38_1 := blk_frozen BK127.out 1
              have hfz38_2 := blk_frozen BK127.out 2
              have hfz38_3 := blk_frozen BK127.out 3
              have hfz38_4 := blk_frozen BK127.out 4
              have hfz38_5 := blk_frozen BK127.out 5
              have hnb39 := NB128_129.out
              have hnc39 := NB129_128.out
              have hcz40_0 : wc.cell? ⟨gb128, 0, none⟩ = some (.int .u64 a1_0) := (blk_cell BK128.out 0).trans rfl
              have hcz40_1 : wc.cell? ⟨gb128, 1, none⟩ = some (.int .i64 a1_1) := (blk_cell BK128.out 1).trans rfl
              have hcz40_2 : wc.cell? ⟨gb128, 2, none⟩ = some (.int .i64 a3) := (blk_cell BK128.out 2).trans rfl
              have hcz40_3 : wc.cell? ⟨gb128, 3, none⟩ = some (.int .i64 a1_3) := (blk_cell BK128.out 3).trans rfl
              have hcz40_4 : wc.cell? ⟨gb128, 4, none⟩ = some (.int .i64 a1_4) := (blk_cell BK128.out 4).trans rfl
              have hcz40_5 : wc.cell? ⟨gb128, 5, none⟩ = some (.int .u64 a1_5) := (blk_cell BK128.out 5).trans rfl
              have hfz40_0 := blk_frozen BK128.out 0
              have hfz40_1 := blk_frozen BK128.out 1
              have hfz40_2 := blk_frozen BK128.out 2
              have hfz40_3 := blk_frozen BK128.out 3
              have hfz40_4 := blk_frozen BK128.out 4
              have hfz40_5 := blk_frozen BK128.out 5
              go_wp2
              go_meet
              case rel => exact ⟨_, ((a0_0 != a1_0)), (by first | rfl | (simp; done) | (simp [*]; done)), H', ⟨by have := HJ4.out; first | omega | exact Nat.le_refl _⟩, ⟨by (with_reducible repeat (first | refine blk_drewN ?_ _ | refine blk_drew ?_ | refine blk_alloc ?_ _)); exact BK127.out⟩, ⟨by (with_reducible repeat (first | refine blk_drewN ?_ _ | refine blk_drew ?_ | refine blk_alloc ?_ _)); exact BK128.out⟩, ⟨by (with_reducible repeat (first | refine blk_drewN ?_ _ | refine blk_drew ?_ | refine blk_alloc ?_ _)); exact BK129.out⟩, ⟨by repeat (first | (with_reducible first | exact HB.out | apply below_alloc | apply pw_below_drewN | apply below_drew1 | refine below_set ?_ GE127.out | refine below_set ?_ GE128.out | refine below_set ?_ GE129.out) | exact HB.out)⟩⟩
            · rw [if_neg c35] at H
              have c35b0 : (a0_5 == a1_5) = false := beq_eq_false_iff_ne.mpr c35
              have c35b1 : (a0_5 != a1_5) = true := bne_iff_ne.mpr c35
              have H' := Aside0.mk H
              clear H
              have hnb41 := NB127_128.out
              have hnc41 := NB128_127.out
              have hnb42 := NB127_129.out
              have hnc42 := NB129_127.out
              have hcz43_0 : wc.cell? ⟨gb127, 0, none⟩ = some (.int .u64 a0_0) := (blk_cell BK127.out 0).trans rfl
              have hcz43_1 : wc.cell? ⟨gb127, 1, none⟩ = some (.int .i64 a0_1) := (blk_cell BK127.out 1).trans rfl
              have hcz43_2 : wc.cell? ⟨gb127, 2, none⟩ = some (.int .i64 a3) := (blk_cell BK127.out 2).trans rfl
              have hcz43_3 : wc.cell? ⟨gb127, 3, none⟩ = some (.int .i64 a0_3) := (blk_cell BK127.out 3).trans rfl
              have hcz43_4 : wc.cell? ⟨gb127, 4, none⟩ = some (.int .i64 a0_4) := (blk_cell BK127.out 4).trans rfl
              have hcz43_5 : wc.cell? ⟨gb127, 5, none⟩ = some (.int .u64 a0_5) := (blk_cell BK127.out 5).trans rfl
              have hfz43_0 := blk_frozen BK127.out 0
              have hfz43_1 := blk_frozen BK127.out 1
              have hfz43_2 := blk_frozen BK127.out 2
              have hfz43_3 := blk_frozen BK127.out 3
              have hfz43_4 := blk_frozen BK127.out 4
              have hfz43_5 := blk_frozen BK127.out 5
              have hnb44 := NB128_129.out
              have hnc44 := NB129_128.out
              have hcz45_0 : wc.cell? ⟨gb128, 0, none⟩ = some (.int .u64 a1_0) := (blk_cell BK128.out 0).trans rfl
              have hcz45_1 : wc.cell? ⟨gb128, 1, none⟩ = some (.int .i64 a1_1) := (blk_cell BK128.out 1).trans rfl
              have hcz45_2 : wc.cell? ⟨gb128, 2, none⟩ = some (.int .i64 a3) := (blk_cell BK128.out 2).trans rfl
              have hcz45_3 : wc.cell? ⟨gb128, 3, none⟩ = some (.int .i64 a1_3) := (blk_cell BK128.out 3).trans rfl
              have hcz45_4 : wc.cell? ⟨gb128, 4, none⟩ = some (.int .i64 a1_4) := (blk_cell BK128.out 4).trans rfl
              have hcz45_5 : wc.cell? ⟨gb128, 5, none⟩ = some (.int .u64 a1_5) := (blk_cell BK128.out 5).trans rfl
              have hfz45_0 := blk_frozen BK128.out 0
              have hfz45_1 := blk_frozen BK128.out 1
              have hfz45_2 := blk_frozen BK128.out 2
              have hfz45_3 := blk_frozen BK128.out 3
              have hfz45_4 := blk_frozen BK128.out 4
              have hfz45_5 := blk_frozen BK128.out 5
              go_wp2
              go_meet
              case rel => exact ⟨_, (true), (by first | rfl | (simp; done) | (simp [*]; done)), H', ⟨by have := HJ4.out; first | omega | exact Nat.le_refl _⟩, ⟨by (with_reducible repeat (first | refine blk_drewN ?_ _ | refine blk_drew ?_ | refine blk_alloc ?_ _)); exact BK127.out⟩, ⟨by (with_reducible repeat (first | refine blk_drewN ?_ _ | refine blk_drew ?_ | refine blk_alloc ?_ _)); exact BK128.out⟩, ⟨by (with_reducible repeat (first | refine blk_drewN ?_ _ | refine blk_drew ?_ | refine blk_alloc ?_ _)); exact BK129.out⟩, ⟨by repeat (first | (with_reducible first | exact HB.out | apply below_alloc | apply pw_below_drewN | apply below_drew1 | refine below_set ?_ GE127.out | refine below_set ?_ GE128.out | refine below_set ?_ GE129.out) | exact HB.out)⟩⟩
          · rw [if_neg c34] at H
            have c34b0 : (a0_3 == a1_3) = false := beq_eq_false_iff_ne.mpr c34
            have c34b1 : (a0_3 != a1_3) = true := bne_iff_ne.mpr c34
            (first | rw [c34b0] | (simp only [i64_w, i32_w]; rw [c34b0]) | skip)
            have H' := Aside0.mk H
            clear H
            have hnb46 := NB127_128.out
            have hnc46 := NB128_127.out
            have hnb47 := NB127_129.out
            have hnc47 := NB129_127.out
            have hcz48_0 : wc.cell? ⟨gb127, 0, none⟩ = some (.int .u64 a0_0) := (blk_cell BK127.out 0).trans rfl
            have hcz48_1 : wc.cell? ⟨gb127, 1, none⟩ = some (.int .i64 a0_1) := (blk_cell BK127.out 1).trans rfl
            have hcz48_2 : wc.cell? ⟨gb127, 2, none⟩ = some (.int .i64 a3) := (blk_cell BK127.out 2).trans rfl
            have hcz48_3 : wc.cell? ⟨gb127, 3, none⟩ = some (.int .i64 a0_3) := (blk_cell BK127.out 3).trans rfl
            have hcz48_4 : wc.cell? ⟨gb127, 4, none⟩ = some (.int .i64 a0_4) := (blk_cell BK127.out 4).trans rfl
            have hcz48_5 : wc.cell? ⟨gb127, 5, none⟩ = some (.int .u64 a0_5) := (blk_cell BK127.out 5).trans rfl
            have hfz48_0 := blk_frozen BK127.out 0
            have hfz48_1 := blk_frozen BK127.out 1
            have hfz48_2 := blk_frozen BK127.out 2
            have hfz48_3 := blk_frozen BK127.out 3
            have hfz48_4 := blk_frozen BK127.out 4
            have hfz48_5 := blk_frozen BK127.out 5
            have hnb49 := NB128_129.out
            have hnc49 := NB129_128.out
            have hcz50_0 : wc.cell? ⟨gb128, 0, none⟩ = some (.int .u64 a1_0) := (blk_cell BK128.out 0).trans rfl
            have hcz50_1 : wc.cell? ⟨gb128, 1, none⟩ = some (.int .i64 a1_1) := (blk_cell BK128.out 1).trans rfl
            have hcz50_2 : wc.cell? ⟨gb128, 2, none⟩ = some (.int .i64 a3) := (blk_cell BK128.out 2).trans rfl
            have hcz50_3 : wc.cell? ⟨gb128, 3, none⟩ = some (.int .i64 a1_3) := (blk_cell BK128.out 3).trans rfl
            have hcz50_4 : wc.cell? ⟨gb128, 4, none⟩ = some (.int .i64 a1_4) := (blk_cell BK128.out 4).trans rfl
            have hcz50_5 : wc.cell? ⟨gb128, 5, none⟩ = some (.int .u64 a1_5) := (blk_cell BK128.out 5).trans rfl
            have hfz50_0 := blk_frozen BK128.out 0
            have hfz50_1 := blk_frozen BK128.out 1
            have hfz50_2 := blk_frozen BK128.out 2
            have hfz50_3 := blk_frozen BK128.out 3
            have hfz50_4 := blk_frozen BK128.out 4
            have hfz50_5 := blk_frozen BK128.out 5
            go_wp2
            go_meet
            case rel => exact ⟨_, (true), (by first | rfl | (simp; done) | (simp [*]; done)), H', ⟨by have := HJ4.out; first | omega | exact Nat.le_refl _⟩, ⟨by (with_reducible repeat (first | refine blk_drewN ?_ _ | refine blk_drew ?_ | refine blk_alloc ?_ _)); exact BK127.out⟩, ⟨by (with_reducible repeat (first | refine blk_drewN ?_ _ | refine blk_drew ?_ | refine blk_alloc ?_ _)); exact BK128.out⟩, ⟨by (with_reducible repeat (first | refine blk_drewN ?_ _ | refine blk_drew ?_ | refine blk_alloc ?_ _)); exact BK129.out⟩, ⟨by repeat (first | (with_reducible first | exact HB.out | apply below_alloc | apply pw_below_drewN | apply below_drew1 | refine below_set ?_ GE127.out | refine below_set ?_ GE128.out | refine below_set ?_ GE129.out) | exact HB.out)⟩⟩
        case rest =>
          clear HC33
          try clear c1
          try clear c2
          try clear p2
          try clear c3
          try clear c4
          try clear c9
          try clear c10
          try clear c12
          try clear c15
          try clear c15b0
          try clear c15b1
          try clear c16
          try clear c17
          try clear c18
          try clear c19
          try clear c20
          try clear c22
          try clear c26
          try clear c27
          try clear c29
          try clear c34
          try clear c34b0
          try clear c34b1
          try clear c35
          try clear c35b0
          try clear c35b1
          try clear c36
          try clear c37
          try clear c39
          try clear c41
          try clear c42
          try clear c44
          try clear c46
          try clear c47
          try clear c49
          try clear hcz11_0
          try clear hcz11_1
          try clear hcz11_2
          try clear hcz11_3
          try clear hcz11_4
          try clear hcz11_5
          try clear hcz13_0
          try clear hcz13_1
          try clear hcz13_2
          try clear hcz13_3
          try clear hcz13_4
          try clear hcz13_5
          try clear hcz14_0
          try clear hcz14_1
          try clear hcz14_2
          try clear hcz14_3
          try clear hcz14_4
          try clear hcz14_5
          try clear hcz21_0
          try clear hcz21_1
          try clear hcz21_2
          try clear hcz21_3
          try clear hcz21_4
          try clear hcz21_5
          try clear hcz23_0
          try clear hcz23_1
          try clear hcz23_2
          try clear hcz23_3
          try clear hcz23_4
          try clear hcz23_5
          try clear hcz28_0
          try clear hcz28_1
          try clear hcz28_2
          try clear hcz28_3
          try clear hcz28_4
          try clear hcz28_5
          try clear hcz30_0
          try clear hcz30_1
          try clear hcz30_2
          try clear hcz30_3
          try clear hcz30_4
          try clear hcz30_5
          try clear hcz38_0
          try clear hcz38_1
          try clear hcz38_2
          try clear hcz38_3
          try clear hcz38_4
          try clear hcz38_5
          try clear hcz40_0
          try clear hcz40_1
          try clear hcz40_2
          try clear hcz40_3
          try clear hcz40_4
          try clear hcz40_5
          try clear hcz43_0
          try clear hcz43_1
          try clear hcz43_2
          try clear hcz43_3
          try clear hcz43_4
          try clear hcz43_5
          try clear hcz45_0
          try clear hcz45_1
          try clear hcz45_2
          try clear hcz45_3
          try clear hcz45_4
          try clear hcz45_5
          try clear hcz48_0
          try clear hcz48_1
          try clear hcz48_2
          try clear hcz48_3
          try clear hcz48_4
          try clear hcz48_5
          try clear hcz50_0
          try clear hcz50_1
          try clear hcz50_2
          try clear hcz50_3
          try clear hcz50_4
          try clear hcz50_5
          try clear hfz11_0
          try clear hfz11_1
          try clear hfz11_2
          try clear hfz11_3
          try clear hfz11_4
          try clear hfz11_5
          try clear hfz13_0
          try clear hfz13_1
          try clear hfz13_2
          try clear hfz13_3
          try clear hfz13_4
          try clear hfz13_5
          try clear hfz14_0
          try clear hfz14_1
          try clear hfz14_2
          try clear hfz14_3
          try clear hfz14_4
          try clear hfz14_5
          try clear hfz21_0
          try clear hfz21_1
          try clear hfz21_2
          try clear hfz21_3
          try clear hfz21_4
          try clear hfz21_5
          try clear hfz23_0
          try clear hfz23_1
          try clear hfz23_2
          try clear hfz23_3
          try clear hfz23_4
          try clear hfz23_5
          try clear hfz28_0
          try clear hfz28_1
          try clear hfz28_2
          try clear hfz28_3
          try clear hfz28_4
          try clear hfz28_5
          try clear hfz30_0
          try clear hfz30_1
          try clear hfz30_2
          try clear hfz30_3
          try clear hfz30_4
          try clear hfz30_5
          try clear hfz38_0
          try clear hfz38_1
          try clear hfz38_2
          try clear hfz38_3
          try clear hfz38_4
          try clear hfz38_5
          try clear hfz40_0
          try clear hfz40_1
          try clear hfz40_2
          try clear hfz40_3
          try clear hfz40_4
          try clear hfz40_5
          try clear hfz43_0
          try clear hfz43_1
          try clear hfz43_2
          try clear hfz43_3
          try clear hfz43_4
          try clear hfz43_5
          try clear hfz45_0
          try clear hfz45_1
          try clear hfz45_2
          try clear hfz45_3
          try clear hfz45_4
          try clear hfz45_5
          try clear hfz48_0
          try clear hfz48_1
          try clear hfz48_2
          try clear hfz48_3
          try clear hfz48_4
          try clear hfz48_5
          try clear hfz50_0
          try clear hfz50_1
          try clear hfz50_2
          try clear hfz50_3
          try clear hfz50_4
          try clear hfz50_5
          try clear p2
          obtain ⟨kq, x9_32, rfl, HA, HJ32, BK127, BK128, BK129, HB⟩ := hcut
          cases kq with
          | zero => exact absurd HA.out (by simp [jobberlaw12_OrderRank.j1])
          | succ kj32 =>
            have H := HA.out
            clear HA
            simp only [jobberlaw12_OrderRank.j1] at H
            replace H := Option.bind_eq_some_iff.mp H
            obtain ⟨t132, A510, H⟩ := H
            replace H : ((order_Ahead.f kj32 a1_0 a1_1 a3 a1_3 a1_4 a1_5 a0_0 a0_1 a3 a0_3 a0_4 a0_5).bind fun t133 => (if ((t132 != t133) != x9_32) = true then (some false) else ((order_Ahead.f kj32 a0_0 a0_1 a3 a0_3 a0_4 a0_5 a1_0 a1_1 a3 a1_3 a1_4 a1_5).bind fun t134 => (if t134 = true then ((order_Ahead.f kj32 a1_0 a1_1 a3 a1_3 a1_4 a1_5 a2_0 a2_1 a3 a2_3 a2_4 a2_5).bind fun t135 => (if t135 = true then ((order_Ahead.f kj32 a0_0 a0_1 a3 a0_3 a0_4 a0_5 a2_0 a2_1 a3 a2_3 a2_4 a2_5).bind fun t136 => (if t136 = true then ((jobberlaw12_lives.f).bind fun t137 => (some t137)) else (some false))) else ((jobberlaw12_lives.f).bind fun t138 => (some t138)))) else ((jobberlaw12_lives.f).bind fun t139 => (some t139)))))) = some r := H
            have A51 := Aside0.mk A510
            clear A510
            replace H := Option.bind_eq_some_iff.mp H
            obtain ⟨t133, A520, H⟩ := H
            replace H : (if ((t132 != t133) != x9_32) = true then (some false) else ((order_Ahead.f kj32 a0_0 a0_1 a3 a0_3 a0_4 a0_5 a1_0 a1_1 a3 a1_3 a1_4 a1_5).bind fun t134 => (if t134 = true then ((order_Ahead.f kj32 a1_0 a1_1 a3 a1_3 a1_4 a1_5 a2_0 a2_1 a3 a2_3 a2_4 a2_5).bind fun t135 => (if t135 = true then ((order_Ahead.f kj32 a0_0 a0_1 a3 a0_3 a0_4 a0_5 a2_0 a2_1 a3 a2_3 a2_4 a2_5).bind fun t136 => (if t136 = true then ((jobberlaw12_lives.f).bind fun t137 => (some t137)) else (some false))) else ((jobberlaw12_lives.f).bind fun t138 => (some t138)))) else ((jobberlaw12_lives.f).bind fun t139 => (some t139))))) = some r := H
            have A52 := Aside0.mk A520
            clear A520
            by_cases c53 : ((t132 != t133) != x9_32) = true
            · rw [if_pos c53] at H
              have c53b0 : ((t132 != t133) != x9_32) = true := c53
              have c53b9 : (!((!(t132 == t133)) == x9_32)) = true := (show ∀ a b c : Bool, ((a != b) != c) = true → (!((!(a == b)) == c)) = true by decide) _ _ _ c53b0
              (try (have c53b1 : decide ((t132 != t133) = x9_32) = false := by simpa using c53))
              (try (have c53b2 : ((t132 != t133) == x9_32) = false := by simpa using c53))
              (try (have c53b3 : ¬ ((t132 != t133) = x9_32) := by simpa using c53))
              clear c53
              obtain rfl := Option.some.inj H
              try go_wp2
              have n0_ := Aside0.mk (blk_drew BK127.out)
              have n1_ := Aside0.mk (blk_drew BK128.out)
              have n2_ := Aside0.mk (blk_drew BK129.out)
              have n3_ := Aside0.mk (below_drew1 HB.out)
              clear BK127
              clear BK128
              clear BK129
              clear HB
              have BK127 := n0_
              have BK128 := n1_
              have BK129 := n2_
              have HB := n3_
              clear n0_ n1_ n2_ n3_
              refine start_ (n := 9) (S := fun w' => w'.cell? ⟨gb127, 0, none⟩ = some (.int .u64 a0_0) ∧ w'.cell? ⟨gb127, 1, none⟩ = some (.int .i64 a0_1) ∧ w'.cell? ⟨gb127, 2, none⟩ = some (.int .i64 a3) ∧ w'.cell? ⟨gb127, 3, none⟩ = some (.int .i64 a0_3) ∧ w'.cell? ⟨gb127, 4, none⟩ = some (.int .i64 a0_4) ∧ w'.cell? ⟨gb127, 5, none⟩ = some (.int .u64 a0_5) ∧ w'.cell? ⟨gb128, 0, none⟩ = some (.int .u64 a1_0) ∧ w'.cell? ⟨gb128, 1, none⟩ = some (.int .i64 a1_1) ∧ w'.cell? ⟨gb128, 2, none⟩ = some (.int .i64 a3) ∧ w'.cell? ⟨gb128, 3, none⟩ = some (.int .i64 a1_3) ∧ w'.cell? ⟨gb128, 4, none⟩ = some (.int .i64 a1_4) ∧ w'.cell? ⟨gb128, 5, none⟩ = some (.int .u64 a1_5)) (ds := []) #[false, false, false, false, false, false, false, false, false] (by kernel_rfl) rfl rfl ⟨(blk_cell BK127.out 0).trans rfl, (blk_cell BK127.out 1).trans rfl, (blk_cell BK127.out 2).trans rfl, (blk_cell BK127.out 3).trans rfl, (blk_cell BK127.out 4).trans rfl, (blk_cell BK127.out 5).trans rfl, (blk_cell BK128.out 0).trans rfl, (blk_cell BK128.out 1).trans rfl, (blk_cell BK128.out 2).trans rfl, (blk_cell BK128.out 3).trans rfl, (blk_cell BK128.out 4).trans rfl, (blk_cell BK128.out 5).trans rfl⟩ (fun hHeld => ?_); refine with_tabW jobberlaw12_OrderRank.tab5 jobberlaw12_OrderRank.bits5 (fun HT_ HW_ => ?_)
              generalize wc.drew = w54 at BK127 BK128 BK129 HB hHeld ⊢
              refine pure_ (i := 7) (N := some 55) (v := ?_) (a' := ?_) #[false, false, false, false, false, false, false, true, false] rfl rfl (any_of HT_.out (by kernel_rfl)) (fun _ _ _ h => h) (Or.inl ⟨by rfl, ?_⟩) ?_ ?_
              rotate_left
              · intro w'
                go_simp
                with_reducible rfl
              rotate_left
              · simp only [Act.put, List.setIfInBounds_toArray, List.set_cons_zero, List.set_cons_succ, i64_w, i32_w]
                rfl
              refine take_ (i := 0) (N := some 48) (v := ?_) (a' := ?_) #[true, false, false, false, false, false, false, true, false] rfl rfl (take_ofW HT_.out HW_.out (by kernel_rfl)) (fun _ _ _ h => h) (Or.inl ⟨by rfl, ?_⟩) hHeld ?_ ?_
              rotate_left
              · rintro w' ⟨s0, s1, s2, s3, s4, s5, s6, s7, s8, s9, s10, s11⟩
                go_simp
                with_reducible rfl
              rotate_left
              · simp only [Act.put, List.setIfInBounds_toArray, List.set_cons_zero, List.set_cons_succ, i64_w, i32_w]
                rfl
              refine take_ (i := 1) (N := some 49) (v := ?_) (a' := ?_) #[true, true, false, false, false, false, false, true, false] rfl rfl (take_ofW HT_.out HW_.out (by kernel_rfl)) (fun _ _ _ h => h) (Or.inl ⟨by rfl, ?_⟩) hHeld ?_ ?_
              rotate_left
              · rintro w' ⟨s0, s1, s2, s3, s4, s5, s6, s7, s8, s9, s10, s11⟩
                go_simp
                with_reducible rfl
              rotate_left
              · simp only [Act.put, List.setIfInBounds_toArray, List.set_cons_zero, List.set_cons_succ, i64_w, i32_w]
                rfl
              refine take_ (i := 3) (N := some 51) (v := ?_) (a' := ?_) #[true, true, false, true, false, false, false, true, false] rfl rfl (take_ofW HT_.out HW_.out (by kernel_rfl)) (fun _ _ _ h => h) (Or.inl ⟨by rfl, ?_⟩) hHeld ?_ ?_
              rotate_left
              · rintro w' ⟨s0, s1, s2, s3, s4, s5, s6, s7, s8, s9, s10, s11⟩
                go_simp
                with_reducible rfl
              rotate_left
              · simp only [Act.put, List.setIfInBounds_toArray, List.set_cons_zero, List.set_cons_succ, i64_w, i32_w]
                rfl
              refine take_ (i := 4) (N := some 52) (v := ?_) (a' := ?_) #[true, true, false, true, true, false, false, true, false] rfl rfl (take_ofW HT_.out HW_.out (by kernel_rfl)) (fun _ _ _ h => h) (Or.inl ⟨by rfl, ?_⟩) hHeld ?_ ?_
              rotate_left
              · rintro w' ⟨s0, s1, s2, s3, s4, s5, s6, s7, s8, s9, s10, s11⟩
                go_simp
                with_reducible rfl
              rotate_left
              · simp only [Act.put, List.setIfInBounds_toArray, List.set_cons_zero, List.set_cons_succ, i64_w, i32_w]
                rfl
              refine one_ (i := 2) (N := some 50) #[true, true, true, true, true, false, false, true, false] rfl rfl (one_of HT_.out (by kernel_rfl)) (by decide) (fun K hK => ?_)
              refine goes_ Try.func17 (by kernel_rfl) rfl #[.agg #[.int .u64 a0_0, .int .i64 a0_1, .int .i64 a3, .int .i64 a0_3, .int .i64 a0_4, .int .u64 a0_5], .agg #[.int .u64 a1_0, .int .i64 a1_1, .int .i64 a3, .int .i64 a1_3, .int .i64 a1_4, .int .u64 a1_5]] (by rfl) rfl rfl (by (try simp only [List.map_toArray, List.map_cons, List.map_nil]); first | done | rfl | (simp only [List.length_drop, List.length_take]; rfl)) ?_
              with_reducible refine (order_Ahead.calls kj32 a0_0 a0_1 a3 a0_3 a0_4 a0_5 a1_0 a1_1 a3 a1_3 a1_4 a1_5 t132 _ A51.out).mono ?_
              rintro e w55 ⟨rfl, hb⟩
              refine ⟨_, rfl, ?_⟩
              have n0_ := Aside0.mk (blk_below (g := gb127) (o := .cells #[.int .u64 a0_0, .int .i64 a0_1, .int .i64 a3, .int .i64 a0_3, .int .i64 a0_4, .int .u64 a0_5] 33 (0, 0)) (by (with_reducible repeat (first | refine blk_drewN ?_ _ | refine blk_drew ?_ | refine blk_alloc ?_ _)); exact BK127.out) hb)
              have n1_ := Aside0.mk (blk_below (g := gb128) (o := .cells #[.int .u64 a1_0, .int .i64 a1_1, .int .i64 a3, .int .i64 a1_3, .int .i64 a1_4, .int .u64 a1_5] 33 (0, 0)) (by (with_reducible repeat (first | refine blk_drewN ?_ _ | refine blk_drew ?_ | refine blk_alloc ?_ _)); exact BK128.out) hb)
              have n2_ := Aside0.mk (blk_below (g := gb129) (o := .cells #[.int .u64 a2_0, .int .i64 a2_1, .int .i64 a3, .int .i64 a2_3, .int .i64 a2_4, .int .u64 a2_5] 33 (0, 0)) (by (with_reducible repeat (first | refine blk_drewN ?_ _ | refine blk_drew ?_ | refine blk_alloc ?_ _)); exact BK129.out) hb)
              have n3_ := Aside0.mk (below_step (by repeat (first | (with_reducible first | exact HB.out | apply below_alloc | apply pw_below_drewN | apply below_drew1 | refine below_set ?_ GE127.out | refine below_set ?_ GE128.out | refine below_set ?_ GE129.out) | exact HB.out)) hb)
              clear BK127
              clear BK128
              clear BK129
              clear HB
              have BK127 := n0_
              have BK128 := n1_
              have BK129 := n2_
              have HB := n3_
              clear n0_ n1_ n2_ n3_
              (try clear hb)
              (try clear hb2)
              (try clear hk)
              (try clear hi)
              refine hK.out _ _ ⟨(blk_cell BK127.out 0).trans rfl, (blk_cell BK127.out 1).trans rfl, (blk_cell BK127.out 2).trans rfl, (blk_cell BK127.out 3).trans rfl, (blk_cell BK127.out 4).trans rfl, (blk_cell BK127.out 5).trans rfl, (blk_cell BK128.out 0).trans rfl, (blk_cell BK128.out 1).trans rfl, (blk_cell BK128.out 2).trans rfl, (blk_cell BK128.out 3).trans rfl, (blk_cell BK128.out 4).trans rfl, (blk_cell BK128.out 5).trans rfl⟩ (fun hHeld => ?_)
              clear hK K
              refine norm_ (a' := ?_) ?_ ?_
              rotate_left
              · show Act.put _ (some 50) _ = _
                simp only [Act.put, List.setIfInBounds_toArray, List.set_cons_zero, List.set_cons_succ, i64_w, i32_w]
                rfl
              refine one_ (i := 5) (N := some 53) #[true, true, true, true, true, true, false, true, false] rfl rfl (one_of HT_.out (by kernel_rfl)) (by decide) (fun K hK => ?_)
              refine goes_ Try.func17 (by kernel_rfl) rfl #[.agg #[.int .u64 a1_0, .int .i64 a1_1, .int .i64 a3, .int .i64 a1_3, .int .i64 a1_4, .int .u64 a1_5], .agg #[.int .u64 a0_0, .int .i64 a0_1, .int .i64 a3, .int .i64 a0_3, .int .i64 a0_4, .int .u64 a0_5]] (by rfl) rfl rfl (by (try simp only [List.map_toArray, List.map_cons, List.map_nil]); first | done | rfl | (simp only [List.length_drop, List.length_take]; rfl)) ?_
              with_reducible refine (order_Ahead.calls kj32 a1_0 a1_1 a3 a1_3 a1_4 a1_5 a0_0 a0_1 a3 a0_3 a0_4 a0_5 t133 _ A52.out).mono ?_
              rintro e w56 ⟨rfl, hb⟩
              refine ⟨_, rfl, ?_⟩
              have n0_ := Aside0.mk (blk_below (g := gb127) (o := .cells #[.int .u64 a0_0, .int .i64 a0_1, .int .i64 a3, .int .i64 a0_3, .int .i64 a0_4, .int .u64 a0_5] 33 (0, 0)) (by (with_reducible repeat (first | refine blk_drewN ?_ _ | refine blk_drew ?_ | refine blk_alloc ?_ _)); exact BK127.out) hb)
              have n1_ := Aside0.mk (blk_below (g := gb128) (o := .cells #[.int .u64 a1_0, .int .i64 a1_1, .int .i64 a3, .int .i64 a1_3, .int .i64 a1_4, .int .u64 a1_5] 33 (0, 0)) (by (with_reducible repeat (first | refine blk_drewN ?_ _ | refine blk_drew ?_ | refine blk_alloc ?_ _)); exact BK128.out) hb)
              have n2_ := Aside0.mk (blk_below (g := gb129) (o := .cells #[.int .u64 a2_0, .int .i64 a2_1, .int .i64 a3, .int .i64 a2_3, .int .i64 a2_4, .int .u64 a2_5] 33 (0, 0)) (by (with_reducible repeat (first | refine blk_drewN ?_ _ | refine blk_drew ?_ | refine blk_alloc ?_ _)); exact BK129.out) hb)
              have n3_ := Aside0.mk (below_step (by repeat (first | (with_reducible first | exact HB.out | apply below_alloc | apply pw_below_drewN | apply below_drew1 | refine below_set ?_ GE127.out | refine below_set ?_ GE128.out | refine below_set ?_ GE129.out) | exact HB.out)) hb)
              clear BK127
              clear BK128
              clear BK129
              clear HB
              have BK127 := n0_
              have BK128 := n1_
              have BK129 := n2_
              have HB := n3_
              clear n0_ n1_ n2_ n3_
              (try clear hb)
              (try clear hb2)
              (try clear hk)
              (try clear hi)
              refine hK.out _ _ ⟨(blk_cell BK127.out 0).trans rfl, (blk_cell BK127.out 1).trans rfl, (blk_cell BK127.out 2).trans rfl, (blk_cell BK127.out 3).trans rfl, (blk_cell BK127.out 4).trans rfl, (blk_cell BK127.out 5).trans rfl, (blk_cell BK128.out 0).trans rfl, (blk_cell BK128.out 1).trans rfl, (blk_cell BK128.out 2).trans rfl, (blk_cell BK128.out 3).trans rfl, (blk_cell BK128.out 4).trans rfl, (blk_cell BK128.out 5).trans rfl⟩ (fun hHeld => ?_)
              clear hK K
              refine norm_ (a' := ?_) ?_ ?_
              rotate_left
              · show Act.put _ (some 53) _ = _
                simp only [Act.put, List.setIfInBounds_toArray, List.set_cons_zero, List.set_cons_succ, i64_w, i32_w]
                rfl
              refine pure_ (i := 6) (N := some 54) (v := ?_) (a' := ?_) #[true, true, true, true, true, true, true, true, false] rfl rfl (any_of HT_.out (by kernel_rfl)) (fun _ _ _ h => h) (Or.inl ⟨by rfl, ?_⟩) ?_ ?_
              rotate_left
              · intro w'
                go_simp
                with_reducible rfl
              rotate_left
              · simp only [Act.put, List.setIfInBounds_toArray, List.set_cons_zero, List.set_cons_succ, i64_w, i32_w]
                rfl
              refine pure_ (i := 8) (N := some 56) (v := ?_) (a' := ?_) #[true, true, true, true, true, true, true, true, true] rfl rfl (any_of HT_.out (by kernel_rfl)) (fun _ _ _ h => h) (Or.inl ⟨by rfl, ?_⟩) ?_ ?_
              rotate_left
              · intro w'
                go_simp
                with_reducible rfl
              rotate_left
              · simp only [Act.put, List.setIfInBounds_toArray, List.set_cons_zero, List.set_cons_succ, i64_w, i32_w]
                rfl
              refine done_ (done_of HT_.out (by kernel_rfl)) ?_
              try go_wp2
              go_ret
              exact ⟨by first | rfl | (simp [errW_none, errW_some] <;> rfl) | (simp [*, errW_none, errW_some] <;> rfl), by repeat (first | (with_reducible first | exact HB.out | apply below_alloc | apply pw_below_drewN | apply below_drew1 | refine below_set ?_ GE127.out | refine below_set ?_ GE128.out | refine below_set ?_ GE129.out) | exact HB.out)⟩
            · rw [if_neg c53] at H
              have c53b0 : ((t132 != t133) != x9_32) = false := by simpa using c53
              have c53b9 : (!((!(t132 == t133)) == x9_32)) = false := (show ∀ a b c : Bool, ((a != b) != c) = false → (!((!(a == b)) == c)) = false by decide) _ _ _ c53b0
              (try (have c53b1 : decide ((t132 != t133) = x9_32) = true := by simpa using c53))
              (try (have c53b2 : ((t132 != t133) == x9_32) = true := by simpa using c53))
              clear c53
              replace H := Option.bind_eq_some_iff.mp H
              obtain ⟨t134, A570, H⟩ := H
              replace H : (if t134 = true then ((order_Ahead.f kj32 a1_0 a1_1 a3 a1_3 a1_4 a1_5 a2_0 a2_1 a3 a2_3 a2_4 a2_5).bind fun t135 => (if t135 = true then ((order_Ahead.f kj32 a0_0 a0_1 a3 a0_3 a0_4 a0_5 a2_0 a2_1 a3 a2_3 a2_4 a2_5).bind fun t136 => (if t136 = true then ((jobberlaw12_lives.f).bind fun t137 => (some t137)) else (some false))) else ((jobberlaw12_lives.f).bind fun t138 => (some t138)))) else ((jobberlaw12_lives.f).bind fun t139 => (some t139))) = some r := H
              have A57 := Aside0.mk A570
              clear A570
              by_cases c58 : t134 = true
              · subst c58
                have H1 : ((order_Ahead.f kj32 a1_0 a1_1 a3 a1_3 a1_4 a1_5 a2_0 a2_1 a3 a2_3 a2_4 a2_5).bind fun t135 => (if t135 = true then ((order_Ahead.f kj32 a0_0 a0_1 a3 a0_3 a0_4 a0_5 a2_0 a2_1 a3 a2_3 a2_4 a2_5).bind fun t136 => (if t136 = true then ((jobberlaw12_lives.f).bind fun t137 => (some t137)) else (some false))) else ((jobberlaw12_lives.f).bind fun t138 => (some t138)))) = some r := by rw [if_pos rfl] at H; exact H
                clear H
                have H := H1
                clear H1
                replace H := Option.bind_eq_some_iff.mp H
                obtain ⟨t135, A590, H⟩ := H
                replace H : (if t135 = true then ((order_Ahead.f kj32 a0_0 a0_1 a3 a0_3 a0_4 a0_5 a2_0 a2_1 a3 a2_3 a2_4 a2_5).bind fun t136 => (if t136 = true then ((jobberlaw12_lives.f).bind fun t137 => (some t137)) else (some false))) else ((jobberlaw12_lives.f).bind fun t138 => (some t138))) = some r := H
                have A59 := Aside0.mk A590
                clear A590
                by_cases c60 : t135 = true
                · subst c60
                  have H1 : ((order_Ahead.f kj32 a0_0 a0_1 a3 a0_3 a0_4 a0_5 a2_0 a2_1 a3 a2_3 a2_4 a2_5).bind fun t136 => (if t136 = true then ((jobberlaw12_lives.f).bind fun t137 => (some t137)) else (some false))) = some r := by rw [if_pos rfl] at H; exact H
                  clear H
                  have H := H1
                  clear H1
                  replace H := Option.bind_eq_some_iff.mp H
                  obtain ⟨t136, A610, H⟩ := H
                  replace H : (if t136 = true then ((jobberlaw12_lives.f).bind fun t137 => (some t137)) else (some false)) = some r := H
                  have A61 := Aside0.mk A610
                  clear A610
                  by_cases c62 : t136 = true
                  · subst c62
                    have H1 : ((jobberlaw12_lives.f).bind fun t137 => (some t137)) = some r := by rw [if_pos rfl] at H; exact H
                    clear H
                    have H := H1
                    clear H1
                    replace H := Option.bind_eq_some_iff.mp H
                    obtain ⟨t137, A630, H⟩ := H
                    replace H : (some t137) = some r := H
                    have A63 := Aside0.mk A630
                    clear A630
                    obtain rfl := Option.some.inj H
                    try go_wp2
                    have n0_ := Aside0.mk (blk_drew BK127.out)
                    have n1_ := Aside0.mk (blk_drew BK128.out)
                    have n2_ := Aside0.mk (blk_drew BK129.out)
                    have n3_ := Aside0.mk (below_drew1 HB.out)
                    clear BK127
                    clear BK128
                    clear BK129
                    clear HB
                    have BK127 := n0_
                    have BK128 := n1_
                    have BK129 := n2_
                    have HB := n3_
                    clear n0_ n1_ n2_ n3_
                    refine start_ (n := 9) (S := fun w' => w'.cell? ⟨gb127, 0, none⟩ = some (.int .u64 a0_0) ∧ w'.cell? ⟨gb127, 1, none⟩ = some (.int .i64 a0_1) ∧ w'.cell? ⟨gb127, 2, none⟩ = some (.int .i64 a3) ∧ w'.cell? ⟨gb127, 3, none⟩ = some (.int .i64 a0_3) ∧ w'.cell? ⟨gb127, 4, none⟩ = some (.int .i64 a0_4) ∧ w'.cell? ⟨gb127, 5, none⟩ = some (.int .u64 a0_5) ∧ w'.cell? ⟨gb128, 0, none⟩ = some (.int .u64 a1_0) ∧ w'.cell? ⟨gb128, 1, none⟩ = some (.int .i64 a1_1) ∧ w'.cell? ⟨gb128, 2, none⟩ = some (.int .i64 a3) ∧ w'.cell? ⟨gb128, 3, none⟩ = some (.int .i64 a1_3) ∧ w'.cell? ⟨gb128, 4, none⟩ = some (.int .i64 a1_4) ∧ w'.cell? ⟨gb128, 5, none⟩ = some (.int .u64 a1_5)) (ds := []) #[false, false, false, false, false, false, false, false, false] (by kernel_rfl) rfl rfl ⟨(blk_cell BK127.out 0).trans rfl, (blk_cell BK127.out 1).trans rfl, (blk_cell BK127.out 2).trans rfl, (blk_cell BK127.out 3).trans rfl, (blk_cell BK127.out 4).trans rfl, (blk_cell BK127.out 5).trans rfl, (blk_cell BK128.out 0).trans rfl, (blk_cell BK128.out 1).trans rfl, (blk_cell BK128.out 2).trans rfl, (blk_cell BK128.out 3).trans rfl, (blk_cell BK128.out 4).trans rfl, (blk_cell BK128.out 5).trans rfl⟩ (fun hHeld => ?_); refine with_tabW jobberlaw12_OrderRank.tab5 jobberlaw12_OrderRank.bits5 (fun HT_ HW_ => ?_)
                    generalize wc.drew = w64 at BK127 BK128 BK129 HB hHeld ⊢
                    refine pure_ (i := 7) (N := some 55) (v := ?_) (a' := ?_) #[false, false, false, false, false, false, false, true, false] rfl rfl (any_of HT_.out (by kernel_rfl)) (fun _ _ _ h => h) (Or.inl ⟨by rfl, ?_⟩) ?_ ?_
                    rotate_left
                    · intro w'
                      go_simp
                      with_reducible rfl
                    rotate_left
                    · simp only [Act.put, List.setIfInBounds_toArray, List.set_cons_zero, List.set_cons_succ, i64_w, i32_w]
                      rfl
                    refine take_ (i := 0) (N := some 48) (v := ?_) (a' := ?_) #[true, false, false, false, false, false, false, true, false] rfl rfl (take_ofW HT_.out HW_.out (by kernel_rfl)) (fun _ _ _ h => h) (Or.inl ⟨by rfl, ?_⟩) hHeld ?_ ?_
                    rotate_left
                    · rintro w' ⟨s0, s1, s2, s3, s4, s5, s6, s7, s8, s9, s10, s11⟩
                      go_simp
                      with_reducible rfl
                    rotate_left
                    · simp only [Act.put, List.setIfInBounds_toArray, List.set_cons_zero, List.set_cons_succ, i64_w, i32_w]
                      rfl
                    refine take_ (i := 1) (N := some 49) (v := ?_) (a' := ?_) #[true, true, false, false, false, false, false, true, false] rfl rfl (take_ofW HT_.out HW_.out (by kernel_rfl)) (fun _ _ _ h => h) (Or.inl ⟨by rfl, ?_⟩) hHeld ?_ ?_
                    rotate_left
                    · rintro w' ⟨s0, s1, s2, s3, s4, s5, s6, s7, s8, s9, s10, s11⟩
                      go_simp
                      with_reducible rfl
                    rotate_left
                    · simp only [Act.put, List.setIfInBounds_toArray, List.set_cons_zero, List.set_cons_succ, i64_w, i32_w]
                      rfl
                    refine take_ (i := 3) (N := some 51) (v := ?_) (a' := ?_) #[true, true, false, true, false, false, false, true, false] rfl rfl (take_ofW HT_.out HW_.out (by kernel_rfl)) (fun _ _ _ h => h) (Or.inl ⟨by rfl, ?_⟩) hHeld ?_ ?_
                    rotate_left
                    · rintro w' ⟨s0, s1, s2, s3, s4, s5, s6, s7, s8, s9, s10, s11⟩
                      go_simp
                      with_reducible rfl
                    rotate_left
                    · simp only [Act.put, List.setIfInBounds_toArray, List.set_cons_zero, List.set_cons_succ, i64_w, i32_w]
                      rfl
                    refine take_ (i := 4) (N := some 52) (v := ?_) (a' := ?_) #[true, true, false, true, true, false, false, true, false] rfl rfl (take_ofW HT_.out HW_.out (by kernel_rfl)) (fun _ _ _ h => h) (Or.inl ⟨by rfl, ?_⟩) hHeld ?_ ?_
                    rotate_left
                    · rintro w' ⟨s0, s1, s2, s3, s4, s5, s6, s7, s8, s9, s10, s11⟩
                      go_simp
                      with_reducible rfl
                    rotate_left
                    · simp only [Act.put, List.setIfInBounds_toArray, List.set_cons_zero, List.set_cons_succ, i64_w, i32_w]
                      rfl
                    refine one_ (i := 2) (N := some 50) #[true, true, true, true, true, false, false, true, false] rfl rfl (one_of HT_.out (by kernel_rfl)) (by decide) (fun K hK => ?_)
                    refine goes_ Try.func17 (by kernel_rfl) rfl #[.agg #[.int .u64 a0_0, .int .i64 a0_1, .int .i64 a3, .int .i64 a0_3, .int .i64 a0_4, .int .u64 a0_5], .agg #[.int .u64 a1_0, .int .i64 a1_1, .int .i64 a3, .int .i64 a1_3, .int .i64 a1_4, .int .u64 a1_5]] (by rfl) rfl rfl (by (try simp only [List.map_toArray, List.map_cons, List.map_nil]); first | done | rfl | (simp only [List.length_drop, List.length_take]; rfl)) ?_
                    with_reducible refine (order_Ahead.calls kj32 a0_0 a0_1 a3 a0_3 a0_4 a0_5 a1_0 a1_1 a3 a1_3 a1_4 a1_5 t132 _ A51.out).mono ?_
                    rintro e w65 ⟨rfl, hb⟩
                    refine ⟨_, rfl, ?_⟩
                    have n0_ := Aside0.mk (blk_below (g := gb127) (o := .cells #[.int .u64 a0_0, .int .i64 a0_1, .int .i64 a3, .int .i64 a0_3, .int .i64 a0_4, .int .u64 a0_5] 33 (0, 0)) (by (with_reducible repeat (first | refine blk_drewN ?_ _ | refine blk_drew ?_ | refine blk_alloc ?_ _)); exact BK127.out) hb)
                    have n1_ := Aside0.mk (blk_below (g := gb128) (o := .cells #[.int .u64 a1_0, .int .i64 a1_1, .int .i64 a3, .int .i64 a1_3, .int .i64 a1_4, .int .u64 a1_5] 33 (0, 0)) (by (with_reducible repeat (first | refine blk_drewN ?_ _ | refine blk_drew ?_ | refine blk_alloc ?_ _)); exact BK128.out) hb)
                    have n2_ := Aside0.mk (blk_below (g := gb129) (o := .cells #[.int .u64 a2_0, .int .i64 a2_1, .int .i64 a3, .int .i64 a2_3, .int .i64 a2_4, .int .u64 a2_5] 33 (0, 0)) (by (with_reducible repeat (first | refine blk_drewN ?_ _ | refine blk_drew ?_ | refine blk_alloc ?_ _)); exact BK129.out) hb)
                    have n3_ := Aside0.mk (below_step (by repeat (first | (with_reducible first | exact HB.out | apply below_alloc | apply pw_below_drewN | apply below_drew1 | refine below_set ?_ GE127.out | refine below_set ?_ GE128.out | refine below_set ?_ GE129.out) | exact HB.out)) hb)
                    clear BK127
                    clear BK128
                    clear BK129
                    clear HB
                    have BK127 := n0_
                    have BK128 := n1_
                    have BK129 := n2_
                    have HB := n3_
                    clear n0_ n1_ n2_ n3_
                    (try clear hb)
                    (try clear hb2)
                    (try clear hk)
                    (try clear hi)
                    refine hK.out _ _ ⟨(blk_cell BK127.out 0).trans rfl, (blk_cell BK127.out 1).trans rfl, (blk_cell BK127.out 2).trans rfl, (blk_cell BK127.out 3).trans rfl, (blk_cell BK127.out 4).trans rfl, (blk_cell BK127.out 5).trans rfl, (blk_cell BK128.out 0).trans rfl, (blk_cell BK128.out 1).trans rfl, (blk_cell BK128.out 2).trans rfl, (blk_cell BK128.out 3).trans rfl, (blk_cell BK128.out 4).trans rfl, (blk_cell BK128.out 5).trans rfl⟩ (fun hHeld => ?_)
                    clear hK K
                    refine norm_ (a' := ?_) ?_ ?_
                    rotate_left
                    · show Act.put _ (some 50) _ = _
                      simp only [Act.put, List.setIfInBounds_toArray, List.set_cons_zero, List.set_cons_succ, i64_w, i32_w]
                      rfl
                    refine one_ (i := 5) (N := some 53) #[true, true, true, true, true, true, false, true, false] rfl rfl (one_of HT_.out (by kernel_rfl)) (by decide) (fun K hK => ?_)
                    refine goes_ Try.func17 (by kernel_rfl) rfl #[.agg #[.int .u64 a1_0, .int .i64 a1_1, .int .i64 a3, .int .i64 a1_3, .int .i64 a1_4, .int .u64 a1_5], .agg #[.int .u64 a0_0, .int .i64 a0_1, .int .i64 a3, .int .i64 a0_3, .int .i64 a0_4, .int .u64 a0_5]] (by rfl) rfl rfl (by (try simp only [List.map_toArray, List.map_cons, List.map_nil]); first | done | rfl | (simp only [List.length_drop, List.length_take]; rfl)) ?_
                    with_reducible refine (order_Ahead.calls kj32 a1_0 a1_1 a3 a1_3 a1_4 a1_5 a0_0 a0_1 a3 a0_3 a0_4 a0_5 t133 _ A52.out).mono ?_
                    rintro e w66 ⟨rfl, hb⟩
                    refine ⟨_, rfl, ?_⟩
                    have n0_ := Aside0.mk (blk_below (g := gb127) (o := .cells #[.int .u64 a0_0, .int .i64 a0_1, .int .i64 a3, .int .i64 a0_3, .int .i64 a0_4, .int .u64 a0_5] 33 (0, 0)) (by (with_reducible repeat (first | refine blk_drewN ?_ _ | refine blk_drew ?_ | refine blk_alloc ?_ _)); exact BK127.out) hb)
                    have n1_ := Aside0.mk (blk_below (g := gb128) (o := .cells #[.int .u64 a1_0, .int .i64 a1_1, .int .i64 a3, .int .i64 a1_3, .int .i64 a1_4, .int .u64 a1_5] 33 (0, 0)) (by (with_reducible repeat (first | refine blk_drewN ?_ _ | refine blk_drew ?_ | refine blk_alloc ?_ _)); exact BK128.out) hb)
                    have n2_ := Aside0.mk (blk_below (g := gb129) (o := .cells #[.int .u64 a2_0, .int .i64 a2_1, .int .i64 a3, .int .i64 a2_3, .int .i64 a2_4, .int .u64 a2_5] 33 (0, 0)) (by (with_reducible repeat (first | refine blk_drewN ?_ _ | refine blk_drew ?_ | refine blk_alloc ?_ _)); exact BK129.out) hb)
                    have n3_ := Aside0.mk (below_step (by repeat (first | (with_reducible first | exact HB.out | apply below_alloc | apply pw_below_drewN | apply below_drew1 | refine below_set ?_ GE127.out | refine below_set ?_ GE128.out | refine below_set ?_ GE129.out) | exact HB.out)) hb)
                    clear BK127
                    clear BK128
                    clear BK129
                    clear HB
                    have BK127 := n0_
                    have BK128 := n1_
                    have BK129 := n2_
                    have HB := n3_
                    clear n0_ n1_ n2_ n3_
                    (try clear hb)
                    (try clear hb2)
                    (try clear hk)
                    (try clear hi)
                    refine hK.out _ _ ⟨(blk_cell BK127.out 0).trans rfl, (blk_cell BK127.out 1).trans rfl, (blk_cell BK127.out 2).trans rfl, (blk_cell BK127.out 3).trans rfl, (blk_cell BK127.out 4).trans rfl, (blk_cell BK127.out 5).trans rfl, (blk_cell BK128.out 0).trans rfl, (blk_cell BK128.out 1).trans rfl, (blk_cell BK128.out 2).trans rfl, (blk_cell BK128.out 3).trans rfl, (blk_cell BK128.out 4).trans rfl, (blk_cell BK128.out 5).trans rfl⟩ (fun hHeld => ?_)
                    clear hK K
                    refine norm_ (a' := ?_) ?_ ?_
                    rotate_left
                    · show Act.put _ (some 53) _ = _
                      simp only [Act.put, List.setIfInBounds_toArray, List.set_cons_zero, List.set_cons_succ, i64_w, i32_w]
                      rfl
                    refine pure_ (i := 6) (N := some 54) (v := ?_) (a' := ?_) #[true, true, true, true, true, true, true, true, false] rfl rfl (any_of HT_.out (by kernel_rfl)) (fun _ _ _ h => h) (Or.inl ⟨by rfl, ?_⟩) ?_ ?_
                    rotate_left
                    · intro w'
                      go_simp
                      with_reducible rfl
                    rotate_left
                    · simp only [Act.put, List.setIfInBounds_toArray, List.set_cons_zero, List.set_cons_succ, i64_w, i32_w]
                      rfl
                    refine pure_ (i := 8) (N := some 56) (v := ?_) (a' := ?_) #[true, true, true, true, true, true, true, true, true] rfl rfl (any_of HT_.out (by kernel_rfl)) (fun _ _ _ h => h) (Or.inl ⟨by rfl, ?_⟩) ?_ ?_
                    rotate_left
                    · intro w'
                      go_simp
                      with_reducible rfl
                    rotate_left
                    · simp only [Act.put, List.setIfInBounds_toArray, List.set_cons_zero, List.set_cons_succ, i64_w, i32_w]
                      rfl
                    refine done_ (done_of HT_.out (by kernel_rfl)) ?_
                    have hnb67 := NB127_128.out
                    have hnc67 := NB128_127.out
                    have hnb68 := NB127_129.out
                    have hnc68 := NB129_127.out
                    have hcz69_0 : w66.cell? ⟨gb127, 0, none⟩ = some (.int .u64 a0_0) := (blk_cell BK127.out 0).trans rfl
                    have hcz69_1 : w66.cell? ⟨gb127, 1, none⟩ = some (.int .i64 a0_1) := (blk_cell BK127.out 1).trans rfl
                    have hcz69_2 : w66.cell? ⟨gb127, 2, none⟩ = some (.int .i64 a3) := (blk_cell BK127.out 2).trans rfl
                    have hcz69_3 : w66.cell? ⟨gb127, 3, none⟩ = some (.int .i64 a0_3) := (blk_cell BK127.out 3).trans rfl
                    have hcz69_4 : w66.cell? ⟨gb127, 4, none⟩ = some (.int .i64 a0_4) := (blk_cell BK127.out 4).trans rfl
                    have hcz69_5 : w66.cell? ⟨gb127, 5, none⟩ = some (.int .u64 a0_5) := (blk_cell BK127.out 5).trans rfl
                    have hfz69_0 := blk_frozen BK127.out 0
                    have hfz69_1 := blk_frozen BK127.out 1
                    have hfz69_2 := blk_frozen BK127.out 2
                    have hfz69_3 := blk_frozen BK127.out 3
                    have hfz69_4 := blk_frozen BK127.out 4
                    have hfz69_5 := blk_frozen BK127.out 5
                    have hnb70 := NB128_129.out
                    have hnc70 := NB129_128.out
                    have hcz71_0 : w66.cell? ⟨gb128, 0, none⟩ = some (.int .u64 a1_0) := (blk_cell BK128.out 0).trans rfl
                    have hcz71_1 : w66.cell? ⟨gb128, 1, none⟩ = some (.int .i64 a1_1) := (blk_cell BK128.out 1).trans rfl
                    have hcz71_2 : w66.cell? ⟨gb128, 2, none⟩ = some (.int .i64 a3) := (blk_cell BK128.out 2).trans rfl
                    have hcz71_3 : w66.cell? ⟨gb128, 3, none⟩ = some (.int .i64 a1_3) := (blk_cell BK128.out 3).trans rfl
                    have hcz71_4 : w66.cell? ⟨gb128, 4, none⟩ = some (.int .i64 a1_4) := (blk_cell BK128.out 4).trans rfl
                    have hcz71_5 : w66.cell? ⟨gb128, 5, none⟩ = some (.int .u64 a1_5) := (blk_cell BK128.out 5).trans rfl
                    have hfz71_0 := blk_frozen BK128.out 0
                    have hfz71_1 := blk_frozen BK128.out 1
                    have hfz71_2 := blk_frozen BK128.out 2
                    have hfz71_3 := blk_frozen BK128.out 3
                    have hfz71_4 := blk_frozen BK128.out 4
                    have hfz71_5 := blk_frozen BK128.out 5
                    try go_wp2_with (first | ((with_reducible refine gate_callee (f := 17) rfl ?_); refine goesL_ (some 59) rfl rfl Try.func17 (by kernel_rfl) rfl #[.agg #[.int .u64 a0_0, .int .i64 a0_1, .int .i64 a3, .int .i64 a0_3, .int .i64 a0_4, .int .u64 a0_5], .agg #[.int .u64 a1_0, .int .i64 a1_1, .int .i64 a3, .int .i64 a1_3, .int .i64 a1_4, .int .u64 a1_5]] rfl (by (try simp only [List.map_toArray, List.map_cons, List.map_nil]); first | done | rfl | (simp only [List.length_drop, List.length_take]; rfl)) ?_; (with_reducible refine (order_Ahead.calls kj32 a0_0 a0_1 a3 a0_3 a0_4 a0_5 a1_0 a1_1 a3 a1_3 a1_4 a1_5 true _ A57.out).mono ?_); rintro e w72 ⟨rfl, hb⟩; refine ⟨_, rfl, ?_⟩; have n0_ := Aside0.mk (blk_below (g := gb127) (o := .cells #[.int .u64 a0_0, .int .i64 a0_1, .int .i64 a3, .int .i64 a0_3, .int .i64 a0_4, .int .u64 a0_5] 33 (0, 0)) (by (with_reducible repeat (first | refine blk_drewN ?_ _ | refine blk_drew ?_ | refine blk_alloc ?_ _)); exact BK127.out) hb); have n1_ := Aside0.mk (blk_below (g := gb128) (o := .cells #[.int .u64 a1_0, .int .i64 a1_1, .int .i64 a3, .int .i64 a1_3, .int .i64 a1_4, .int .u64 a1_5] 33 (0, 0)) (by (with_reducible repeat (first | refine blk_drewN ?_ _ | refine blk_drew ?_ | refine blk_alloc ?_ _)); exact BK128.out) hb); have n2_ := Aside0.mk (blk_below (g := gb129) (o := .cells #[.int .u64 a2_0, .int .i64 a2_1, .int .i64 a3, .int .i64 a2_3, .int .i64 a2_4, .int .u64 a2_5] 33 (0, 0)) (by (with_reducible repeat (first | refine blk_drewN ?_ _ | refine blk_drew ?_ | refine blk_alloc ?_ _)); exact BK129.out) hb); have n3_ := Aside0.mk (below_step (by repeat (first | (with_reducible first | exact HB.out | apply below_alloc | apply pw_below_drewN | apply below_drew1 | refine below_set ?_ GE127.out | refine below_set ?_ GE128.out | refine below_set ?_ GE129.out) | exact HB.out)) hb); clear BK127; clear BK128; clear BK129; clear HB; have BK127 := n0_; have BK128 := n1_; have BK129 := n2_; have HB := n3_; clear n0_ n1_ n2_ n3_; (try clear hb); (try clear hb2); (try clear hk); (try clear hi); have hcz73_0 : w72.cell? ⟨gb128, 0, none⟩ = some (.int .u64 a1_0) := (blk_cell BK128.out 0).trans rfl; have hcz73_1 : w72.cell? ⟨gb128, 1, none⟩ = some (.int .i64 a1_1) := (blk_cell BK128.out 1).trans rfl; have hcz73_2 : w72.cell? ⟨gb128, 2, none⟩ = some (.int .i64 a3) := (blk_cell BK128.out 2).trans rfl; have hcz73_3 : w72.cell? ⟨gb128, 3, none⟩ = some (.int .i64 a1_3) := (blk_cell BK128.out 3).trans rfl; have hcz73_4 : w72.cell? ⟨gb128, 4, none⟩ = some (.int .i64 a1_4) := (blk_cell BK128.out 4).trans rfl; have hcz73_5 : w72.cell? ⟨gb128, 5, none⟩ = some (.int .u64 a1_5) := (blk_cell BK128.out 5).trans rfl; have hfz73_0 := blk_frozen BK128.out 0; have hfz73_1 := blk_frozen BK128.out 1; have hfz73_2 := blk_frozen BK128.out 2; have hfz73_3 := blk_frozen BK128.out 3; have hfz73_4 := blk_frozen BK128.out 4; have hfz73_5 := blk_frozen BK128.out 5; have hcz74_0 : w72.cell? ⟨gb129, 0, none⟩ = some (.int .u64 a2_0) := (blk_cell BK129.out 0).trans rfl; have hcz74_1 : w72.cell? ⟨gb129, 1, none⟩ = some (.int .i64 a2_1) := (blk_cell BK129.out 1).trans rfl; have hcz74_2 : w72.cell? ⟨gb129, 2, none⟩ = some (.int .i64 a3) := (blk_cell BK129.out 2).trans rfl; have hcz74_3 : w72.cell? ⟨gb129, 3, none⟩ = some (.int .i64 a2_3) := (blk_cell BK129.out 3).trans rfl; have hcz74_4 : w72.cell? ⟨gb129, 4, none⟩ = some (.int .i64 a2_4) := (blk_cell BK129.out 4).trans rfl; have hcz74_5 : w72.cell? ⟨gb129, 5, none⟩ = some (.int .u64 a2_5) := (blk_cell BK129.out 5).trans rfl; have hfz74_0 := blk_frozen BK129.out 0; have hfz74_1 := blk_frozen BK129.out 1; have hfz74_2 := blk_frozen BK129.out 2; have hfz74_3 := blk_frozen BK129.out 3; have hfz74_4 := blk_frozen BK129.out 4; have hfz74_5 := blk_frozen BK129.out 5) | (go_at_call 17; (with_reducible refine (order_Ahead.calls kj32 a1_0 a1_1 a3 a1_3 a1_4 a1_5 a2_0 a2_1 a3 a2_3 a2_4 a2_5 true _ A59.out).mono ?_); rintro e w75 ⟨rfl, hb⟩; have n0_ := Aside0.mk (blk_below (g := gb127) (o := .cells #[.int .u64 a0_0, .int .i64 a0_1, .int .i64 a3, .int .i64 a0_3, .int .i64 a0_4, .int .u64 a0_5] 33 (0, 0)) (by (with_reducible repeat (first | refine blk_drewN ?_ _ | refine blk_drew ?_ | refine blk_alloc ?_ _)); exact BK127.out) hb); have n1_ := Aside0.mk (blk_below (g := gb128) (o := .cells #[.int .u64 a1_0, .int .i64 a1_1, .int .i64 a3, .int .i64 a1_3, .int .i64 a1_4, .int .u64 a1_5] 33 (0, 0)) (by (with_reducible repeat (first | refine blk_drewN ?_ _ | refine blk_drew ?_ | refine blk_alloc ?_ _)); exact BK128.out) hb); have n2_ := Aside0.mk (blk_below (g := gb129) (o := .cells #[.int .u64 a2_0, .int .i64 a2_1, .int .i64 a3, .int .i64 a2_3, .int .i64 a2_4, .int .u64 a2_5] 33 (0, 0)) (by (with_reducible repeat (first | refine blk_drewN ?_ _ | refine blk_drew ?_ | refine blk_alloc ?_ _)); exact BK129.out) hb); have n3_ := Aside0.mk (below_step (by repeat (first | (with_reducible first | exact HB.out | apply below_alloc | apply pw_below_drewN | apply below_drew1 | refine below_set ?_ GE127.out | refine below_set ?_ GE128.out | refine below_set ?_ GE129.out) | exact HB.out)) hb); clear BK127; clear BK128; clear BK129; clear HB; have BK127 := n0_; have BK128 := n1_; have BK129 := n2_; have HB := n3_; clear n0_ n1_ n2_ n3_; (try clear hb); (try clear hb2); (try clear hk); (try clear hi); have hcz76_0 : w75.cell? ⟨gb127, 0, none⟩ = some (.int .u64 a0_0) := (blk_cell BK127.out 0).trans rfl; have hcz76_1 : w75.cell? ⟨gb127, 1, none⟩ = some (.int .i64 a0_1) := (blk_cell BK127.out 1).trans rfl; have hcz76_2 : w75.cell? ⟨gb127, 2, none⟩ = some (.int .i64 a3) := (blk_cell BK127.out 2).trans rfl; have hcz76_3 : w75.cell? ⟨gb127, 3, none⟩ = some (.int .i64 a0_3) := (blk_cell BK127.out 3).trans rfl; have hcz76_4 : w75.cell? ⟨gb127, 4, none⟩ = some (.int .i64 a0_4) := (blk_cell BK127.out 4).trans rfl; have hcz76_5 : w75.cell? ⟨gb127, 5, none⟩ = some (.int .u64 a0_5) := (blk_cell BK127.out 5).trans rfl; have hfz76_0 := blk_frozen BK127.out 0; have hfz76_1 := blk_frozen BK127.out 1; have hfz76_2 := blk_frozen BK127.out 2; have hfz76_3 := blk_frozen BK127.out 3; have hfz76_4 := blk_frozen BK127.out 4; have hfz76_5 := blk_frozen BK127.out 5; have hcz77_0 : w75.cell? ⟨gb129, 0, none⟩ = some (.int .u64 a2_0) := (blk_cell BK129.out 0).trans rfl; have hcz77_1 : w75.cell? ⟨gb129, 1, none⟩ = some (.int .i64 a2_1) := (blk_cell BK129.out 1).trans rfl; have hcz77_2 : w75.cell? ⟨gb129, 2, none⟩ = some (.int .i64 a3) := (blk_cell BK129.out 2).trans rfl; have hcz77_3 : w75.cell? ⟨gb129, 3, none⟩ = some (.int .i64 a2_3) := (blk_cell BK129.out 3).trans rfl; have hcz77_4 : w75.cell? ⟨gb129, 4, none⟩ = some (.int .i64 a2_4) := (blk_cell BK129.out 4).trans rfl; have hcz77_5 : w75.cell? ⟨gb129, 5, none⟩ = some (.int .u64 a2_5) := (blk_cell BK129.out 5).trans rfl; have hfz77_0 := blk_frozen BK129.out 0; have hfz77_1 := blk_frozen BK129.out 1; have hfz77_2 := blk_frozen BK129.out 2; have hfz77_3 := blk_frozen BK129.out 3; have hfz77_4 := blk_frozen BK129.out 4; have hfz77_5 := blk_frozen BK129.out 5) | (go_at_call 17; (with_reducible refine (order_Ahead.calls kj32 a0_0 a0_1 a3 a0_3 a0_4 a0_5 a2_0 a2_1 a3 a2_3 a2_4 a2_5 true _ A61.out).mono ?_); rintro e w78 ⟨rfl, hb⟩; have n0_ := Aside0.mk (blk_below (g := gb127) (o := .cells #[.int .u64 a0_0, .int .i64 a0_1, .int .i64 a3, .int .i64 a0_3, .int .i64 a0_4, .int .u64 a0_5] 33 (0, 0)) (by (with_reducible repeat (first | refine blk_drewN ?_ _ | refine blk_drew ?_ | refine blk_alloc ?_ _)); exact BK127.out) hb); have n1_ := Aside0.mk (blk_below (g := gb128) (o := .cells #[.int .u64 a1_0, .int .i64 a1_1, .int .i64 a3, .int .i64 a1_3, .int .i64 a1_4, .int .u64 a1_5] 33 (0, 0)) (by (with_reducible repeat (first | refine blk_drewN ?_ _ | refine blk_drew ?_ | refine blk_alloc ?_ _)); exact BK128.out) hb); have n2_ := Aside0.mk (blk_below (g := gb129) (o := .cells #[.int .u64 a2_0, .int .i64 a2_1, .int .i64 a3, .int .i64 a2_3, .int .i64 a2_4, .int .u64 a2_5] 33 (0, 0)) (by (with_reducible repeat (first | refine blk_drewN ?_ _ | refine blk_drew ?_ | refine blk_alloc ?_ _)); exact BK129.out) hb); have n3_ := Aside0.mk (below_step (by repeat (first | (with_reducible first | exact HB.out | apply below_alloc | apply pw_below_drewN | apply below_drew1 | refine below_set ?_ GE127.out | refine below_set ?_ GE128.out | refine below_set ?_ GE129.out) | exact HB.out)) hb); clear BK127; clear BK128; clear BK129; clear HB; have BK127 := n0_; have BK128 := n1_; have BK129 := n2_; have HB := n3_; clear n0_ n1_ n2_ n3_; (try clear hb); (try clear hb2); (try clear hk); (try clear hi)) | (go_at_call 10; (with_reducible refine (jobberlaw12_lives.calls  t137 _ A63.out).mono ?_); rintro e w79 ⟨rfl, hb⟩; have n0_ := Aside0.mk (blk_below (g := gb127) (o := .cells #[.int .u64 a0_0, .int .i64 a0_1, .int .i64 a3, .int .i64 a0_3, .int .i64 a0_4, .int .u64 a0_5] 33 (0, 0)) (by (with_reducible repeat (first | refine blk_drewN ?_ _ | refine blk_drew ?_ | refine blk_alloc ?_ _)); exact BK127.out) hb); have n1_ := Aside0.mk (blk_below (g := gb128) (o := .cells #[.int .u64 a1_0, .int .i64 a1_1, .int .i64 a3, .int .i64 a1_3, .int .i64 a1_4, .int .u64 a1_5] 33 (0, 0)) (by (with_reducible repeat (first | refine blk_drewN ?_ _ | refine blk_drew ?_ | refine blk_alloc ?_ _)); exact BK128.out) hb); have n2_ := Aside0.mk (blk_below (g := gb129) (o := .cells #[.int .u64 a2_0, .int .i64 a2_1, .int .i64 a3, .int .i64 a2_3, .int .i64 a2_4, .int .u64 a2_5] 33 (0, 0)) (by (with_reducible repeat (first | refine blk_drewN ?_ _ | refine blk_drew ?_ | refine blk_alloc ?_ _)); exact BK129.out) hb); have n3_ := Aside0.mk (below_step (by repeat (first | (with_reducible first | exact HB.out | apply below_alloc | apply pw_below_drewN | apply below_drew1 | refine below_set ?_ GE127.out | refine below_set ?_ GE128.out | refine below_set ?_ GE129.out) | exact HB.out)) hb); clear BK127; clear BK128; clear BK129; clear HB; have BK127 := n0_; have BK128 := n1_; have BK129 := n2_; have HB := n3_; clear n0_ n1_ n2_ n3_; (try clear hb); (try clear hb2); (try clear hk); (try clear hi)))
                    go_ret
                    exact ⟨by first | rfl | (simp [errW_none, errW_some] <;> rfl) | (simp [*, errW_none, errW_some] <;> rfl), by repeat (first | (with_reducible first | exact HB.out | apply below_alloc | apply pw_below_drewN | apply below_drew1 | refine below_set ?_ GE127.out | refine below_set ?_ GE128.out | refine below_set ?_ GE129.out) | exact HB.out)⟩
                  · replace c62 := Bool.eq_false_iff.mpr c62
                    subst c62
                    have H1 : (some false) = some r := by rw [if_neg (show ¬ (false = true) by decide)] at H; exact H
                    clear H
                    have H := H1
                    clear H1
                    obtain rfl := Option.some.inj H
                    try go_wp2
                    have n0_ := Aside0.mk (blk_drew BK127.out)
                    have n1_ := Aside0.mk (blk_drew BK128.out)
                    have n2_ := Aside0.mk (blk_drew BK129.out)
                    have n3_ := Aside0.mk (below_drew1 HB.out)
                    clear BK127
                    clear BK128
                    clear BK129
                    clear HB
                    have BK127 := n0_
                    have BK128 := n1_
                    have BK129 := n2_
                    have HB := n3_
                    clear n0_ n1_ n2_ n3_
                    refine start_ (n := 9) (S := fun w' => w'.cell? ⟨gb127, 0, none⟩ = some (.int .u64 a0_0) ∧ w'.cell? ⟨gb127, 1, none⟩ = some (.int .i64 a0_1) ∧ w'.cell? ⟨gb127, 2, none⟩ = some (.int .i64 a3) ∧ w'.cell? ⟨gb127, 3, none⟩ = some (.int .i64 a0_3) ∧ w'.cell? ⟨gb127, 4, none⟩ = some (.int .i64 a0_4) ∧ w'.cell? ⟨gb127, 5, none⟩ = some (.int .u64 a0_5) ∧ w'.cell? ⟨gb128, 0, none⟩ = some (.int .u64 a1_0) ∧ w'.cell? ⟨gb128, 1, none⟩ = some (.int .i64 a1_1) ∧ w'.cell? ⟨gb128, 2, none⟩ = some (.int .i64 a3) ∧ w'.cell? ⟨gb128, 3, none⟩ = some (.int .i64 a1_3) ∧ w'.cell? ⟨gb128, 4, none⟩ = some (.int .i64 a1_4) ∧ w'.cell? ⟨gb128, 5, none⟩ = some (.int .u64 a1_5)) (ds := []) #[false, false, false, false, false, false, false, false, false] (by kernel_rfl) rfl rfl ⟨(blk_cell BK127.out 0).trans rfl, (blk_cell BK127.out 1).trans rfl, (blk_cell BK127.out 2).trans rfl, (blk_cell BK127.out 3).trans rfl, (blk_cell BK127.out 4).trans rfl, (blk_cell BK127.out 5).trans rfl, (blk_cell BK128.out 0).trans rfl, (blk_cell BK128.out 1).trans rfl, (blk_cell BK128.out 2).trans rfl, (blk_cell BK128.out 3).trans rfl, (blk_cell BK128.out 4).trans rfl, (blk_cell BK128.out 5).trans rfl⟩ (fun hHeld => ?_); refine with_tabW jobberlaw12_OrderRank.tab5 jobberlaw12_OrderRank.bits5 (fun HT_ HW_ => ?_)
                    generalize wc.drew = w80 at BK127 BK128 BK129 HB hHeld ⊢
                    refine pure_ (i := 7) (N := some 55) (v := ?_) (a' := ?_) #[false, false, false, false, false, false, false, true, false] rfl rfl (any_of HT_.out (by kernel_rfl)) (fun _ _ _ h => h) (Or.inl ⟨by rfl, ?_⟩) ?_ ?_
                    rotate_left
                    · intro w'
                      go_simp
                      with_reducible rfl
                    rotate_left
                    · simp only [Act.put, List.setIfInBounds_toArray, List.set_cons_zero, List.set_cons_succ, i64_w, i32_w]
                      rfl
                    refine take_ (i := 0) (N := some 48) (v := ?_) (a' := ?_) #[true, false, false, false, false, false, false, true, false] rfl rfl (take_ofW HT_.out HW_.out (by kernel_rfl)) (fun _ _ _ h => h) (Or.inl ⟨by rfl, ?_⟩) hHeld ?_ ?_
                    rotate_left
                    · rintro w' ⟨s0, s1, s2, s3, s4, s5, s6, s7, s8, s9, s10, s11⟩
                      go_simp
                      with_reducible rfl
                    rotate_left
                    · simp only [Act.put, List.setIfInBounds_toArray, List.set_cons_zero, List.set_cons_succ, i64_w, i32_w]
                      rfl
                    refine take_ (i := 1) (N := some 49) (v := ?_) (a' := ?_) #[true, true, false, false, false, false, false, true, false] rfl rfl (take_ofW HT_.out HW_.out (by kernel_rfl)) (fun _ _ _ h => h) (Or.inl ⟨by rfl, ?_⟩) hHeld ?_ ?_
                    rotate_left
                    · rintro w' ⟨s0, s1, s2, s3, s4, s5, s6, s7, s8, s9, s10, s11⟩
                      go_simp
                      with_reducible rfl
                    rotate_left
                    · simp only [Act.put, List.setIfInBounds_toArray, List.set_cons_zero, List.set_cons_succ, i64_w, i32_w]
                      rfl
                    refine take_ (i := 3) (N := some 51) (v := ?_) (a' := ?_) #[true, true, false, true, false, false, false, true, false] rfl rfl (take_ofW HT_.out HW_.out (by kernel_rfl)) (fun _ _ _ h => h) (Or.inl ⟨by rfl, ?_⟩) hHeld ?_ ?_
                    rotate_left
                    · rintro w' ⟨s0, s1, s2, s3, s4, s5, s6, s7, s8, s9, s10, s11⟩
                      go_simp
                      with_reducible rfl
                    rotate_left
                    · simp only [Act.put, List.setIfInBounds_toArray, List.set_cons_zero, List.set_cons_succ, i64_w, i32_w]
                      rfl
                    refine take_ (i := 4) (N := some 52) (v := ?_) (a' := ?_) #[true, true, false, true, true, false, false, true, false] rfl rfl (take_ofW HT_.out HW_.out (by kernel_rfl)) (fun _ _ _ h => h) (Or.inl ⟨by rfl, ?_⟩) hHeld ?_ ?_
                    rotate_left
                    · rintro w' ⟨s0, s1, s2, s3, s4, s5, s6, s7, s8, s9, s10, s11⟩
                      go_simp
                      with_reducible rfl
                    rotate_left
                    · simp only [Act.put, List.setIfInBounds_toArray, List.set_cons_zero, List.set_cons_succ, i64_w, i32_w]
                      rfl
                    refine one_ (i := 2) (N := some 50) #[true, true, true, true, true, false, false, true, false] rfl rfl (one_of HT_.out (by kernel_rfl)) (by decide) (fun K hK => ?_)
                    refine goes_ Try.func17 (by kernel_rfl) rfl #[.agg #[.int .u64 a0_0, .int .i64 a0_1, .int .i64 a3, .int .i64 a0_3, .int .i64 a0_4, .int .u64 a0_5], .agg #[.int .u64 a1_0, .int .i64 a1_1, .int .i64 a3, .int .i64 a1_3, .int .i64 a1_4, .int .u64 a1_5]] (by rfl) rfl rfl (by (try simp only [List.map_toArray, List.map_cons, List.map_nil]); first | done | rfl | (simp only [List.length_drop, List.length_take]; rfl)) ?_
                    with_reducible refine (order_Ahead.calls kj32 a0_0 a0_1 a3 a0_3 a0_4 a0_5 a1_0 a1_1 a3 a1_3 a1_4 a1_5 t132 _ A51.out).mono ?_
                    rintro e w81 ⟨rfl, hb⟩
                    refine ⟨_, rfl, ?_⟩
                    have n0_ := Aside0.mk (blk_below (g := gb127) (o := .cells #[.int .u64 a0_0, .int .i64 a0_1, .int .i64 a3, .int .i64 a0_3, .int .i64 a0_4, .int .u64 a0_5] 33 (0, 0)) (by (with_reducible repeat (first | refine blk_drewN ?_ _ | refine blk_drew ?_ | refine blk_alloc ?_ _)); exact BK127.out) hb)
                    have n1_ := Aside0.mk (blk_below (g := gb128) (o := .cells #[.int .u64 a1_0, .int .i64 a1_1, .int .i64 a3, .int .i64 a1_3, .int .i64 a1_4, .int .u64 a1_5] 33 (0, 0)) (by (with_reducible repeat (first | refine blk_drewN ?_ _ | refine blk_drew ?_ | refine blk_alloc ?_ _)); exact BK128.out) hb)
                    have n2_ := Aside0.mk (blk_below (g := gb129) (o := .cells #[.int .u64 a2_0, .int .i64 a2_1, .int .i64 a3, .int .i64 a2_3, .int .i64 a2_4, .int .u64 a2_5] 33 (0, 0)) (by (with_reducible repeat (first | refine blk_drewN ?_ _ | refine blk_drew ?_ | refine blk_alloc ?_ _)); exact BK129.out) hb)
                    have n3_ := Aside0.mk (below_step (by repeat (first | (with_reducible first | exact HB.out | apply below_alloc | apply pw_below_drewN | apply below_drew1 | refine below_set ?_ GE127.out | refine below_set ?_ GE128.out | refine below_set ?_ GE129.out) | exact HB.out)) hb)
                    clear BK127
                    clear BK128
                    clear BK129
                    clear HB
                    have BK127 := n0_
                    have BK128 := n1_
                    have BK129 := n2_
                    have HB := n3_
                    clear n0_ n1_ n2_ n3_
                    (try clear hb)
                    (try clear hb2)
                    (try clear hk)
                    (try clear hi)
                    refine hK.out _ _ ⟨(blk_cell BK127.out 0).trans rfl, (blk_cell BK127.out 1).trans rfl, (blk_cell BK127.out 2).trans rfl, (blk_cell BK127.out 3).trans rfl, (blk_cell BK127.out 4).trans rfl, (blk_cell BK127.out 5).trans rfl, (blk_cell BK128.out 0).trans rfl, (blk_cell BK128.out 1).trans rfl, (blk_cell BK128.out 2).trans rfl, (blk_cell BK128.out 3).trans rfl, (blk_cell BK128.out 4).trans rfl, (blk_cell BK128.out 5).trans rfl⟩ (fun hHeld => ?_)
                    clear hK K
                    refine norm_ (a' := ?_) ?_ ?_
                    rotate_left
                    · show Act.put _ (some 50) _ = _
                      simp only [Act.put, List.setIfInBounds_toArray, List.set_cons_zero, List.set_cons_succ, i64_w, i32_w]
                      rfl
                    refine one_ (i := 5) (N := some 53) #[true, true, true, true, true, true, false, true, false] rfl rfl (one_of HT_.out (by kernel_rfl)) (by decide) (fun K hK => ?_)
                    refine goes_ Try.func17 (by kernel_rfl) rfl #[.agg #[.int .u64 a1_0, .int .i64 a1_1, .int .i64 a3, .int .i64 a1_3, .int .i64 a1_4, .int .u64 a1_5], .agg #[.int .u64 a0_0, .int .i64 a0_1, .int .i64 a3, .int .i64 a0_3, .int .i64 a0_4, .int .u64 a0_5]] (by rfl) rfl rfl (by (try simp only [List.map_toArray, List.map_cons, List.map_nil]); first | done | rfl | (simp only [List.length_drop, List.length_take]; rfl)) ?_
                    with_reducible refine (order_Ahead.calls kj32 a1_0 a1_1 a3 a1_3 a1_4 a1_5 a0_0 a0_1 a3 a0_3 a0_4 a0_5 t133 _ A52.out).mono ?_
                    rintro e w82 ⟨rfl, hb⟩
                    refine ⟨_, rfl, ?_⟩
                    have n0_ := Aside0.mk (blk_below (g := gb127) (o := .cells #[.int .u64 a0_0, .int .i64 a0_1, .int .i64 a3, .int .i64 a0_3, .int .i64 a0_4, .int .u64 a0_5] 33 (0, 0)) (by (with_reducible repeat (first | refine blk_drewN ?_ _ | refine blk_drew ?_ | refine blk_alloc ?_ _)); exact BK127.out) hb)
                    have n1_ := Aside0.mk (blk_below (g := gb128) (o := .cells #[.int .u64 a1_0, .int .i64 a1_1, .int .i64 a3, .int .i64 a1_3, .int .i64 a1_4, .int .u64 a1_5] 33 (0, 0)) (by (with_reducible repeat (first | refine blk_drewN ?_ _ | refine blk_drew ?_ | refine blk_alloc ?_ _)); exact BK128.out) hb)
                    have n2_ := Aside0.mk (blk_below (g := gb129) (o := .cells #[.int .u64 a2_0, .int .i64 a2_1, .int .i64 a3, .int .i64 a2_3, .int .i64 a2_4, .int .u64 a2_5] 33 (0, 0)) (by (with_reducible repeat (first | refine blk_drewN ?_ _ | refine blk_drew ?_ | refine blk_alloc ?_ _)); exact BK129.out) hb)
                    have n3_ := Aside0.mk (below_step (by repeat (first | (with_reducible first | exact HB.out | apply below_alloc | apply pw_below_drewN | apply below_drew1 | refine below_set ?_ GE127.out | refine below_set ?_ GE128.out | refine below_set ?_ GE129.out) | exact HB.out)) hb)
                    clear BK127
                    clear BK128
                    clear BK129
                    clear HB
                    have BK127 := n0_
                    have BK128 := n1_
                    have BK129 := n2_
                    have HB := n3_
                    clear n0_ n1_ n2_ n3_
                    (try clear hb)
                    (try clear hb2)
                    (try clear hk)
                    (try clear hi)
                    refine hK.out _ _ ⟨(blk_cell BK127.out 0).trans rfl, (blk_cell BK127.out 1).trans rfl, (blk_cell BK127.out 2).trans rfl, (blk_cell BK127.out 3).trans rfl, (blk_cell BK127.out 4).trans rfl, (blk_cell BK127.out 5).trans rfl, (blk_cell BK128.out 0).trans rfl, (blk_cell BK128.out 1).trans rfl, (blk_cell BK128.out 2).trans rfl, (blk_cell BK128.out 3).trans rfl, (blk_cell BK128.out 4).trans rfl, (blk_cell BK128.out 5).trans rfl⟩ (fun hHeld => ?_)
                    clear hK K
                    refine norm_ (a' := ?_) ?_ ?_
                    rotate_left
                    · show Act.put _ (some 53) _ = _
                      simp only [Act.put, List.setIfInBounds_toArray, List.set_cons_zero, List.set_cons_succ, i64_w, i32_w]
                      rfl
                    refine pure_ (i := 6) (N := some 54) (v := ?_) (a' := ?_) #[true, true, true, true, true, true, true, true, false] rfl rfl (any_of HT_.out (by kernel_rfl)) (fun _ _ _ h => h) (Or.inl ⟨by rfl, ?_⟩) ?_ ?_
                    rotate_left
                    · intro w'
                      go_simp
                      with_reducible rfl
                    rotate_left
                    · simp only [Act.put, List.setIfInBounds_toArray, List.set_cons_zero, List.set_cons_succ, i64_w, i32_w]
                      rfl
                    refine pure_ (i := 8) (N := some 56) (v := ?_) (a' := ?_) #[true, true, true, true, true, true, true, true, true] rfl rfl (any_of HT_.out (by kernel_rfl)) (fun _ _ _ h => h) (Or.inl ⟨by rfl, ?_⟩) ?_ ?_
                    rotate_left
                    · intro w'
                      go_simp
                      with_reducible rfl
                    rotate_left
                    · simp only [Act.put, List.setIfInBounds_toArray, List.set_cons_zero, List.set_cons_succ, i64_w, i32_w]
                      rfl
                    refine done_ (done_of HT_.out (by kernel_rfl)) ?_
                    have hnb83 := NB127_128.out
                    have hnc83 := NB128_127.out
                    have hnb84 := NB127_129.out
                    have hnc84 := NB129_127.out
                    have hcz85_0 : w82.cell? ⟨gb127, 0, none⟩ = some (.int .u64 a0_0) := (blk_cell BK127.out 0).trans rfl
                    have hcz85_1 : w82.cell? ⟨gb127, 1, none⟩ = some (.int .i64 a0_1) := (blk_cell BK127.out 1).trans rfl
                    have hcz85_2 : w82.cell? ⟨gb127, 2, none⟩ = some (.int .i64 a3) := (blk_cell BK127.out 2).trans rfl
                    have hcz85_3 : w82.cell? ⟨gb127, 3, none⟩ = some (.int .i64 a0_3) := (blk_cell BK127.out 3).trans rfl
                    have hcz85_4 : w82.cell? ⟨gb127, 4, none⟩ = some (.int .i64 a0_4) := (blk_cell BK127.out 4).trans rfl
                    have hcz85_5 : w82.cell? ⟨gb127, 5, none⟩ = some (.int .u64 a0_5) := (blk_cell BK127.out 5).trans rfl
                    have hfz85_0 := blk_frozen BK127.out 0
                    have hfz85_1 := blk_frozen BK127.out 1
                    have hfz85_2 := blk_frozen BK127.out 2
                    have hfz85_3 := blk_frozen BK127.out 3
                    have hfz85_4 := blk_frozen BK127.out 4
                    have hfz85_5 := blk_frozen BK127.out 5
                    have hnb86 := NB128_129.out
                    have hnc86 := NB129_128.out
                    have hcz87_0 : w82.cell? ⟨gb128, 0, none⟩ = some (.int .u64 a1_0) := (blk_cell BK128.out 0).trans rfl
                    have hcz87_1 : w82.cell? ⟨gb128, 1, none⟩ = some (.int .i64 a1_1) := (blk_cell BK128.out 1).trans rfl
                    have hcz87_2 : w82.cell? ⟨gb128, 2, none⟩ = some (.int .i64 a3) := (blk_cell BK128.out 2).trans rfl
                    have hcz87_3 : w82.cell? ⟨gb128, 3, none⟩ = some (.int .i64 a1_3) := (blk_cell BK128.out 3).trans rfl
                    have hcz87_4 : w82.cell? ⟨gb128, 4, none⟩ = some (.int .i64 a1_4) := (blk_cell BK128.out 4).trans rfl
                    have hcz87_5 : w82.cell? ⟨gb128, 5, none⟩ = some (.int .u64 a1_5) := (blk_cell BK128.out 5).trans rfl
                    have hfz87_0 := blk_frozen BK128.out 0
                    have hfz87_1 := blk_frozen BK128.out 1
                    have hfz87_2 := blk_frozen BK128.out 2
                    have hfz87_3 := blk_frozen BK128.out 3
                    have hfz87_4 := blk_frozen BK128.out 4
                    have hfz87_5 := blk_frozen BK128.out 5
                    try go_wp2_with (first | ((with_reducible refine gate_callee (f := 17) rfl ?_); refine goesL_ (some 59) rfl rfl Try.func17 (by kernel_rfl) rfl #[.agg #[.int .u64 a0_0, .int .i64 a0_1, .int .i64 a3, .int .i64 a0_3, .int .i64 a0_4, .int .u64 a0_5], .agg #[.int .u64 a1_0, .int .i64 a1_1, .int .i64 a3, .int .i64 a1_3, .int .i64 a1_4, .int .u64 a1_5]] rfl (by (try simp only [List.map_toArray, List.map_cons, List.map_nil]); first | done | rfl | (simp only [List.length_drop, List.length_take]; rfl)) ?_; (with_reducible refine (order_Ahead.calls kj32 a0_0 a0_1 a3 a0_3 a0_4 a0_5 a1_0 a1_1 a3 a1_3 a1_4 a1_5 true _ A57.out).mono ?_); rintro e w88 ⟨rfl, hb⟩; refine ⟨_, rfl, ?_⟩; have n0_ := Aside0.mk (blk_below (g := gb127) (o := .cells #[.int .u64 a0_0, .int .i64 a0_1, .int .i64 a3, .int .i64 a0_3, .int .i64 a0_4, .int .u64 a0_5] 33 (0, 0)) (by (with_reducible repeat (first | refine blk_drewN ?_ _ | refine blk_drew ?_ | refine blk_alloc ?_ _)); exact BK127.out) hb); have n1_ := Aside0.mk (blk_below (g := gb128) (o := .cells #[.int .u64 a1_0, .int .i64 a1_1, .int .i64 a3, .int .i64 a1_3, .int .i64 a1_4, .int .u64 a1_5] 33 (0, 0)) (by (with_reducible repeat (first | refine blk_drewN ?_ _ | refine blk_drew ?_ | refine blk_alloc ?_ _)); exact BK128.out) hb); have n2_ := Aside0.mk (blk_below (g := gb129) (o := .cells #[.int .u64 a2_0, .int .i64 a2_1, .int .i64 a3, .int .i64 a2_3, .int .i64 a2_4, .int .u64 a2_5] 33 (0, 0)) (by (with_reducible repeat (first | refine blk_drewN ?_ _ | refine blk_drew ?_ | refine blk_alloc ?_ _)); exact BK129.out) hb); have n3_ := Aside0.mk (below_step (by repeat (first | (with_reducible first | exact HB.out | apply below_alloc | apply pw_below_drewN | apply below_drew1 | refine below_set ?_ GE127.out | refine below_set ?_ GE128.out | refine below_set ?_ GE129.out) | exact HB.out)) hb); clear BK127; clear BK128; clear BK129; clear HB; have BK127 := n0_; have BK128 := n1_; have BK129 := n2_; have HB := n3_; clear n0_ n1_ n2_ n3_; (try clear hb); (try clear hb2); (try clear hk); (try clear hi); have hcz89_0 : w88.cell? ⟨gb128, 0, none⟩ = some (.int .u64 a1_0) := (blk_cell BK128.out 0).trans rfl; have hcz89_1 : w88.cell? ⟨gb128, 1, none⟩ = some (.int .i64 a1_1) := (blk_cell BK128.out 1).trans rfl; have hcz89_2 : w88.cell? ⟨gb128, 2, none⟩ = some (.int .i64 a3) := (blk_cell BK128.out 2).trans rfl; have hcz89_3 : w88.cell? ⟨gb128, 3, none⟩ = some (.int .i64 a1_3) := (blk_cell BK128.out 3).trans rfl; have hcz89_4 : w88.cell? ⟨gb128, 4, none⟩ = some (.int .i64 a1_4) := (blk_cell BK128.out 4).trans rfl; have hcz89_5 : w88.cell? ⟨gb128, 5, none⟩ = some (.int .u64 a1_5) := (blk_cell BK128.out 5).trans rfl; have hfz89_0 := blk_frozen BK128.out 0; have hfz89_1 := blk_frozen BK128.out 1; have hfz89_2 := blk_frozen BK128.out 2; have hfz89_3 := blk_frozen BK128.out 3; have hfz89_4 := blk_frozen BK128.out 4; have hfz89_5 := blk_frozen BK128.out 5; have hcz90_0 : w88.cell? ⟨gb129, 0, none⟩ = some (.int .u64 a2_0) := (blk_cell BK129.out 0).trans rfl; have hcz90_1 : w88.cell? ⟨gb129, 1, none⟩ = some (.int .i64 a2_1) := (blk_cell BK129.out 1).trans rfl; have hcz90_2 : w88.cell? ⟨gb129, 2, none⟩ = some (.int .i64 a3) := (blk_cell BK129.out 2).trans rfl; have hcz90_3 : w88.cell? ⟨gb129, 3, none⟩ = some (.int .i64 a2_3) := (blk_cell BK129.out 3).trans rfl; have hcz90_4 : w88.cell? ⟨gb129, 4, none⟩ = some (.int .i64 a2_4) := (blk_cell BK129.out 4).trans rfl; have hcz90_5 : w88.cell? ⟨gb129, 5, none⟩ = some (.int .u64 a2_5) := (blk_cell BK129.out 5).trans rfl; have hfz90_0 := blk_frozen BK129.out 0; have hfz90_1 := blk_frozen BK129.out 1; have hfz90_2 := blk_frozen BK129.out 2; have hfz90_3 := blk_frozen BK129.out 3; have hfz90_4 := blk_frozen BK129.out 4; have hfz90_5 := blk_frozen BK129.out 5) | (go_at_call 17; (with_reducible refine (order_Ahead.calls kj32 a1_0 a1_1 a3 a1_3 a1_4 a1_5 a2_0 a2_1 a3 a2_3 a2_4 a2_5 true _ A59.out).mono ?_); rintro e w91 ⟨rfl, hb⟩; have n0_ := Aside0.mk (blk_below (g := gb127) (o := .cells #[.int .u64 a0_0, .int .i64 a0_1, .int .i64 a3, .int .i64 a0_3, .int .i64 a0_4, .int .u64 a0_5] 33 (0, 0)) (by (with_reducible repeat (first | refine blk_drewN ?_ _ | refine blk_drew ?_ | refine blk_alloc ?_ _)); exact BK127.out) hb); have n1_ := Aside0.mk (blk_below (g := gb128) (o := .cells #[.int .u64 a1_0, .int .i64 a1_1, .int .i64 a3, .int .i64 a1_3, .int .i64 a1_4, .int .u64 a1_5] 33 (0, 0)) (by (with_reducible repeat (first | refine blk_drewN ?_ _ | refine blk_drew ?_ | refine blk_alloc ?_ _)); exact BK128.out) hb); have n2_ := Aside0.mk (blk_below (g := gb129) (o := .cells #[.int .u64 a2_0, .int .i64 a2_1, .int .i64 a3, .int .i64 a2_3, .int .i64 a2_4, .int .u64 a2_5] 33 (0, 0)) (by (with_reducible repeat (first | refine blk_drewN ?_ _ | refine blk_drew ?_ | refine blk_alloc ?_ _)); exact BK129.out) hb); have n3_ := Aside0.mk (below_step (by repeat (first | (with_reducible first | exact HB.out | apply below_alloc | apply pw_below_drewN | apply below_drew1 | refine below_set ?_ GE127.out | refine below_set ?_ GE128.out | refine below_set ?_ GE129.out) | exact HB.out)) hb); clear BK127; clear BK128; clear BK129; clear HB; have BK127 := n0_; have BK128 := n1_; have BK129 := n2_; have HB := n3_; clear n0_ n1_ n2_ n3_; (try clear hb); (try clear hb2); (try clear hk); (try clear hi); have hcz92_0 : w91.cell? ⟨gb127, 0, none⟩ = some (.int .u64 a0_0) := (blk_cell BK127.out 0).trans rfl; have hcz92_1 : w91.cell? ⟨gb127, 1, none⟩ = some (.int .i64 a0_1) := (blk_cell BK127.out 1).trans rfl; have hcz92_2 : w91.cell? ⟨gb127, 2, none⟩ = some (.int .i64 a3) := (blk_cell BK127.out 2).trans rfl; have hcz92_3 : w91.cell? ⟨gb127, 3, none⟩ = some (.int .i64 a0_3) := (blk_cell BK127.out 3).trans rfl; have hcz92_4 : w91.cell? ⟨gb127, 4, none⟩ = some (.int .i64 a0_4) := (blk_cell BK127.out 4).trans rfl; have hcz92_5 : w91.cell? ⟨gb127, 5, none⟩ = some (.int .u64 a0_5) := (blk_cell BK127.out 5).trans rfl; have hfz92_0 := blk_frozen BK127.out 0; have hfz92_1 := blk_frozen BK127.out 1; have hfz92_2 := blk_frozen BK127.out 2; have hfz92_3 := blk_frozen BK127.out 3; have hfz92_4 := blk_frozen BK127.out 4; have hfz92_5 := blk_frozen BK127.out 5; have hcz93_0 : w91.cell? ⟨gb129, 0, none⟩ = some (.int .u64 a2_0) := (blk_cell BK129.out 0).trans rfl; have hcz93_1 : w91.cell? ⟨gb129, 1, none⟩ = some (.int .i64 a2_1) := (blk_cell BK129.out 1).trans rfl; have hcz93_2 : w91.cell? ⟨gb129, 2, none⟩ = some (.int .i64 a3) := (blk_cell BK129.out 2).trans rfl; have hcz93_3 : w91.cell? ⟨gb129, 3, none⟩ = some (.int .i64 a2_3) := (blk_cell BK129.out 3).trans rfl; have hcz93_4 : w91.cell? ⟨gb129, 4, none⟩ = some (.int .i64 a2_4) := (blk_cell BK129.out 4).trans rfl; have hcz93_5 : w91.cell? ⟨gb129, 5, none⟩ = some (.int .u64 a2_5) := (blk_cell BK129.out 5).trans rfl; have hfz93_0 := blk_frozen BK129.out 0; have hfz93_1 := blk_frozen BK129.out 1; have hfz93_2 := blk_frozen BK129.out 2; have hfz93_3 := blk_frozen BK129.out 3; have hfz93_4 := blk_frozen BK129.out 4; have hfz93_5 := blk_frozen BK129.out 5) | (go_at_call 17; (with_reducible refine (order_Ahead.calls kj32 a0_0 a0_1 a3 a0_3 a0_4 a0_5 a2_0 a2_1 a3 a2_3 a2_4 a2_5 false _ A61.out).mono ?_); rintro e w94 ⟨rfl, hb⟩; have n0_ := Aside0.mk (blk_below (g := gb127) (o := .cells #[.int .u64 a0_0, .int .i64 a0_1, .int .i64 a3, .int .i64 a0_3, .int .i64 a0_4, .int .u64 a0_5] 33 (0, 0)) (by (with_reducible repeat (first | refine blk_drewN ?_ _ | refine blk_drew ?_ | refine blk_alloc ?_ _)); exact BK127.out) hb); have n1_ := Aside0.mk (blk_below (g := gb128) (o := .cells #[.int .u64 a1_0, .int .i64 a1_1, .int .i64 a3, .int .i64 a1_3, .int .i64 a1_4, .int .u64 a1_5] 33 (0, 0)) (by (with_reducible repeat (first | refine blk_drewN ?_ _ | refine blk_drew ?_ | refine blk_alloc ?_ _)); exact BK128.out) hb); have n2_ := Aside0.mk (blk_below (g := gb129) (o := .cells #[.int .u64 a2_0, .int .i64 a2_1, .int .i64 a3, .int .i64 a2_3, .int .i64 a2_4, .int .u64 a2_5] 33 (0, 0)) (by (with_reducible repeat (first | refine blk_drewN ?_ _ | refine blk_drew ?_ | refine blk_alloc ?_ _)); exact BK129.out) hb); have n3_ := Aside0.mk (below_step (by repeat (first | (with_reducible first | exact HB.out | apply below_alloc | apply pw_below_drewN | apply below_drew1 | refine below_set ?_ GE127.out | refine below_set ?_ GE128.out | refine below_set ?_ GE129.out) | exact HB.out)) hb); clear BK127; clear BK128; clear BK129; clear HB; have BK127 := n0_; have BK128 := n1_; have BK129 := n2_; have HB := n3_; clear n0_ n1_ n2_ n3_; (try clear hb); (try clear hb2); (try clear hk); (try clear hi)))
                    go_ret
                    exact ⟨by first | rfl | (simp [errW_none, errW_some] <;> rfl) | (simp [*, errW_none, errW_some] <;> rfl), by repeat (first | (with_reducible first | exact HB.out | apply below_alloc | apply pw_below_drewN | apply below_drew1 | refine below_set ?_ GE127.out | refine below_set ?_ GE128.out | refine below_set ?_ GE129.out) | exact HB.out)⟩
                · replace c60 := Bool.eq_false_iff.mpr c60
                  subst c60
                  have H1 : ((jobberlaw12_lives.f).bind fun t138 => (some t138)) = some r := by rw [if_neg (show ¬ (false = true) by decide)] at H; exact H
                  clear H
                  have H := H1
                  clear H1
                  replace H := Option.bind_eq_some_iff.mp H
                  obtain ⟨t138, A950, H⟩ := H
                  replace H : (some t138) = some r := H
                  have A95 := Aside0.mk A950
                  clear A950
                  obtain rfl := Option.some.inj H
                  try go_wp2
                  have n0_ := Aside0.mk (blk_drew BK127.out)
                  have n1_ := Aside0.mk (blk_drew BK128.out)
                  have n2_ := Aside0.mk (blk_drew BK129.out)
                  have n3_ := Aside0.mk (below_drew1 HB.out)
                  clear BK127
                  clear BK128
                  clear BK129
                  clear HB
                  have BK127 := n0_
                  have BK128 := n1_
                  have BK129 := n2_
                  have HB := n3_
                  clear n0_ n1_ n2_ n3_
                  refine start_ (n := 9) (S := fun w' => w'.cell? ⟨gb127, 0, none⟩ = some (.int .u64 a0_0) ∧ w'.cell? ⟨gb127, 1, none⟩ = some (.int .i64 a0_1) ∧ w'.cell? ⟨gb127, 2, none⟩ = some (.int .i64 a3) ∧ w'.cell? ⟨gb127, 3, none⟩ = some (.int .i64 a0_3) ∧ w'.cell? ⟨gb127, 4, none⟩ = some (.int .i64 a0_4) ∧ w'.cell? ⟨gb127, 5, none⟩ = some (.int .u64 a0_5) ∧ w'.cell? ⟨gb128, 0, none⟩ = some (.int .u64 a1_0) ∧ w'.cell? ⟨gb128, 1, none⟩ = some (.int .i64 a1_1) ∧ w'.cell? ⟨gb128, 2, none⟩ = some (.int .i64 a3) ∧ w'.cell? ⟨gb128, 3, none⟩ = some (.int .i64 a1_3) ∧ w'.cell? ⟨gb128, 4, none⟩ = some (.int .i64 a1_4) ∧ w'.cell? ⟨gb128, 5, none⟩ = some (.int .u64 a1_5)) (ds := []) #[false, false, false, false, false, false, false, false, false] (by kernel_rfl) rfl rfl ⟨(blk_cell BK127.out 0).trans rfl, (blk_cell BK127.out 1).trans rfl, (blk_cell BK127.out 2).trans rfl, (blk_cell BK127.out 3).trans rfl, (blk_cell BK127.out 4).trans rfl, (blk_cell BK127.out 5).trans rfl, (blk_cell BK128.out 0).trans rfl, (blk_cell BK128.out 1).trans rfl, (blk_cell BK128.out 2).trans rfl, (blk_cell BK128.out 3).trans rfl, (blk_cell BK128.out 4).trans rfl, (blk_cell BK128.out 5).trans rfl⟩ (fun hHeld => ?_); refine with_tabW jobberlaw12_OrderRank.tab5 jobberlaw12_OrderRank.bits5 (fun HT_ HW_ => ?_)
                  generalize wc.drew = w96 at BK127 BK128 BK129 HB hHeld ⊢
                  refine pure_ (i := 7) (N := some 55) (v := ?_) (a' := ?_) #[false, false, false, false, false, false, false, true, false] rfl rfl (any_of HT_.out (by kernel_rfl)) (fun _ _ _ h => h) (Or.inl ⟨by rfl, ?_⟩) ?_ ?_
                  rotate_left
                  · intro w'
                    go_simp
                    with_reducible rfl
                  rotate_left
                  · simp only [Act.put, List.setIfInBounds_toArray, List.set_cons_zero, List.set_cons_succ, i64_w, i32_w]
                    rfl
                  refine take_ (i := 0) (N := some 48) (v := ?_) (a' := ?_) #[true, false, false, false, false, false, false, true, false] rfl rfl (take_ofW HT_.out HW_.out (by kernel_rfl)) (fun _ _ _ h => h) (Or.inl ⟨by rfl, ?_⟩) hHeld ?_ ?_
                  rotate_left
                  · rintro w' ⟨s0, s1, s2, s3, s4, s5, s6, s7, s8, s9, s10, s11⟩
                    go_simp
                    with_reducible rfl
                  rotate_left
                  · simp only [Act.put, List.setIfInBounds_toArray, List.set_cons_zero, List.set_cons_succ, i64_w, i32_w]
                    rfl
                  refine take_ (i := 1) (N := some 49) (v := ?_) (a' := ?_) #[true, true, false, false, false, false, false, true, false] rfl rfl (take_ofW HT_.out HW_.out (by kernel_rfl)) (fun _ _ _ h => h) (Or.inl ⟨by rfl, ?_⟩) hHeld ?_ ?_
                  rotate_left
                  · rintro w' ⟨s0, s1, s2, s3, s4, s5, s6, s7, s8, s9, s10, s11⟩
                    go_simp
                    with_reducible rfl
                  rotate_left
                  · simp only [Act.put, List.setIfInBounds_toArray, List.set_cons_zero, List.set_cons_succ, i64_w, i32_w]
                    rfl
                  refine take_ (i := 3) (N := some 51) (v := ?_) (a' := ?_) #[true, true, false, true, false, false, false, true, false] rfl rfl (take_ofW HT_.out HW_.out (by kernel_rfl)) (fun _ _ _ h => h) (Or.inl ⟨by rfl, ?_⟩) hHeld ?_ ?_
                  rotate_left
                  · rintro w' ⟨s0, s1, s2, s3, s4, s5, s6, s7, s8, s9, s10, s11⟩
                    go_simp
                    with_reducible rfl
                  rotate_left
                  · simp only [Act.put, List.setIfInBounds_toArray, List.set_cons_zero, List.set_cons_succ, i64_w, i32_w]
                    rfl
                  refine take_ (i := 4) (N := some 52) (v := ?_) (a' := ?_) #[true, true, false, true, true, false, false, true, false] rfl rfl (take_ofW HT_.out HW_.out (by kernel_rfl)) (fun _ _ _ h => h) (Or.inl ⟨by rfl, ?_⟩) hHeld ?_ ?_
                  rotate_left
                  · rintro w' ⟨s0, s1, s2, s3, s4, s5, s6, s7, s8, s9, s10, s11⟩
                    go_simp
                    with_reducible rfl
                  rotate_left
                  · simp only [Act.put, List.setIfInBounds_toArray, List.set_cons_zero, List.set_cons_succ, i64_w, i32_w]
                    rfl
                  refine one_ (i := 2) (N := some 50) #[true, true, true, true, true, false, false, true, false] rfl rfl (one_of HT_.out (by kernel_rfl)) (by decide) (fun K hK => ?_)
                  refine goes_ Try.func17 (by kernel_rfl) rfl #[.agg #[.int .u64 a0_0, .int .i64 a0_1, .int .i64 a3, .int .i64 a0_3, .int .i64 a0_4, .int .u64 a0_5], .agg #[.int .u64 a1_0, .int .i64 a1_1, .int .i64 a3, .int .i64 a1_3, .int .i64 a1_4, .int .u64 a1_5]] (by rfl) rfl rfl (by (try simp only [List.map_toArray, List.map_cons, List.map_nil]); first | done | rfl | (simp only [List.length_drop, List.length_take]; rfl)) ?_
                  with_reducible refine (order_Ahead.calls kj32 a0_0 a0_1 a3 a0_3 a0_4 a0_5 a1_0 a1_1 a3 a1_3 a1_4 a1_5 t132 _ A51.out).mono ?_
                  rintro e w97 ⟨rfl, hb⟩
                  refine ⟨_, rfl, ?_⟩
                  have n0_ := Aside0.mk (blk_below (g := gb127) (o := .cells #[.int .u64 a0_0, .int .i64 a0_1, .int .i64 a3, .int .i64 a0_3, .int .i64 a0_4, .int .u64 a0_5] 33 (0, 0)) (by (with_reducible repeat (first | refine blk_drewN ?_ _ | refine blk_drew ?_ | refine blk_alloc ?_ _)); exact BK127.out) hb)
                  have n1_ := Aside0.mk (blk_below (g := gb128) (o := .cells #[.int .u64 a1_0, .int .i64 a1_1, .int .i64 a3, .int .i64 a1_3, .int .i64 a1_4, .int .u64 a1_5] 33 (0, 0)) (by (with_reducible repeat (first | refine blk_drewN ?_ _ | refine blk_drew ?_ | refine blk_alloc ?_ _)); exact BK128.out) hb)
                  have n2_ := Aside0.mk (blk_below (g := gb129) (o := .cells #[.int .u64 a2_0, .int .i64 a2_1, .int .i64 a3, .int .i64 a2_3, .int .i64 a2_4, .int .u64 a2_5] 33 (0, 0)) (by (with_reducible repeat (first | refine blk_drewN ?_ _ | refine blk_drew ?_ | refine blk_alloc ?_ _)); exact BK129.out) hb)
                  have n3_ := Aside0.mk (below_step (by repeat (first | (with_reducible first | exact HB.out | apply below_alloc | apply pw_below_drewN | apply below_drew1 | refine below_set ?_ GE127.out | refine below_set ?_ GE128.out | refine below_set ?_ GE129.out) | exact HB.out)) hb)
                  clear BK127
                  clear BK128
                  clear BK129
                  clear HB
                  have BK127 := n0_
                  have BK128 := n1_
                  have BK129 := n2_
                  have HB := n3_
                  clear n0_ n1_ n2_ n3_
                  (try clear hb)
                  (try clear hb2)
                  (try clear hk)
                  (try clear hi)
                  refine hK.out _ _ ⟨(blk_cell BK127.out 0).trans rfl, (blk_cell BK127.out 1).trans rfl, (blk_cell BK127.out 2).trans rfl, (blk_cell BK127.out 3).trans rfl, (blk_cell BK127.out 4).trans rfl, (blk_cell BK127.out 5).trans rfl, (blk_cell BK128.out 0).trans rfl, (blk_cell BK128.out 1).trans rfl, (blk_cell BK128.out 2).trans rfl, (blk_cell BK128.out 3).trans rfl, (blk_cell BK128.out 4).trans rfl, (blk_cell BK128.out 5).trans rfl⟩ (fun hHeld => ?_)
                  clear hK K
                  refine norm_ (a' := ?_) ?_ ?_
                  rotate_left
                  · show Act.put _ (some 50) _ = _
                    simp only [Act.put, List.setIfInBounds_toArray, List.set_cons_zero, List.set_cons_succ, i64_w, i32_w]
                    rfl
                  refine one_ (i := 5) (N := some 53) #[true, true, true, true, true, true, false, true, false] rfl rfl (one_of HT_.out (by kernel_rfl)) (by decide) (fun K hK => ?_)
                  refine goes_ Try.func17 (by kernel_rfl) rfl #[.agg #[.int .u64 a1_0, .int .i64 a1_1, .int .i64 a3, .int .i64 a1_3, .int .i64 a1_4, .int .u64 a1_5], .agg #[.int .u64 a0_0, .int .i64 a0_1, .int .i64 a3, .int .i64 a0_3, .int .i64 a0_4, .int .u64 a0_5]] (by rfl) rfl rfl (by (try simp only [List.map_toArray, List.map_cons, List.map_nil]); first | done | rfl | (simp only [List.length_drop, List.length_take]; rfl)) ?_
                  with_reducible refine (order_Ahead.calls kj32 a1_0 a1_1 a3 a1_3 a1_4 a1_5 a0_0 a0_1 a3 a0_3 a0_4 a0_5 t133 _ A52.out).mono ?_
                  rintro e w98 ⟨rfl, hb⟩
                  refine ⟨_, rfl, ?_⟩
                  have n0_ := Aside0.mk (blk_below (g := gb127) (o := .cells #[.int .u64 a0_0, .int .i64 a0_1, .int .i64 a3, .int .i64 a0_3, .int .i64 a0_4, .int .u64 a0_5] 33 (0, 0)) (by (with_reducible repeat (first | refine blk_drewN ?_ _ | refine blk_drew ?_ | refine blk_alloc ?_ _)); exact BK127.out) hb)
                  have n1_ := Aside0.mk (blk_below (g := gb128) (o := .cells #[.int .u64 a1_0, .int .i64 a1_1, .int .i64 a3, .int .i64 a1_3, .int .i64 a1_4, .int .u64 a1_5] 33 (0, 0)) (by (with_reducible repeat (first | refine blk_drewN ?_ _ | refine blk_drew ?_ | refine blk_alloc ?_ _)); exact BK128.out) hb)
                  have n2_ := Aside0.mk (blk_below (g := gb129) (o := .cells #[.int .u64 a2_0, .int .i64 a2_1, .int .i64 a3, .int .i64 a2_3, .int .i64 a2_4, .int .u64 a2_5] 33 (0, 0)) (by (with_reducible repeat (first | refine blk_drewN ?_ _ | refine blk_drew ?_ | refine blk_alloc ?_ _)); exact BK129.out) hb)
                  have n3_ := Aside0.mk (below_step (by repeat (first | (with_reducible first | exact HB.out | apply below_alloc | apply pw_below_drewN | apply below_drew1 | refine below_set ?_ GE127.out | refine below_set ?_ GE128.out | refine below_set ?_ GE129.out) | exact HB.out)) hb)
                  clear BK127
                  clear BK128
                  clear BK129
                  clear HB
                  have BK127 := n0_
                  have BK128 := n1_
                  have BK129 := n2_
                  have HB := n3_
                  clear n0_ n1_ n2_ n3_
                  (try clear hb)
                  (try clear hb2)
                  (try clear hk)
                  (try clear hi)
                  refine hK.out _ _ ⟨(blk_cell BK127.out 0).trans rfl, (blk_cell BK127.out 1).trans rfl, (blk_cell BK127.out 2).trans rfl, (blk_cell BK127.out 3).trans rfl, (blk_cell BK127.out 4).trans rfl, (blk_cell BK127.out 5).trans rfl, (blk_cell BK128.out 0).trans rfl, (blk_cell BK128.out 1).trans rfl, (blk_cell BK128.out 2).trans rfl, (blk_cell BK128.out 3).trans rfl, (blk_cell BK128.out 4).trans rfl, (blk_cell BK128.out 5).trans rfl⟩ (fun hHeld => ?_)
                  clear hK K
                  refine norm_ (a' := ?_) ?_ ?_
                  rotate_left
                  · show Act.put _ (some 53) _ = _
                    simp only [Act.put, List.setIfInBounds_toArray, List.set_cons_zero, List.set_cons_succ, i64_w, i32_w]
                    rfl
                  refine pure_ (i := 6) (N := some 54) (v := ?_) (a' := ?_) #[true, true, true, true, true, true, true, true, false] rfl rfl (any_of HT_.out (by kernel_rfl)) (fun _ _ _ h => h) (Or.inl ⟨by rfl, ?_⟩) ?_ ?_
                  rotate_left
                  · intro w'
                    go_simp
                    with_reducible rfl
                  rotate_left
                  · simp only [Act.put, List.setIfInBounds_toArray, List.set_cons_zero, List.set_cons_succ, i64_w, i32_w]
                    rfl
                  refine pure_ (i := 8) (N := some 56) (v := ?_) (a' := ?_) #[true, true, true, true, true, true, true, true, true] rfl rfl (any_of HT_.out (by kernel_rfl)) (fun _ _ _ h => h) (Or.inl ⟨by rfl, ?_⟩) ?_ ?_
                  rotate_left
                  · intro w'
                    go_simp
                    with_reducible rfl
                  rotate_left
                  · simp only [Act.put, List.setIfInBounds_toArray, List.set_cons_zero, List.set_cons_succ, i64_w, i32_w]
                    rfl
                  refine done_ (done_of HT_.out (by kernel_rfl)) ?_
                  have hnb99 := NB127_128.out
                  have hnc99 := NB128_127.out
                  have hnb100 := NB127_129.out
                  have hnc100 := NB129_127.out
                  have hcz101_0 : w98.cell? ⟨gb127, 0, none⟩ = some (.int .u64 a0_0) := (blk_cell BK127.out 0).trans rfl
                  have hcz101_1 : w98.cell? ⟨gb127, 1, none⟩ = some (.int .i64 a0_1) := (blk_cell BK127.out 1).trans rfl
                  have hcz101_2 : w98.cell? ⟨gb127, 2, none⟩ = some (.int .i64 a3) := (blk_cell BK127.out 2).trans rfl
                  have hcz101_3 : w98.cell? ⟨gb127, 3, none⟩ = some (.int .i64 a0_3) := (blk_cell BK127.out 3).trans rfl
                  have hcz101_4 : w98.cell? ⟨gb127, 4, none⟩ = some (.int .i64 a0_4) := (blk_cell BK127.out 4).trans rfl
                  have hcz101_5 : w98.cell? ⟨gb127, 5, none⟩ = some (.int .u64 a0_5) := (blk_cell BK127.out 5).trans rfl
                  have hfz101_0 := blk_frozen BK127.out 0
                  have hfz101_1 := blk_frozen BK127.out 1
                  have hfz101_2 := blk_frozen BK127.out 2
                  have hfz101_3 := blk_frozen BK127.out 3
                  have hfz101_4 := blk_frozen BK127.out 4
                  have hfz101_5 := blk_frozen BK127.out 5
                  have hnb102 := NB128_129.out
                  have hnc102 := NB129_128.out
                  have hcz103_0 : w98.cell? ⟨gb128, 0, none⟩ = some (.int .u64 a1_0) := (blk_cell BK128.out 0).trans rfl
                  have hcz103_1 : w98.cell? ⟨gb128, 1, none⟩ = some (.int .i64 a1_1) := (blk_cell BK128.out 1).trans rfl
                  have hcz103_2 : w98.cell? ⟨gb128, 2, none⟩ = some (.int .i64 a3) := (blk_cell BK128.out 2).trans rfl
                  have hcz103_3 : w98.cell? ⟨gb128, 3, none⟩ = some (.int .i64 a1_3) := (blk_cell BK128.out 3).trans rfl
                  have hcz103_4 : w98.cell? ⟨gb128, 4, none⟩ = some (.int .i64 a1_4) := (blk_cell BK128.out 4).trans rfl
                  have hcz103_5 : w98.cell? ⟨gb128, 5, none⟩ = some (.int .u64 a1_5) := (blk_cell BK128.out 5).trans rfl
                  have hfz103_0 := blk_frozen BK128.out 0
                  have hfz103_1 := blk_frozen BK128.out 1
                  have hfz103_2 := blk_frozen BK128.out 2
                  have hfz103_3 := blk_frozen BK128.out 3
                  have hfz103_4 := blk_frozen BK128.out 4
                  have hfz103_5 := blk_frozen BK128.out 5
                  try go_wp2_with (first | ((with_reducible refine gate_callee (f := 17) rfl ?_); refine goesL_ (some 59) rfl rfl Try.func17 (by kernel_rfl) rfl #[.agg #[.int .u64 a0_0, .int .i64 a0_1, .int .i64 a3, .int .i64 a0_3, .int .i64 a0_4, .int .u64 a0_5], .agg #[.int .u64 a1_0, .int .i64 a1_1, .int .i64 a3, .int .i64 a1_3, .int .i64 a1_4, .int .u64 a1_5]] rfl (by (try simp only [List.map_toArray, List.map_cons, List.map_nil]); first | done | rfl | (simp only [List.length_drop, List.length_take]; rfl)) ?_; (with_reducible refine (order_Ahead.calls kj32 a0_0 a0_1 a3 a0_3 a0_4 a0_5 a1_0 a1_1 a3 a1_3 a1_4 a1_5 true _ A57.out).mono ?_); rintro e w104 ⟨rfl, hb⟩; refine ⟨_, rfl, ?_⟩; have n0_ := Aside0.mk (blk_below (g := gb127) (o := .cells #[.int .u64 a0_0, .int .i64 a0_1, .int .i64 a3, .int .i64 a0_3, .int .i64 a0_4, .int .u64 a0_5] 33 (0, 0)) (by (with_reducible repeat (first | refine blk_drewN ?_ _ | refine blk_drew ?_ | refine blk_alloc ?_ _)); exact BK127.out) hb); have n1_ := Aside0.mk (blk_below (g := gb128) (o := .cells #[.int .u64 a1_0, .int .i64 a1_1, .int .i64 a3, .int .i64 a1_3, .int .i64 a1_4, .int .u64 a1_5] 33 (0, 0)) (by (with_reducible repeat (first | refine blk_drewN ?_ _ | refine blk_drew ?_ | refine blk_alloc ?_ _)); exact BK128.out) hb); have n2_ := Aside0.mk (blk_below (g := gb129) (o := .cells #[.int .u64 a2_0, .int .i64 a2_1, .int .i64 a3, .int .i64 a2_3, .int .i64 a2_4, .int .u64 a2_5] 33 (0, 0)) (by (with_reducible repeat (first | refine blk_drewN ?_ _ | refine blk_drew ?_ | refine blk_alloc ?_ _)); exact BK129.out) hb); have n3_ := Aside0.mk (below_step (by repeat (first | (with_reducible first | exact HB.out | apply below_alloc | apply pw_below_drewN | apply below_drew1 | refine below_set ?_ GE127.out | refine below_set ?_ GE128.out | refine below_set ?_ GE129.out) | exact HB.out)) hb); clear BK127; clear BK128; clear BK129; clear HB; have BK127 := n0_; have BK128 := n1_; have BK129 := n2_; have HB := n3_; clear n0_ n1_ n2_ n3_; (try clear hb); (try clear hb2); (try clear hk); (try clear hi); have hcz105_0 : w104.cell? ⟨gb128, 0, none⟩ = some (.int .u64 a1_0) := (blk_cell BK128.out 0).trans rfl; have hcz105_1 : w104.cell? ⟨gb128, 1, none⟩ = some (.int .i64 a1_1) := (blk_cell BK128.out 1).trans rfl; have hcz105_2 : w104.cell? ⟨gb128, 2, none⟩ = some (.int .i64 a3) := (blk_cell BK128.out 2).trans rfl; have hcz105_3 : w104.cell? ⟨gb128, 3, none⟩ = some (.int .i64 a1_3) := (blk_cell BK128.out 3).trans rfl; have hcz105_4 : w104.cell? ⟨gb128, 4, none⟩ = some (.int .i64 a1_4) := (blk_cell BK128.out 4).trans rfl; have hcz105_5 : w104.cell? ⟨gb128, 5, none⟩ = some (.int .u64 a1_5) := (blk_cell BK128.out 5).trans rfl; have hfz105_0 := blk_frozen BK128.out 0; have hfz105_1 := blk_frozen BK128.out 1; have hfz105_2 := blk_frozen BK128.out 2; have hfz105_3 := blk_frozen BK128.out 3; have hfz105_4 := blk_frozen BK128.out 4; have hfz105_5 := blk_frozen BK128.out 5; have hcz106_0 : w104.cell? ⟨gb129, 0, none⟩ = some (.int .u64 a2_0) := (blk_cell BK129.out 0).trans rfl; have hcz106_1 : w104.cell? ⟨gb129, 1, none⟩ = some (.int .i64 a2_1) := (blk_cell BK129.out 1).trans rfl; have hcz106_2 : w104.cell? ⟨gb129, 2, none⟩ = some (.int .i64 a3) := (blk_cell BK129.out 2).trans rfl; have hcz106_3 : w104.cell? ⟨gb129, 3, none⟩ = some (.int .i64 a2_3) := (blk_cell BK129.out 3).trans rfl; have hcz106_4 : w104.cell? ⟨gb129, 4, none⟩ = some (.int .i64 a2_4) := (blk_cell BK129.out 4).trans rfl; have hcz106_5 : w104.cell? ⟨gb129, 5, none⟩ = some (.int .u64 a2_5) := (blk_cell BK129.out 5).trans rfl; have hfz106_0 := blk_frozen BK129.out 0; have hfz106_1 := blk_frozen BK129.out 1; have hfz106_2 := blk_frozen BK129.out 2; have hfz106_3 := blk_frozen BK129.out 3; have hfz106_4 := blk_frozen BK129.out 4; have hfz106_5 := blk_frozen BK129.out 5) | (go_at_call 17; (with_reducible refine (order_Ahead.calls kj32 a1_0 a1_1 a3 a1_3 a1_4 a1_5 a2_0 a2_1 a3 a2_3 a2_4 a2_5 false _ A59.out).mono ?_); rintro e w107 ⟨rfl, hb⟩; have n0_ := Aside0.mk (blk_below (g := gb127) (o := .cells #[.int .u64 a0_0, .int .i64 a0_1, .int .i64 a3, .int .i64 a0_3, .int .i64 a0_4, .int .u64 a0_5] 33 (0, 0)) (by (with_reducible repeat (first | refine blk_drewN ?_ _ | refine blk_drew ?_ | refine blk_alloc ?_ _)); exact BK127.out) hb); have n1_ := Aside0.mk (blk_below (g := gb128) (o := .cells #[.int .u64 a1_0, .int .i64 a1_1, .int .i64 a3, .int .i64 a1_3, .int .i64 a1_4, .int .u64 a1_5] 33 (0, 0)) (by (with_reducible repeat (first | refine blk_drewN ?_ _ | refine blk_drew ?_ | refine blk_alloc ?_ _)); exact BK128.out) hb); have n2_ := Aside0.mk (blk_below (g := gb129) (o := .cells #[.int .u64 a2_0, .int .i64 a2_1, .int .i64 a3, .int .i64 a2_3, .int .i64 a2_4, .int .u64 a2_5] 33 (0, 0)) (by (with_reducible repeat (first | refine blk_drewN ?_ _ | refine blk_drew ?_ | refine blk_alloc ?_ _)); exact BK129.out) hb); have n3_ := Aside0.mk (below_step (by repeat (first | (with_reducible first | exact HB.out | apply below_alloc | apply pw_below_drewN | apply below_drew1 | refine below_set ?_ GE127.out | refine below_set ?_ GE128.out | refine below_set ?_ GE129.out) | exact HB.out)) hb); clear BK127; clear BK128; clear BK129; clear HB; have BK127 := n0_; have BK128 := n1_; have BK129 := n2_; have HB := n3_; clear n0_ n1_ n2_ n3_; (try clear hb); (try clear hb2); (try clear hk); (try clear hi)) | (go_at_call 10; (with_reducible refine (jobberlaw12_lives.calls  t138 _ A95.out).mono ?_); rintro e w108 ⟨rfl, hb⟩; have n0_ := Aside0.mk (blk_below (g := gb127) (o := .cells #[.int .u64 a0_0, .int .i64 a0_1, .int .i64 a3, .int .i64 a0_3, .int .i64 a0_4, .int .u64 a0_5] 33 (0, 0)) (by (with_reducible repeat (first | refine blk_drewN ?_ _ | refine blk_drew ?_ | refine blk_alloc ?_ _)); exact BK127.out) hb); have n1_ := Aside0.mk (blk_below (g := gb128) (o := .cells #[.int .u64 a1_0, .int .i64 a1_1, .int .i64 a3, .int .i64 a1_3, .int .i64 a1_4, .int .u64 a1_5] 33 (0, 0)) (by (with_reducible repeat (first | refine blk_drewN ?_ _ | refine blk_drew ?_ | refine blk_alloc ?_ _)); exact BK128.out) hb); have n2_ := Aside0.mk (blk_below (g := gb129) (o := .cells #[.int .u64 a2_0, .int .i64 a2_1, .int .i64 a3, .int .i64 a2_3, .int .i64 a2_4, .int .u64 a2_5] 33 (0, 0)) (by (with_reducible repeat (first | refine blk_drewN ?_ _ | refine blk_drew ?_ | refine blk_alloc ?_ _)); exact BK129.out) hb); have n3_ := Aside0.mk (below_step (by repeat (first | (with_reducible first | exact HB.out | apply below_alloc | apply pw_below_drewN | apply below_drew1 | refine below_set ?_ GE127.out | refine below_set ?_ GE128.out | refine below_set ?_ GE129.out) | exact HB.out)) hb); clear BK127; clear BK128; clear BK129; clear HB; have BK127 := n0_; have BK128 := n1_; have BK129 := n2_; have HB := n3_; clear n0_ n1_ n2_ n3_; (try clear hb); (try clear hb2); (try clear hk); (try clear hi)))
                  go_ret
                  exact ⟨by first | rfl | (simp [errW_none, errW_some] <;> rfl) | (simp [*, errW_none, errW_some] <;> rfl), by repeat (first | (with_reducible first | exact HB.out | apply below_alloc | apply pw_below_drewN | apply below_drew1 | refine below_set ?_ GE127.out | refine below_set ?_ GE128.out | refine below_set ?_ GE129.out) | exact HB.out)⟩
              · replace c58 := Bool.eq_false_iff.mpr c58
                subst c58
                have H1 : ((jobberlaw12_lives.f).bind fun t139 => (some t139)) = some r := by rw [if_neg (show ¬ (false = true) by decide)] at H; exact H
                clear H
                have H := H1
                clear H1
                replace H := Option.bind_eq_some_iff.mp H
                obtain ⟨t139, A1090, H⟩ := H
                replace H : (some t139) = some r := H
                have A109 := Aside0.mk A1090
                clear A1090
                obtain rfl := Option.some.inj H
                try go_wp2
                have n0_ := Aside0.mk (blk_drew BK127.out)
                have n1_ := Aside0.mk (blk_drew BK128.out)
                have n2_ := Aside0.mk (blk_drew BK129.out)
                have n3_ := Aside0.mk (below_drew1 HB.out)
                clear BK127
                clear BK128
                clear BK129
                clear HB
                have BK127 := n0_
                have BK128 := n1_
                have BK129 := n2_
                have HB := n3_
                clear n0_ n1_ n2_ n3_
                refine start_ (n := 9) (S := fun w' => w'.cell? ⟨gb127, 0, none⟩ = some (.int .u64 a0_0) ∧ w'.cell? ⟨gb127, 1, none⟩ = some (.int .i64 a0_1) ∧ w'.cell? ⟨gb127, 2, none⟩ = some (.int .i64 a3) ∧ w'.cell? ⟨gb127, 3, none⟩ = some (.int .i64 a0_3) ∧ w'.cell? ⟨gb127, 4, none⟩ = some (.int .i64 a0_4) ∧ w'.cell? ⟨gb127, 5, none⟩ = some (.int .u64 a0_5) ∧ w'.cell? ⟨gb128, 0, none⟩ = some (.int .u64 a1_0) ∧ w'.cell? ⟨gb128, 1, none⟩ = some (.int .i64 a1_1) ∧ w'.cell? ⟨gb128, 2, none⟩ = some (.int .i64 a3) ∧ w'.cell? ⟨gb128, 3, none⟩ = some (.int .i64 a1_3) ∧ w'.cell? ⟨gb128, 4, none⟩ = some (.int .i64 a1_4) ∧ w'.cell? ⟨gb128, 5, none⟩ = some (.int .u64 a1_5)) (ds := []) #[false, false, false, false, false, false, false, false, false] (by kernel_rfl) rfl rfl ⟨(blk_cell BK127.out 0).trans rfl, (blk_cell BK127.out 1).trans rfl, (blk_cell BK127.out 2).trans rfl, (blk_cell BK127.out 3).trans rfl, (blk_cell BK127.out 4).trans rfl, (blk_cell BK127.out 5).trans rfl, (blk_cell BK128.out 0).trans rfl, (blk_cell BK128.out 1).trans rfl, (blk_cell BK128.out 2).trans rfl, (blk_cell BK128.out 3).trans rfl, (blk_cell BK128.out 4).trans rfl, (blk_cell BK128.out 5).trans rfl⟩ (fun hHeld => ?_); refine with_tabW jobberlaw12_OrderRank.tab5 jobberlaw12_OrderRank.bits5 (fun HT_ HW_ => ?_)
                generalize wc.drew = w110 at BK127 BK128 BK129 HB hHeld ⊢
                refine pure_ (i := 7) (N := some 55) (v := ?_) (a' := ?_) #[false, false, false, false, false, false, false, true, false] rfl rfl (any_of HT_.out (by kernel_rfl)) (fun _ _ _ h => h) (Or.inl ⟨by rfl, ?_⟩) ?_ ?_
                rotate_left
                · intro w'
                  go_simp
                  with_reducible rfl
                rotate_left
                · simp only [Act.put, List.setIfInBounds_toArray, List.set_cons_zero, List.set_cons_succ, i64_w, i32_w]
                  rfl
                refine take_ (i := 0) (N := some 48) (v := ?_) (a' := ?_) #[true, false, false, false, false, false, false, true, false] rfl rfl (take_ofW HT_.out HW_.out (by kernel_rfl)) (fun _ _ _ h => h) (Or.inl ⟨by rfl, ?_⟩) hHeld ?_ ?_
                rotate_left
                · rintro w' ⟨s0, s1, s2, s3, s4, s5, s6, s7, s8, s9, s10, s11⟩
                  go_simp
                  with_reducible rfl
                rotate_left
                · simp only [Act.put, List.setIfInBounds_toArray, List.set_cons_zero, List.set_cons_succ, i64_w, i32_w]
                  rfl
                refine take_ (i := 1) (N := some 49) (v := ?_) (a' := ?_) #[true, true, false, false, false, false, false, true, false] rfl rfl (take_ofW HT_.out HW_.out (by kernel_rfl)) (fun _ _ _ h => h) (Or.inl ⟨by rfl, ?_⟩) hHeld ?_ ?_
                rotate_left
                · rintro w' ⟨s0, s1, s2, s3, s4, s5, s6, s7, s8, s9, s10, s11⟩
                  go_simp
                  with_reducible rfl
                rotate_left
                · simp only [Act.put, List.setIfInBounds_toArray, List.set_cons_zero, List.set_cons_succ, i64_w, i32_w]
                  rfl
                refine take_ (i := 3) (N := some 51) (v := ?_) (a' := ?_) #[true, true, false, true, false, false, false, true, false] rfl rfl (take_ofW HT_.out HW_.out (by kernel_rfl)) (fun _ _ _ h => h) (Or.inl ⟨by rfl, ?_⟩) hHeld ?_ ?_
                rotate_left
                · rintro w' ⟨s0, s1, s2, s3, s4, s5, s6, s7, s8, s9, s10, s11⟩
                  go_simp
                  with_reducible rfl
                rotate_left
                · simp only [Act.put, List.setIfInBounds_toArray, List.set_cons_zero, List.set_cons_succ, i64_w, i32_w]
                  rfl
                refine take_ (i := 4) (N := some 52) (v := ?_) (a' := ?_) #[true, true, false, true, true, false, false, true, false] rfl rfl (take_ofW HT_.out HW_.out (by kernel_rfl)) (fun _ _ _ h => h) (Or.inl ⟨by rfl, ?_⟩) hHeld ?_ ?_
                rotate_left
                · rintro w' ⟨s0, s1, s2, s3, s4, s5, s6, s7, s8, s9, s10, s11⟩
                  go_simp
                  with_reducible rfl
                rotate_left
                · simp only [Act.put, List.setIfInBounds_toArray, List.set_cons_zero, List.set_cons_succ, i64_w, i32_w]
                  rfl
                refine one_ (i := 2) (N := some 50) #[true, true, true, true, true, false, false, true, false] rfl rfl (one_of HT_.out (by kernel_rfl)) (by decide) (fun K hK => ?_)
                refine goes_ Try.func17 (by kernel_rfl) rfl #[.agg #[.int .u64 a0_0, .int .i64 a0_1, .int .i64 a3, .int .i64 a0_3, .int .i64 a0_4, .int .u64 a0_5], .agg #[.int .u64 a1_0, .int .i64 a1_1, .int .i64 a3, .int .i64 a1_3, .int .i64 a1_4, .int .u64 a1_5]] (by rfl) rfl rfl (by (try simp only [List.map_toArray, List.map_cons, List.map_nil]); first | done | rfl | (simp only [List.length_drop, List.length_take]; rfl)) ?_
                with_reducible refine (order_Ahead.calls kj32 a0_0 a0_1 a3 a0_3 a0_4 a0_5 a1_0 a1_1 a3 a1_3 a1_4 a1_5 t132 _ A51.out).mono ?_
                rintro e w111 ⟨rfl, hb⟩
                refine ⟨_, rfl, ?_⟩
                have n0_ := Aside0.mk (blk_below (g := gb127) (o := .cells #[.int .u64 a0_0, .int .i64 a0_1, .int .i64 a3, .int .i64 a0_3, .int .i64 a0_4, .int .u64 a0_5] 33 (0, 0)) (by (with_reducible repeat (first | refine blk_drewN ?_ _ | refine blk_drew ?_ | refine blk_alloc ?_ _)); exact BK127.out) hb)
                have n1_ := Aside0.mk (blk_below (g := gb128) (o := .cells #[.int .u64 a1_0, .int .i64 a1_1, .int .i64 a3, .int .i64 a1_3, .int .i64 a1_4, .int .u64 a1_5] 33 (0, 0)) (by (with_reducible repeat (first | refine blk_drewN ?_ _ | refine blk_drew ?_ | refine blk_alloc ?_ _)); exact BK128.out) hb)
                have n2_ := Aside0.mk (blk_below (g := gb129) (o := .cells #[.int .u64 a2_0, .int .i64 a2_1, .int .i64 a3, .int .i64 a2_3, .int .i64 a2_4, .int .u64 a2_5] 33 (0, 0)) (by (with_reducible repeat (first | refine blk_drewN ?_ _ | refine blk_drew ?_ | refine blk_alloc ?_ _)); exact BK129.out) hb)
                have n3_ := Aside0.mk (below_step (by repeat (first | (with_reducible first | exact HB.out | apply below_alloc | apply pw_below_drewN | apply below_drew1 | refine below_set ?_ GE127.out | refine below_set ?_ GE128.out | refine below_set ?_ GE129.out) | exact HB.out)) hb)
                clear BK127
                clear BK128
                clear BK129
                clear HB
                have BK127 := n0_
                have BK128 := n1_
                have BK129 := n2_
                have HB := n3_
                clear n0_ n1_ n2_ n3_
                (try clear hb)
                (try clear hb2)
                (try clear hk)
                (try clear hi)
                refine hK.out _ _ ⟨(blk_cell BK127.out 0).trans rfl, (blk_cell BK127.out 1).trans rfl, (blk_cell BK127.out 2).trans rfl, (blk_cell BK127.out 3).trans rfl, (blk_cell BK127.out 4).trans rfl, (blk_cell BK127.out 5).trans rfl, (blk_cell BK128.out 0).trans rfl, (blk_cell BK128.out 1).trans rfl, (blk_cell BK128.out 2).trans rfl, (blk_cell BK128.out 3).trans rfl, (blk_cell BK128.out 4).trans rfl, (blk_cell BK128.out 5).trans rfl⟩ (fun hHeld => ?_)
                clear hK K
                refine norm_ (a' := ?_) ?_ ?_
                rotate_left
                · show Act.put _ (some 50) _ = _
                  simp only [Act.put, List.setIfInBounds_toArray, List.set_cons_zero, List.set_cons_succ, i64_w, i32_w]
                  rfl
                refine one_ (i := 5) (N := some 53) #[true, true, true, true, true, true, false, true, false] rfl rfl (one_of HT_.out (by kernel_rfl)) (by decide) (fun K hK => ?_)
                refine goes_ Try.func17 (by kernel_rfl) rfl #[.agg #[.int .u64 a1_0, .int .i64 a1_1, .int .i64 a3, .int .i64 a1_3, .int .i64 a1_4, .int .u64 a1_5], .agg #[.int .u64 a0_0, .int .i64 a0_1, .int .i64 a3, .int .i64 a0_3, .int .i64 a0_4, .int .u64 a0_5]] (by rfl) rfl rfl (by (try simp only [List.map_toArray, List.map_cons, List.map_nil]); first | done | rfl | (simp only [List.length_drop, List.length_take]; rfl)) ?_
                with_reducible refine (order_Ahead.calls kj32 a1_0 a1_1 a3 a1_3 a1_4 a1_5 a0_0 a0_1 a3 a0_3 a0_4 a0_5 t133 _ A52.out).mono ?_
                rintro e w112 ⟨rfl, hb⟩
                refine ⟨_, rfl, ?_⟩
                have n0_ := Aside0.mk (blk_below (g := gb127) (o := .cells #[.int .u64 a0_0, .int .i64 a0_1, .int .i64 a3, .int .i64 a0_3, .int .i64 a0_4, .int .u64 a0_5] 33 (0, 0)) (by (with_reducible repeat (first | refine blk_drewN ?_ _ | refine blk_drew ?_ | refine blk_alloc ?_ _)); exact BK127.out) hb)
                have n1_ := Aside0.mk (blk_below (g := gb128) (o := .cells #[.int .u64 a1_0, .int .i64 a1_1, .int .i64 a3, .int .i64 a1_3, .int .i64 a1_4, .int .u64 a1_5] 33 (0, 0)) (by (with_reducible repeat (first | refine blk_drewN ?_ _ | refine blk_drew ?_ | refine blk_alloc ?_ _)); exact BK128.out) hb)
                have n2_ := Aside0.mk (blk_below (g := gb129) (o := .cells #[.int .u64 a2_0, .int .i64 a2_1, .int .i64 a3, .int .i64 a2_3, .int .i64 a2_4, .int .u64 a2_5] 33 (0, 0)) (by (with_reducible repeat (first | refine blk_drewN ?_ _ | refine blk_drew ?_ | refine blk_alloc ?_ _)); exact BK129.out) hb)
                have n3_ := Aside0.mk (below_step (by repeat (first | (with_reducible first | exact HB.out | apply below_alloc | apply pw_below_drewN | apply below_drew1 | refine below_set ?_ GE127.out | refine below_set ?_ GE128.out | refine below_set ?_ GE129.out) | exact HB.out)) hb)
                clear BK127
                clear BK128
                clear BK129
                clear HB
                have BK127 := n0_
                have BK128 := n1_
                have BK129 := n2_
                have HB := n3_
                clear n0_ n1_ n2_ n3_
                (try clear hb)
                (try clear hb2)
                (try clear hk)
                (try clear hi)
                refine hK.out _ _ ⟨(blk_cell BK127.out 0).trans rfl, (blk_cell BK127.out 1).trans rfl, (blk_cell BK127.out 2).trans rfl, (blk_cell BK127.out 3).trans rfl, (blk_cell BK127.out 4).trans rfl, (blk_cell BK127.out 5).trans rfl, (blk_cell BK128.out 0).trans rfl, (blk_cell BK128.out 1).trans rfl, (blk_cell BK128.out 2).trans rfl, (blk_cell BK128.out 3).trans rfl, (blk_cell BK128.out 4).trans rfl, (blk_cell BK128.out 5).trans rfl⟩ (fun hHeld => ?_)
                clear hK K
                refine norm_ (a' := ?_) ?_ ?_
                rotate_left
                · show Act.put _ (some 53) _ = _
                  simp only [Act.put, List.setIfInBounds_toArray, List.set_cons_zero, List.set_cons_succ, i64_w, i32_w]
                  rfl
                refine pure_ (i := 6) (N := some 54) (v := ?_) (a' := ?_) #[true, true, true, true, true, true, true, true, false] rfl rfl (any_of HT_.out (by kernel_rfl)) (fun _ _ _ h => h) (Or.inl ⟨by rfl, ?_⟩) ?_ ?_
                rotate_left
                · intro w'
                  go_simp
                  with_reducible rfl
                rotate_left
                · simp only [Act.put, List.setIfInBounds_toArray, List.set_cons_zero, List.set_cons_succ, i64_w, i32_w]
                  rfl
                refine pure_ (i := 8) (N := some 56) (v := ?_) (a' := ?_) #[true, true, true, true, true, true, true, true, true] rfl rfl (any_of HT_.out (by kernel_rfl)) (fun _ _ _ h => h) (Or.inl ⟨by rfl, ?_⟩) ?_ ?_
                rotate_left
                · intro w'
                  go_simp
                  with_reducible rfl
                rotate_left
                · simp only [Act.put, List.setIfInBounds_toArray, List.set_cons_zero, List.set_cons_succ, i64_w, i32_w]
                  rfl
                refine done_ (done_of HT_.out (by kernel_rfl)) ?_
                have hnb113 := NB127_128.out
                have hnc113 := NB128_127.out
                have hnb114 := NB127_129.out
                have hnc114 := NB129_127.out
                have hcz115_0 : w112.cell? ⟨gb127, 0, none⟩ = some (.int .u64 a0_0) := (blk_cell BK127.out 0).trans rfl
                have hcz115_1 : w112.cell? ⟨gb127, 1, none⟩ = some (.int .i64 a0_1) := (blk_cell BK127.out 1).trans rfl
                have hcz115_2 : w112.cell? ⟨gb127, 2, none⟩ = some (.int .i64 a3) := (blk_cell BK127.out 2).trans rfl
                have hcz115_3 : w112.cell? ⟨gb127, 3, none⟩ = some (.int .i64 a0_3) := (blk_cell BK127.out 3).trans rfl
                have hcz115_4 : w112.cell? ⟨gb127, 4, none⟩ = some (.int .i64 a0_4) := (blk_cell BK127.out 4).trans rfl
                have hcz115_5 : w112.cell? ⟨gb127, 5, none⟩ = some (.int .u64 a0_5) := (blk_cell BK127.out 5).trans rfl
                have hfz115_0 := blk_frozen BK127.out 0
                have hfz115_1 := blk_frozen BK127.out 1
                have hfz115_2 := blk_frozen BK127.out 2
                have hfz115_3 := blk_frozen BK127.out 3
                have hfz115_4 := blk_frozen BK127.out 4
                have hfz115_5 := blk_frozen BK127.out 5
                have hnb116 := NB128_129.out
                have hnc116 := NB129_128.out
                have hcz117_0 : w112.cell? ⟨gb128, 0, none⟩ = some (.int .u64 a1_0) := (blk_cell BK128.out 0).trans rfl
                have hcz117_1 : w112.cell? ⟨gb128, 1, none⟩ = some (.int .i64 a1_1) := (blk_cell BK128.out 1).trans rfl
                have hcz117_2 : w112.cell? ⟨gb128, 2, none⟩ = some (.int .i64 a3) := (blk_cell BK128.out 2).trans rfl
                have hcz117_3 : w112.cell? ⟨gb128, 3, none⟩ = some (.int .i64 a1_3) := (blk_cell BK128.out 3).trans rfl
                have hcz117_4 : w112.cell? ⟨gb128, 4, none⟩ = some (.int .i64 a1_4) := (blk_cell BK128.out 4).trans rfl
                have hcz117_5 : w112.cell? ⟨gb128, 5, none⟩ = some (.int .u64 a1_5) := (blk_cell BK128.out 5).trans rfl
                have hfz117_0 := blk_frozen BK128.out 0
                have hfz117_1 := blk_frozen BK128.out 1
                have hfz117_2 := blk_frozen BK128.out 2
                have hfz117_3 := blk_frozen BK128.out 3
                have hfz117_4 := blk_frozen BK128.out 4
                have hfz117_5 := blk_frozen BK128.out 5
                try go_wp2_with (first | ((with_reducible refine gate_callee (f := 17) rfl ?_); refine goesL_ (some 59) rfl rfl Try.func17 (by kernel_rfl) rfl #[.agg #[.int .u64 a0_0, .int .i64 a0_1, .int .i64 a3, .int .i64 a0_3, .int .i64 a0_4, .int .u64 a0_5], .agg #[.int .u64 a1_0, .int .i64 a1_1, .int .i64 a3, .int .i64 a1_3, .int .i64 a1_4, .int .u64 a1_5]] rfl (by (try simp only [List.map_toArray, List.map_cons, List.map_nil]); first | done | rfl | (simp only [List.length_drop, List.length_take]; rfl)) ?_; (with_reducible refine (order_Ahead.calls kj32 a0_0 a0_1 a3 a0_3 a0_4 a0_5 a1_0 a1_1 a3 a1_3 a1_4 a1_5 false _ A57.out).mono ?_); rintro e w118 ⟨rfl, hb⟩; refine ⟨_, rfl, ?_⟩; have n0_ := Aside0.mk (blk_below (g := gb127) (o := .cells #[.int .u64 a0_0, .int .i64 a0_1, .int .i64 a3, .int .i64 a0_3, .int .i64 a0_4, .int .u64 a0_5] 33 (0, 0)) (by (with_reducible repeat (first | refine blk_drewN ?_ _ | refine blk_drew ?_ | refine blk_alloc ?_ _)); exact BK127.out) hb); have n1_ := Aside0.mk (blk_below (g := gb128) (o := .cells #[.int .u64 a1_0, .int .i64 a1_1, .int .i64 a3, .int .i64 a1_3, .int .i64 a1_4, .int .u64 a1_5] 33 (0, 0)) (by (with_reducible repeat (first | refine blk_drewN ?_ _ | refine blk_drew ?_ | refine blk_alloc ?_ _)); exact BK128.out) hb); have n2_ := Aside0.mk (blk_below (g := gb129) (o := .cells #[.int .u64 a2_0, .int .i64 a2_1, .int .i64 a3, .int .i64 a2_3, .int .i64 a2_4, .int .u64 a2_5] 33 (0, 0)) (by (with_reducible repeat (first | refine blk_drewN ?_ _ | refine blk_drew ?_ | refine blk_alloc ?_ _)); exact BK129.out) hb); have n3_ := Aside0.mk (below_step (by repeat (first | (with_reducible first | exact HB.out | apply below_alloc | apply pw_below_drewN | apply below_drew1 | refine below_set ?_ GE127.out | refine below_set ?_ GE128.out | refine below_set ?_ GE129.out) | exact HB.out)) hb); clear BK127; clear BK128; clear BK129; clear HB; have BK127 := n0_; have BK128 := n1_; have BK129 := n2_; have HB := n3_; clear n0_ n1_ n2_ n3_; (try clear hb); (try clear hb2); (try clear hk); (try clear hi)) | (go_at_call 10; (with_reducible refine (jobberlaw12_lives.calls  t139 _ A109.out).mono ?_); rintro e w119 ⟨rfl, hb⟩; have n0_ := Aside0.mk (blk_below (g := gb127) (o := .cells #[.int .u64 a0_0, .int .i64 a0_1, .int .i64 a3, .int .i64 a0_3, .int .i64 a0_4, .int .u64 a0_5] 33 (0, 0)) (by (with_reducible repeat (first | refine blk_drewN ?_ _ | refine blk_drew ?_ | refine blk_alloc ?_ _)); exact BK127.out) hb); have n1_ := Aside0.mk (blk_below (g := gb128) (o := .cells #[.int .u64 a1_0, .int .i64 a1_1, .int .i64 a3, .int .i64 a1_3, .int .i64 a1_4, .int .u64 a1_5] 33 (0, 0)) (by (with_reducible repeat (first | refine blk_drewN ?_ _ | refine blk_drew ?_ | refine blk_alloc ?_ _)); exact BK128.out) hb); have n2_ := Aside0.mk (blk_below (g := gb129) (o := .cells #[.int .u64 a2_0, .int .i64 a2_1, .int .i64 a3, .int .i64 a2_3, .int .i64 a2_4, .int .u64 a2_5] 33 (0, 0)) (by (with_reducible repeat (first | refine blk_drewN ?_ _ | refine blk_drew ?_ | refine blk_alloc ?_ _)); exact BK129.out) hb); have n3_ := Aside0.mk (below_step (by repeat (first | (with_reducible first | exact HB.out | apply below_alloc | apply pw_below_drewN | apply below_drew1 | refine below_set ?_ GE127.out | refine below_set ?_ GE128.out | refine below_set ?_ GE129.out) | exact HB.out)) hb); clear BK127; clear BK128; clear BK129; clear HB; have BK127 := n0_; have BK128 := n1_; have BK129 := n2_; have HB := n3_; clear n0_ n1_ n2_ n3_; (try clear hb); (try clear hb2); (try clear hk); (try clear hi)))
                go_ret
                exact ⟨by first | rfl | (simp [errW_none, errW_some] <;> rfl) | (simp [*, errW_none, errW_some] <;> rfl), by repeat (first | (with_reducible first | exact HB.out | apply below_alloc | apply pw_below_drewN | apply below_drew1 | refine below_set ?_ GE127.out | refine below_set ?_ GE128.out | refine below_set ?_ GE129.out) | exact HB.out)⟩

end Go.Proofs.Ytlihfiajbhpokaa.Orr
