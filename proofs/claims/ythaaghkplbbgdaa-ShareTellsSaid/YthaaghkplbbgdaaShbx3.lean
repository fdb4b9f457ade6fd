/- Printed by this session's wip/drive.py over the translation; some functions by hand. -/
import Derived.Test.YthaaghkplbbgdaaShbx0
import Derived.Test.YthaaghkplbbgdaaShbx1
import Derived.Test.YthaaghkplbbgdaaShbx2
namespace Go.Proofs.Ythaaghkplbbgdaa.Shb
open Go.RowKit Go.Proofs.YthaaghkplbbgdaaW.PrintWords Go.Proofs.YthaaghkplbbgdaaW.PrintLast Go.Proofs.YthaaghkplbbgdaaW.PrintMore
attribute [local go_sem] max2_int min2_int max_two min_two max_three min_three max_four min_four   -- for this text's walks alone
set_option linter.unusedVariables false
set_option linter.unusedSimpArgs false

/-! ### share_parts: function 47 -/
def share_parts.l0 : Nat → Int → Int → Int → List Int → List (S46) → Int → Int → Option (List Int)
  | 0, _, _, _, _, _, _, _ => none
  | k + 1, x1, x2, x3, x9, x17, x18, x19 => if x19 < x18 then (if 0 ≤ x19 then (if x19 < (x17.length : Int) then ((limits_Trim.f x2 ((rd_T46 x17 x19).f4)).bind fun t129 => ((coin_Div.f k x1 t129 x3 1).bind fun bt130 => ((limits_Trim.f x2 bt130.1).bind fun t132 => (if x19 < (x9.length : Int) then (share_parts.l0 k x1 x2 x3 (x9.set (x19 : Int).toNat t132) x17 x18 (wrap64 (x19 + 1))) else (none))))) else (none)) else (none)) else (some x9)
def share_parts.f (k : Nat) (l0 : List (S46)) (a1 : Int) (a2 : Int) (a3 : Int) : Option (List Int) := if 0 ≤ (l0.length : Int) then (if ((l0.length : Int) : Int).toNat ≤ 35184372088832 then (share_parts.l0 k a1 a2 a3 (List.replicate ((l0.length : Int) : Int).toNat 0) l0 (l0.length : Int) 0) else (none)) else (none)
theorem share_parts.mono_l : ∀ k, (∀ y0 y1 y2 y3 y4 y5 y6, LeO (share_parts.l0 k y0 y1 y2 y3 y4 y5 y6) (share_parts.l0 (k + 1) y0 y1 y2 y3 y4 y5 y6))
  | 0 => fun _ _ _ _ _ _ _ r h => by simp [share_parts.l0] at h
  | k + 1 => by
    have ih0 := share_parts.mono_l k
    · intro y0 y1 y2 y3 y4 y5 y6
      unfold share_parts.l0
      repeat' first
      | (with_reducible exact ih0 _ _ _ _ _ _ _)
      | (with_reducible exact coin_Div.mono _ _ _ _ _)
      | (with_reducible exact LeO.refl _)
      | (with_reducible exact LeO.none _)
      | (with_reducible refine LeO.ite ?_ ?_)
      | (with_reducible refine LeO.bind ?_ (fun _ => ?_))
      | exact ih0 _ _ _ _ _ _ _
      | exact coin_Div.mono _ _ _ _ _
      | exact LeO.none _
      | refine LeO.ite ?_ ?_
      | refine LeO.bind ?_ (fun _ => ?_)
theorem share_parts.mono : ∀ a0 a1 a2 a3 k, LeO (share_parts.f k a0 a1 a2 a3) (share_parts.f (k + 1) a0 a1 a2 a3) := by
  intro a0 a1 a2 a3 k
  have ih0 := share_parts.mono_l k
  unfold share_parts.f
  repeat' first
      | (with_reducible exact ih0 _ _ _ _ _ _ _)
      | (with_reducible exact coin_Div.mono _ _ _ _ _)
      | (with_reducible exact LeO.refl _)
      | (with_reducible exact LeO.none _)
      | (with_reducible refine LeO.ite ?_ ?_)
      | (with_reducible refine LeO.bind ?_ (fun _ => ?_))
      | exact ih0 _ _ _ _ _ _ _
      | exact coin_Div.mono _ _ _ _ _
      | exact LeO.none _
      | refine LeO.ite ?_ ?_
      | refine LeO.bind ?_ (fun _ => ?_)
set_option maxHeartbeats 8000000 in
set_option maxRecDepth 100000 in
theorem share_parts.calls (k : Nat) (A0 : Option Addr) (c0 : Nat) (l0 : List (S46)) (a1 : Int) (a2 : Int) (a3 : Int) (r : List Int) (w : World) (hr0 : Kd.C k46 w A0 l0.length l0) (hc0 : l0.length ≤ c0) (h : share_parts.f k l0 a1 a2 a3 = some r) :
    Calls Try.prog 47 #[.slice A0 l0.length c0, .int .i64 a1, .int .i64 a2, .int .i64 a3] w fun e w' => ∃ v0_ : Value, e = .returned (v0_) ∧ Kd.R (Kd.int .i64) 2 w' w.heap.size (fun _ => True) v0_ r ∧ Below w.heap.size w w' := by
  have hu46 := Try.underlying46
  have HR0 := Aside0.mk hr0
  have HC0 := Aside0.mk hc0
  clear hr0 hc0
  have HB := Aside0.mk (Below.refl w.heap.size w)
  have H : (if 0 ≤ (l0.length : Int) then (if ((l0.length : Int) : Int).toNat ≤ 35184372088832 then (share_parts.l0 k a1 a2 a3 (List.replicate ((l0.length : Int) : Int).toNat 0) l0 (l0.length : Int) 0) else (none)) else (none)) = some r := h
  clear h
  by_cases c5 : 0 ≤ (l0.length : Int)
  · rw [if_pos c5] at H
    have c5b0 := eq_true c5
    have c5b1 : decide (0 ≤ (l0.length : Int)) = true := decide_eq_true c5
    clear c5
    by_cases c6 : ((l0.length : Int) : Int).toNat ≤ 35184372088832
    · rw [if_pos c6] at H
      have c6b0 := eq_true c6
      have c6b1 : decide (((l0.length : Int) : Int).toNat ≤ 35184372088832) = true := decide_eq_true c6
      clear c6
      obtain ⟨y124, hy124⟩ : ∃ y_ : List Int, y_ = (List.replicate ((l0.length : Int) : Int).toNat 0) := ⟨_, rfl⟩
      replace H : (share_parts.l0 k a1 a2 a3 y124 l0 (l0.length : Int) 0) = some r := by first | (rw [hy124]; with_reducible exact H) | (have H2_ := (Option.bind_some _ _).symm.trans H; rw [hy124]; with_reducible exact H2_) | (have H2_ := (Option.bind_some _ _).symm.trans H; with_reducible exact H2_) | with_reducible exact H | (rw [hy124]; exact H) | exact H
      have Ny124 := Aside0.mk hy124
      clear hy124
      have H' := Aside0.mk H
      clear H
      go_enter Try.func47, Try.ntmps47
      go_wp2_with (first | ((with_reducible refine gate_dst (N := 16) rfl ?_); refine Kd.R_make (Kd.int .i64) _ 2 rfl (N := 16) rfl 38 _ _ rfl (l0.length : Int) rfl rfl Try.underlying38 (.int .i64 0) 8 info2 rfl (by decide) (by omega) 0 (ok := fun _ => True) (okp := fun _ => True) rfl (fun _ hk => hk) trivial (of_decide_eq_true (by first | (with_reducible assumption) | assumption)) (Nat.le_trans (Nat.mul_le_mul_right _ (of_decide_eq_true (by first | (with_reducible assumption) | assumption) : (l0.length : Int).toNat ≤ 35184372088832)) (by omega)) (Below.refl _ _) (Nat.le_refl _) ?_; intro v125 w7 ho8 hb hg_ hnew_; clear hg_ hnew_; (first | rw [← Ny124.out] at ho8 | (simp only [Int.reduceToNat] at ho8; rw [← Ny124.out] at ho8)); have n0_ := Aside0.mk (Kd.R_lower ho8 (below_size (by repeat (first | (with_reducible first | exact HB.out | apply below_alloc | apply pw_below_drewN | apply below_drew1) | exact HB.out)))); have n1_ := Aside0.mk (below_step (by repeat (first | (with_reducible first | exact HB.out | apply below_alloc | apply pw_below_drewN | apply below_drew1) | exact HB.out)) hb); clear HB; have HO126 := n0_; have HB := n1_; clear n0_ n1_; clear hb ho8))
      go_loopg [19] k (fun kq v19 w' => ∃ (x9_1 : List Int) (x19_1 : Int), v19 = .int .i64 x19_1 ∧ Aside0 (share_parts.l0 kq a1 a2 a3 x9_1 l0 (l0.length : Int) x19_1 = some r) ∧ Aside0 (kq ≤ k) ∧ Aside0 (Kd.R (Kd.int .i64) 2 w' w.heap.size (fun _ => True) v125 x9_1) ∧ Aside0 (Below w.heap.size w w'))
      case atStart => exact ⟨(y124), (0), (by first | rfl | (simp; done) | (simp [*]; done)), H', ⟨Nat.le_refl _⟩, ⟨by (with_reducible repeat (first | apply Kd.R_alloc | apply Kd.R_drewN | apply Kd.R_drew)); exact HO126.out⟩, ⟨by repeat (first | (with_reducible first | exact HB.out | apply below_alloc | apply pw_below_drewN | apply below_drew1) | exact HB.out)⟩⟩
      case round =>
        clear H'
        try clear p2
        try clear c4
        try clear c5
        try clear c5b0
        try clear c5b1
        try clear c6
        try clear c6b0
        try clear c6b1
        obtain ⟨x9_1, x19_1, rfl, HA, HK1, HO_9, HB⟩ := hrel
        cases gk with
        | zero => exact absurd HA.out (by simp [share_parts.l0])
        | succ k1 =>
          have H := HA.out
          clear HA
          simp only [share_parts.l0] at H
          by_cases c9 : x19_1 < (l0.length : Int)
          · rw [if_pos c9] at H
            have c9b0 : decide (x19_1 < (l0.length : Int)) = true := decide_eq_true c9
            clear c9
            by_cases c10 : 0 ≤ x19_1
            · rw [if_pos c10] at H
              have c10b0 : decide (0 ≤ x19_1) = true := decide_eq_true c10
              clear c10
              by_cases c11 : x19_1 < (l0.length : Int)
              · rw [if_pos c11] at H
                have c11b0 : decide (x19_1 < (l0.length : Int)) = true := decide_eq_true c11
                clear c11
                replace H := Option.bind_eq_some_iff.mp H
                obtain ⟨t129, A120, H⟩ := H
                replace H : ((coin_Div.f k1 a1 t129 a3 1).bind fun bt130 => ((limits_Trim.f a2 bt130.1).bind fun t132 => (if x19_1 < (x9_1.length : Int) then (share_parts.l0 k1 a1 a2 a3 (x9_1.set (x19_1 : Int).toNat t132) l0 (l0.length : Int) (wrap64 (x19_1 + 1))) else (none)))) = some r := H
                have A12 := Aside0.mk A120
                clear A120
                replace H := Option.bind_eq_some_iff.mp H
                obtain ⟨⟨t130, t131⟩, A130, H⟩ := H
                replace H : ((limits_Trim.f a2 t130).bind fun t132 => (if x19_1 < (x9_1.length : Int) then (share_parts.l0 k1 a1 a2 a3 (x9_1.set (x19_1 : Int).toNat t132) l0 (l0.length : Int) (wrap64 (x19_1 + 1))) else (none))) = some r := H
                have A13 := Aside0.mk A130
                clear A130
                replace H := Option.bind_eq_some_iff.mp H
                obtain ⟨t132, A140, H⟩ := H
                replace H : (if x19_1 < (x9_1.length : Int) then (share_parts.l0 k1 a1 a2 a3 (x9_1.set (x19_1 : Int).toNat t132) l0 (l0.length : Int) (wrap64 (x19_1 + 1))) else (none)) = some r := H
                have A14 := Aside0.mk A140
                clear A140
                by_cases c15 : x19_1 < (x9_1.length : Int)
                · rw [if_pos c15] at H
                  have c15b0 : decide (x19_1 < (x9_1.length : Int)) = true := decide_eq_true c15
                  clear c15
                  obtain ⟨y133, hy133⟩ : ∃ y_ : List Int, y_ = (x9_1.set (x19_1 : Int).toNat t132) := ⟨_, rfl⟩
                  replace H : (share_parts.l0 k1 a1 a2 a3 y133 l0 (l0.length : Int) (wrap64 (x19_1 + 1))) = some r := by first | (rw [hy133]; with_reducible exact H) | (have H2_ := (Option.bind_some _ _).symm.trans H; rw [hy133]; with_reducible exact H2_) | (have H2_ := (Option.bind_some _ _).symm.trans H; with_reducible exact H2_) | with_reducible exact H | (rw [hy133]; exact H) | exact H
                  have Ny133 := Aside0.mk hy133
                  clear hy133
                  have H' := Aside0.mk H
                  clear H
                  have p127 : 0 ≤ (x19_1 : Int) := of_decide_eq_true (by first | (with_reducible assumption) | assumption)
                  have q127 : x19_1 < (l0.length : Int) := of_decide_eq_true (by first | (with_reducible assumption) | assumption)
                  obtain ⟨ad127, e127, hx127_0, hx127_1, hx127_2, hx127_3, hx127_4, hx127_5⟩ := at_T46 HR0.out x19_1 p127 q127
                  cases e127
                  replace hx127_0 := (HB.out.cell (World.block_lt_of_cell? w _ hx127_0)).trans hx127_0
                  replace hx127_1 := (HB.out.cell (World.block_lt_of_cell? w _ hx127_1)).trans hx127_1
                  replace hx127_2 := (HB.out.cell (World.block_lt_of_cell? w _ hx127_2)).trans hx127_2
                  replace hx127_3 := (HB.out.cell (World.block_lt_of_cell? w _ hx127_3)).trans hx127_3
                  replace hx127_4 := (HB.out.cell (World.block_lt_of_cell? w _ hx127_4)).trans hx127_4
                  replace hx127_5 := (HB.out.cell (World.block_lt_of_cell? w _ hx127_5)).trans hx127_5
                  replace p127 := eq_true p127
                  replace q127 := eq_true q127
                  go_wp2_with (first | ((with_reducible refine gate_dst (N := 11) rfl ?_); refine box_event ?hg (N := 11) ?hd (cs := #[.int .u64 0, .int .i64 0, .int .i64 0, .int .i64 0, .int .i64 0, .int .u64 0]) (t := 46) ?hr ?_; (case hd => rfl); (case hg => rfl); (case hr => first | (go_simp; done) | (go_simp; rfl)); intro gb128 hg w17 hbox hb; have n0_ := Aside0.mk (Kd.R_below (by (with_reducible repeat (first | apply Kd.R_alloc | apply Kd.R_drewN | apply Kd.R_drew)); exact HO_9.out) hb); have n1_ := Aside0.mk (below_step (by repeat (first | (with_reducible first | exact HB.out | apply below_alloc | apply pw_below_drewN | apply below_drew1) | exact HB.out)) hb); have n2_ := Aside0.mk (hbox); have n3_ := Aside0.mk ((by rw [hg]; exact (below_size (by repeat (first | (with_reducible first | exact HB.out | apply below_alloc | apply pw_below_drewN | apply below_drew1) | exact HB.out))) : w.heap.size ≤ gb128)); have n4_ := Aside0.mk ((by rw [hg]; exact (below_size (by repeat (first | (with_reducible first | exact HB.out | apply below_alloc | apply pw_below_drewN | apply below_drew1) | exact HB.out))) : w.heap.size ≤ gb128)); clear HO_9; clear HB; have HO_9 := n0_; have HB := n1_; have BK128 := n2_; have GW128 := n3_; have GE128 := n4_; clear n0_ n1_ n2_ n3_ n4_; clear hb hbox hg; have hcz18_0 : w17.cell? ⟨gb128, 0, none⟩ = some (.int .u64 0) := (blk_cell BK128.out 0).trans rfl; have hcz18_1 : w17.cell? ⟨gb128, 1, none⟩ = some (.int .i64 0) := (blk_cell BK128.out 1).trans rfl; have hcz18_2 : w17.cell? ⟨gb128, 2, none⟩ = some (.int .i64 0) := (blk_cell BK128.out 2).trans rfl; have hcz18_3 : w17.cell? ⟨gb128, 3, none⟩ = some (.int .i64 0) := (blk_cell BK128.out 3).trans rfl; have hcz18_4 : w17.cell? ⟨gb128, 4, none⟩ = some (.int .i64 0) := (blk_cell BK128.out 4).trans rfl; have hcz18_5 : w17.cell? ⟨gb128, 5, none⟩ = some (.int .u64 0) := (blk_cell BK128.out 5).trans rfl; have hfz18_0 := blk_frozen BK128.out 0; have hfz18_1 := blk_frozen BK128.out 1; have hfz18_2 := blk_frozen BK128.out 2; have hfz18_3 := blk_frozen BK128.out 3; have hfz18_4 := blk_frozen BK128.out 4; have hfz18_5 := blk_frozen BK128.out 5) | ((with_reducible refine gate_callee (f := 14) rfl ?_); refine goesL_ (some 29) rfl rfl Try.func14 (by kernel_rfl) rfl #[.int .i64 a2, .int .i64 ((rd_T46 l0 x19_1).f4)] rfl (by (try simp only [List.map_toArray, List.map_cons, List.map_nil]); first | done | rfl | (simp only [List.length_drop, List.length_take]; rfl)) ?_; (with_reducible refine (limits_Trim.calls a2 ((rd_T46 l0 x19_1).f4) t129 _ A12.out).mono ?_); rintro e w19 ⟨rfl, hb⟩; refine ⟨_, rfl, ?_⟩; have n0_ := Aside0.mk (Kd.R_below (by (with_reducible repeat (first | apply Kd.R_alloc | apply Kd.R_drewN | apply Kd.R_drew)); exact (Kd.R_mono (Kd.R_far (p := ⟨gb128, 5, none⟩) (Kd.R_far (p := ⟨gb128, 4, none⟩) (Kd.R_far (p := ⟨gb128, 3, none⟩) (Kd.R_far (p := ⟨gb128, 2, none⟩) (Kd.R_far (p := ⟨gb128, 1, none⟩) (Kd.R_far (p := ⟨gb128, 0, none⟩) (Kd.R_types HO_9.out BK128.out (by decide)) (fun _ hk => hk.2) (.int .u64 ((rd_T46 l0 x19_1).f0))) (fun _ hk => hk.2) (.int .i64 ((rd_T46 l0 x19_1).f1))) (fun _ hk => hk.2) (.int .i64 ((rd_T46 l0 x19_1).f2))) (fun _ hk => hk.2) (.int .i64 ((rd_T46 l0 x19_1).f3))) (fun _ hk => hk.2) (.int .i64 ((rd_T46 l0 x19_1).f4))) (fun _ hk => hk.2) (.int .u64 ((rd_T46 l0 x19_1).f5))) (fun _ h_ => h_.1))) hb); have n1_ := Aside0.mk (blk_below (g := gb128) (o := .cells #[.int .u64 ((rd_T46 l0 x19_1).f0), .int .i64 ((rd_T46 l0 x19_1).f1), .int .i64 ((rd_T46 l0 x19_1).f2), .int .i64 ((rd_T46 l0 x19_1).f3), .int .i64 ((rd_T46 l0 x19_1).f4), .int .u64 ((rd_T46 l0 x19_1).f5)] 46 (0, 0)) (by (with_reducible repeat (first | refine blk_drewN ?_ _ | refine blk_drew ?_ | refine blk_alloc ?_ _)); refine blk_put (cs := #[.int .u64 ((rd_T46 l0 x19_1).f0), .int .i64 ((rd_T46 l0 x19_1).f1), .int .i64 ((rd_T46 l0 x19_1).f2), .int .i64 ((rd_T46 l0 x19_1).f3), .int .i64 ((rd_T46 l0 x19_1).f4), .int .u64 0]) ?_ 5 _ rfl; (with_reducible repeat (first | refine blk_drewN ?_ _ | refine blk_drew ?_ | refine blk_alloc ?_ _)); refine blk_put (cs := #[.int .u64 ((rd_T46 l0 x19_1).f0), .int .i64 ((rd_T46 l0 x19_1).f1), .int .i64 ((rd_T46 l0 x19_1).f2), .int .i64 ((rd_T46 l0 x19_1).f3), .int .i64 0, .int .u64 0]) ?_ 4 _ rfl; (with_reducible repeat (first | refine blk_drewN ?_ _ | refine blk_drew ?_ | refine blk_alloc ?_ _)); refine blk_put (cs := #[.int .u64 ((rd_T46 l0 x19_1).f0), .int .i64 ((rd_T46 l0 x19_1).f1), .int .i64 ((rd_T46 l0 x19_1).f2), .int .i64 0, .int .i64 0, .int .u64 0]) ?_ 3 _ rfl; (with_reducible repeat (first | refine blk_drewN ?_ _ | refine blk_drew ?_ | refine blk_alloc ?_ _)); refine blk_put (cs := #[.int .u64 ((rd_T46 l0 x19_1).f0), .int .i64 ((rd_T46 l0 x19_1).f1), .int .i64 0, .int .i64 0, .int .i64 0, .int .u64 0]) ?_ 2 _ rfl; (with_reducible repeat (first | refine blk_drewN ?_ _ | refine blk_drew ?_ | refine blk_alloc ?_ _)); refine blk_put (cs := #[.int .u64 ((rd_T46 l0 x19_1).f0), .int .i64 0, .int .i64 0, .int .i64 0, .int .i64 0, .int .u64 0]) ?_ 1 _ rfl; (with_reducible repeat (first | refine blk_drewN ?_ _ | refine blk_drew ?_ | refine blk_alloc ?_ _)); refine blk_put (cs := #[.int .u64 0, .int .i64 0, .int .i64 0, .int .i64 0, .int .i64 0, .int .u64 0]) ?_ 0 _ rfl; (with_reducible repeat (first | refine blk_drewN ?_ _ | refine blk_drew ?_ | refine blk_alloc ?_ _)); exact BK128.out) hb); have n2_ := Aside0.mk (below_step (by repeat (first | (with_reducible first | exact HB.out | apply below_alloc | apply pw_below_drewN | apply below_drew1 | refine below_set ?_ GE128.out) | exact HB.out)) hb); clear HO_9; clear BK128; clear HB; have HO_9 := n0_; have BK128 := n1_; have HB := n2_; clear n0_ n1_ n2_; (try clear hb); (try clear hb2); (try clear hk); (try clear hi)) | ((with_reducible refine gate_callee (f := 45) rfl ?_); refine goesL_ (some 31) rfl rfl Try.func45 (by kernel_rfl) rfl #[.int .i64 a1, .int .i64 t129, .int .i64 a3, .int .i64 1] rfl (by (try simp only [List.map_toArray, List.map_cons, List.map_nil]); first | done | rfl | (simp only [List.length_drop, List.length_take]; rfl)) ?_; (with_reducible refine (coin_Div.calls k1 a1 t129 a3 1 t130 t131 _ A13.out).mono ?_); rintro e w20 ⟨rfl, hb⟩; refine ⟨_, rfl, ?_⟩; have n0_ := Aside0.mk (Kd.R_below (by (with_reducible repeat (first | apply Kd.R_alloc | apply Kd.R_drewN | apply Kd.R_drew)); exact HO_9.out) hb); have n1_ := Aside0.mk (blk_below (g := gb128) (o := .cells #[.int .u64 ((rd_T46 l0 x19_1).f0), .int .i64 ((rd_T46 l0 x19_1).f1), .int .i64 ((rd_T46 l0 x19_1).f2), .int .i64 ((rd_T46 l0 x19_1).f3), .int .i64 ((rd_T46 l0 x19_1).f4), .int .u64 ((rd_T46 l0 x19_1).f5)] 46 (0, 0)) (by (with_reducible repeat (first | refine blk_drewN ?_ _ | refine blk_drew ?_ | refine blk_alloc ?_ _)); exact BK128.out) hb); have n2_ := Aside0.mk (below_step (by repeat (first | (with_reducible first | exact HB.out | apply below_alloc | apply pw_below_drewN | apply below_drew1 | refine below_set ?_ GE128.out) | exact HB.out)) hb); clear HO_9; clear BK128; clear HB; have HO_9 := n0_; have BK128 := n1_; have HB := n2_; clear n0_ n1_ n2_; (try clear hb); (try clear hb2); (try clear hk); (try clear hi)) | ((with_reducible refine gate_callee (f := 14) rfl ?_); refine goesL_ (some 38) rfl rfl Try.func14 (by kernel_rfl) rfl #[.int .i64 a2, .int .i64 t130] rfl (by (try simp only [List.map_toArray, List.map_cons, List.map_nil]); first | done | rfl | (simp only [List.length_drop, List.length_take]; rfl)) ?_; (with_reducible refine (limits_Trim.calls a2 t130 t132 _ A14.out).mono ?_); rintro e w21 ⟨rfl, hb⟩; refine ⟨_, rfl, ?_⟩; have n0_ := Aside0.mk (Kd.R_below (by (with_reducible repeat (first | apply Kd.R_alloc | apply Kd.R_drewN | apply Kd.R_drew)); exact HO_9.out) hb); have n1_ := Aside0.mk (blk_below (g := gb128) (o := .cells #[.int .u64 ((rd_T46 l0 x19_1).f0), .int .i64 ((rd_T46 l0 x19_1).f1), .int .i64 ((rd_T46 l0 x19_1).f2), .int .i64 ((rd_T46 l0 x19_1).f3), .int .i64 ((rd_T46 l0 x19_1).f4), .int .u64 ((rd_T46 l0 x19_1).f5)] 46 (0, 0)) (by (with_reducible repeat (first | refine blk_drewN ?_ _ | refine blk_drew ?_ | refine blk_alloc ?_ _)); exact BK128.out) hb); have n2_ := Aside0.mk (below_step (by repeat (first | (with_reducible first | exact HB.out | apply below_alloc | apply pw_below_drewN | apply below_drew1 | refine below_set ?_ GE128.out) | exact HB.out)) hb); clear HO_9; clear BK128; clear HB; have HO_9 := n0_; have BK128 := n1_; have HB := n2_; clear n0_ n1_ n2_; (try clear hb); (try clear hb2); (try clear hk); (try clear hi); have p16 : 0 ≤ (x19_1 : Int) := of_decide_eq_true (by first | (with_reducible assumption) | assumption); have q16 : (x19_1 : Int) < ((x9_1.length : Int) : Int) := of_decide_eq_true (by first | (with_reducible assumption) | assumption); obtain ⟨go16, co16, eo16, gb16, gl16, cl16, HG16⟩ := Kd.R_form HO_9.out (by omega); (first | cases eo16 | (injection eo16 with ea_ en_ ec_; (first | subst ea_ | (injection ea_ with ea_; subst ea_)); subst ec_; clear en_)); have GB16 := Aside0.mk gb16; have GG16 := Aside0.mk HG16; clear gb16 gl16 HG16; obtain ⟨hx16_0, hf16_0⟩ := Kd.R_celln 0 HO_9.out (x19_1 : Int) p16 q16; replace p16 := eq_true p16; replace q16 := eq_true q16; obtain ⟨hy22_, hz22_⟩ := Kd.R_celln 0 HO_9.out (x19_1 : Int) (of_decide_eq_true (by first | (with_reducible assumption) | assumption)) (of_decide_eq_true (by first | (with_reducible assumption) | assumption)); have HP22 := Kd.R_putg HO_9.out (x19_1 : Int) t132) | ((with_reducible refine gate_store (t := 2) (p := 39) rfl ?_); refine store_event (t := 2) (p := 39) (v := ?vo_w23) (w1 := (w21.setCell ⟨go16, (x19_1 : Int).toNat, none⟩ (.int .i64 t132))) ?hg ?ho ?hn ?hr ?_; (case ho => rfl); (case hg => rfl); (case hn => rfl); (case hr => first | (go_simp; done) | (go_simp; rfl)); intro w23 hw; have hg : w21.grownBy w23 (some go16) := (by rw [hw]; exact HP22.2); have hp_ : Kd.R (Kd.int .i64) 2 w23 w.heap.size (fun _ => True) (.slice (some ⟨go16, 0, none⟩) x9_1.length co16) y133 := (by rw [hw, Ny133.out]; exact HP22.1); clear HP22; have n0_ := Aside0.mk (hp_); have n1_ := Aside0.mk (blk_grown (g := gb128) (o := .cells #[.int .u64 ((rd_T46 l0 x19_1).f0), .int .i64 ((rd_T46 l0 x19_1).f1), .int .i64 ((rd_T46 l0 x19_1).f2), .int .i64 ((rd_T46 l0 x19_1).f3), .int .i64 ((rd_T46 l0 x19_1).f4), .int .u64 ((rd_T46 l0 x19_1).f5)] 46 (0, 0)) (by (with_reducible repeat (first | refine blk_drewN ?_ _ | refine blk_drew ?_ | refine blk_alloc ?_ _)); exact BK128.out) hg (Kd.R_ne HO_9.out BK128.out (by decide))); have n2_ := Aside0.mk ((by rw [hw]; exact below_set (HB.out) GB16.out : Below w.heap.size w w23)); clear HO_9; clear BK128; clear HB; have HO_9 := n0_; have BK128 := n1_; have HB := n2_; clear n0_ n1_ n2_; clear hg hw hp_))
                  go_roundg k1
                  case measure => have := HK1.out; omega
                  case rel => exact ⟨(y133), (wrap64 (x19_1 + 1)), (by first | rfl | (simp; done) | (simp [*]; done)), H', ⟨by have := HK1.out; omega⟩, ⟨by (with_reducible repeat (first | apply Kd.R_alloc | apply Kd.R_drewN | apply Kd.R_drew)); exact HO_9.out⟩, ⟨by repeat (first | (with_reducible first | exact HB.out | apply below_alloc | apply pw_below_drewN | apply below_drew1 | refine below_set ?_ GE128.out) | exact HB.out)⟩⟩
                · rw [if_neg c15] at H
                  exact absurd H (by simp)
              · rw [if_neg c11] at H
                exact absurd H (by simp)
            · rw [if_neg c10] at H
              exact absurd H (by simp)
          · rw [if_neg c9] at H
            have c9b0 : decide (x19_1 < (l0.length : Int)) = false := decide_eq_false c9
            clear c9
            obtain rfl := Option.some.inj H
            go_wp2
            go_ret
            exact ⟨_, by first | rfl | (simp [errW_none, errW_some] <;> rfl) | (simp [*, errW_none, errW_some] <;> rfl), by (with_reducible repeat (first | apply Kd.R_alloc | apply Kd.R_drewN | apply Kd.R_drew)); exact HO_9.out, by repeat (first | (with_reducible first | exact HB.out | apply below_alloc | apply pw_below_drewN | apply below_drew1) | exact HB.out)⟩
    · rw [if_neg c6] at H
      exact absurd H (by simp)
  · rw [if_neg c5] at H
    exact absurd H (by simp)

/-! ### share_Share: function 24 (by hand) -/
set_option maxHeartbeats 8000000 in
set_option maxRecDepth 100000 in
theorem trim_quiet (a0 a1 t : Int) (w : World) (h : limits_Trim.f a0 a1 = some t) : Calls Try.prog 14 #[.int .i64 a0, .int .i64 a1] w fun e w' => e = .returned (.int .i64 t) ∧ ∃ m, w' = w.drewN m := by
  have H : (if (mn a0 a1) < 1 then (some 0) else (if a0 = 0 then (none) else (some (wrap64 (a1 - (Int.tmod a1 a0)))))) = some t := h
  clear h
  obtain ⟨ji3, hji3⟩ : ∃ j_ : Int, (mn a0 a1) = j_ := ⟨_, rfl⟩
  rw [hji3] at H
  have hji3_ : (if a1 < a0 then a1 else a0) = ji3 := hji3
  by_cases c4 : (ji3) < 1
  · rw [if_pos c4] at H
    have c4b0 : decide ((ji3) < 1) = true := decide_eq_true c4
    clear c4
    obtain rfl := Option.some.inj H
    go_enter Try.func14, Try.ntmps14
    go_wp2
    go_ret
    exact ⟨rfl, 0, rfl⟩
  · rw [if_neg c4] at H
    have c4b0 : decide ((ji3) < 1) = false := decide_eq_false c4
    clear c4
    by_cases c5 : a0 = 0
    · rw [if_pos c5] at H
      exact absurd H (by simp)
    · rw [if_neg c5] at H
      have c5b0 : (a0 == 0) = false := beq_eq_false_iff_ne.mpr c5
      have c5b1 : (a0 != 0) = true := bne_iff_ne.mpr c5
      obtain rfl := Option.some.inj H
      go_enter Try.func14, Try.ntmps14
      go_wp2
      go_ret
      exact ⟨rfl, 0, rfl⟩
structure ShB (g0 g1 g2 g3 : Nat) (A0 : Option Addr) (n c0 : Nat) (lot left : Int) (v : Value) (W : World) : Prop where
  b0 : W.heap[g0]? = some (.cells #[.slice A0 n c0] 34 (0, 0))
  b1 : W.heap[g1]? = some (.cells #[.int .i64 lot] 2 (0, 0))
  b2 : W.heap[g2]? = some (.cells #[v] 38 (0, 0))
  b3 : W.heap[g3]? = some (.cells #[.int .i64 left] 2 (0, 0))
theorem ShB.below {g0 g1 g2 g3 : Nat} {A0 : Option Addr} {n c0 : Nat} {lot left : Int} {v : Value} {W W2 : World} (h : ShB g0 g1 g2 g3 A0 n c0 lot left v W) (hb : Below W.heap.size W W2) : ShB g0 g1 g2 g3 A0 n c0 lot left v W2 :=
  ⟨blk_below h.b0 hb, blk_below h.b1 hb, blk_below h.b2 hb, blk_below h.b3 hb⟩
theorem ShB.far {g0 g1 g2 g3 : Nat} {A0 : Option Addr} {n c0 : Nat} {lot left : Int} {v : Value} {W : World} (h : ShB g0 g1 g2 g3 A0 n c0 lot left v W) {g i : Nat} (u : Value) (n0 : g ≠ g0) (n1 : g ≠ g1) (n2 : g ≠ g2) (n3 : g ≠ g3) : ShB g0 g1 g2 g3 A0 n c0 lot left v (W.setCell ⟨g, i, none⟩ u) :=
  ⟨blk_far h.b0 (Ne.symm n0) u, blk_far h.b1 (Ne.symm n1) u, blk_far h.b2 (Ne.symm n2) u, blk_far h.b3 (Ne.symm n3) u⟩
theorem ShB.put {g0 g1 g2 g3 : Nat} {A0 : Option Addr} {n c0 : Nat} {lot left : Int} {v : Value} {W : World} (h : ShB g0 g1 g2 g3 A0 n c0 lot left v W) (l2 : Int) (n0 : g0 ≠ g3) (n1 : g1 ≠ g3) (n2 : g2 ≠ g3) : ShB g0 g1 g2 g3 A0 n c0 lot l2 v (W.setCell ⟨g3, 0, none⟩ (.int .i64 l2)) :=
  ⟨blk_far h.b0 n0 _, blk_far h.b1 n1 _, blk_far h.b2 n2 _, blk_put h.b3 0 _ rfl⟩
def shOk (g0 g1 g2 g3 : Nat) (k : Nat) : Prop := k ≠ g0 ∧ k ≠ g1 ∧ k ≠ g2 ∧ k ≠ g3
set_option maxHeartbeats 8000000 in
set_option maxRecDepth 100000 in
theorem share_give (w : World) (g0 g1 g2 g3 : Nat) (A0 : Option Addr) (c0 : Nat) (l0 : List S46) (xs : List Int) (v : Value) (lot left i t : Int) (W : World)
    (hr0 : Kd.C k46 w A0 l0.length l0) (hb : Below w.heap.size w W) (hg : w.heap.size ≤ g3) (hd0 : g0 ≠ g3) (hd1 : g1 ≠ g3) (hd2 : g2 ≠ g3)
    (hs : ShB g0 g1 g2 g3 A0 l0.length c0 lot left v W) (ho : Kd.R (Kd.int .i64) 2 W w.heap.size (shOk g0 g1 g2 g3) v xs)
    (h0 : 0 ≤ i) (h1 : i < (l0.length : Int)) (hx : xs.length = l0.length) (ht : limits_Trim.f lot (rd_T46 l0 i).f4 = some t) :
    Calls Try.prog 48 #[.int .i64 i, .pointer (some ⟨g3, 0, none⟩), .pointer (some ⟨g1, 0, none⟩), .pointer (some ⟨g0, 0, none⟩), .pointer (some ⟨g2, 0, none⟩)] W fun e W' => e = .returned (.tuple #[]) ∧ Below w.heap.size w W' ∧
      ShB g0 g1 g2 g3 A0 l0.length c0 lot (wrap64 (left - mn left (wrap64 (t - rd xs i)))) v W' ∧ Kd.R (Kd.int .i64) 2 W' w.heap.size (shOk g0 g1 g2 g3) v (xs.set i.toNat (wrap64 (rd xs i + mn left (wrap64 (t - rd xs i))))) := by
  have hu46 := Try.underlying46
  obtain ⟨g, cap, hv, hge, hlt, cells, hcl⟩ := Kd.R_form ho (by omega)
  subst hv
  have hq : shOk g0 g1 g2 g3 g := ho.1 g rfl
  obtain ⟨ad, e1, hx0, hx1, hx2, hx3, hx4, hx5⟩ := at_T46 hr0 i h0 h1
  subst e1
  have y4 := (hb.cell (World.block_lt_of_cell? w _ hx4)).trans hx4
  obtain ⟨z1, z2⟩ := Kd.R_celln 0 ho i h0 (by omega)
  replace z1 : W.cell? ⟨g, i.toNat, none⟩ = some (.int .i64 (rd xs i)) := z1
  have l0c : W.cell? ⟨g0, 0, none⟩ = some (.slice (some ad) l0.length c0) := (blk_cell hs.b0 0).trans rfl
  have l1c : W.cell? ⟨g1, 0, none⟩ = some (.int .i64 lot) := (blk_cell hs.b1 0).trans rfl
  have l2c : W.cell? ⟨g2, 0, none⟩ = some (.slice (some ⟨g, 0, none⟩) xs.length cap) := (blk_cell hs.b2 0).trans rfl
  have l3c : W.cell? ⟨g3, 0, none⟩ = some (.int .i64 left) := (blk_cell hs.b3 0).trans rfl
  have HT := Aside0.mk (fun W => trim_quiet lot (rd_T46 l0 i).f4 t W ht)
  have HP := Aside0.mk (fun W2 (hb2 : Below W.heap.size W W2) => Kd.R_putg (Kd.R_below ho hb2) i (wrap64 (rd xs i + mn left (wrap64 (t - rd xs i)))))
  have HZ := Aside0.mk (fun W2 (hb2 : Below W.heap.size W W2) => Kd.R_celln 0 (Kd.R_below ho hb2) i h0 (by omega))
  have HS := Aside0.mk (fun W2 (hb2 : Below W.heap.size W W2) => hs.below hb2)
  have HB := Aside0.mk hb
  have p1 := eq_true h0
  have p2 := eq_true h1
  have p3 : (i < (xs.length : Int)) = True := eq_true (by omega)
  obtain ⟨mr, hmr⟩ : ∃ m, mn left (wrap64 (t - rd xs i)) = m := ⟨_, rfl⟩
  rw [hmr] at HP ⊢
  have hmr_ : (if wrap64 (t - rd xs i) < left then wrap64 (t - rd xs i) else left) = mr := hmr
  have L3 : ∀ n u, ((W.drewN n).setCell ⟨g, i.toNat, none⟩ u).cell? ⟨g3, 0, none⟩ = some (.int .i64 left) := fun n u => (blk_cell (blk_far (HS.out (W.drewN n) (pw_below_drewN (Below.refl _ _) n)).b3 (Ne.symm hq.2.2.2) u) 0).trans rfl
  have F3 : ∀ n u, ((W.drewN n).setCell ⟨g, i.toNat, none⟩ u).frozen? ⟨g3, 0, none⟩ = false := fun n u => blk_frozen (blk_far (HS.out (W.drewN n) (pw_below_drewN (Below.refl _ _) n)).b3 (Ne.symm hq.2.2.2) u) 0
  clear hx0 hx1 hx2 hx3 hx5 hs hb ho hr0 ht hcl hx4 h1 hmr
  go_enter Try.func48, Try.ntmps48
  go_wp2
  go_quiet ((go_at_call 14; refine Calls.quiet_of (HT.out _)))
  go_wp2
  have hbq := Aside0.mk (pw_below_drewN (Below.refl W.heap.size W) nq)
  exact bodyPost_end (results_none rfl _ _ _) rfl ⟨rfl, below_set (below_set (below_step HB.out hbq.out) hge) hg, ((HS.out _ hbq.out).far _ hq.1 hq.2.1 hq.2.2.1 hq.2.2.2).put _ hd0 hd1 hd2, Kd.R_far (HP.out _ hbq.out).1 (fun k hk => hk.2.2.2) _⟩
def shGive (lot : Int) (l : List S46) : Nat → Int → List Int → Int → Option (List Int)
  | 0, _, xs, _ => some xs
  | n + 1, i, xs, left => (limits_Trim.f lot (rd_T46 l i).f4).bind fun t => shGive lot l n (wrap64 (i + 1)) (xs.set i.toNat (wrap64 (rd xs i + mn left (wrap64 (t - rd xs i))))) (wrap64 (left - mn left (wrap64 (t - rd xs i))))
def shTake (q : Int) (xs : List Int) : Int := xs.foldl (fun a n => wrap64 (a - n)) q
def share_Share.f (k : Nat) (a0 : Int) (l1 : List S46) (a2 a3 : Int) : Option (List Int) := (share_Total.f k l1 a3).bind fun total => (if total = 0 then some [] else (if a2 < 1 then some [] else (if a2 > 4611686018427387904 then some [] else ((limits_Trim.f a3 a2).bind fun q0 => (if a0 = 1 then (if l1.length ≤ 35184372088832 then shGive a3 l1 l1.length 0 (List.replicate l1.length 0) (shTake (mn q0 total) (List.replicate l1.length 0)) else none) else (if a0 = 2 then ((share_parts.f k l1 (mn q0 total) a3 total).bind fun xs => (if xs.length = l1.length then shGive a3 l1 l1.length 0 xs (shTake (mn q0 total) xs) else none)) else some [])))))) 
theorem share_Share.mono : ∀ a0 l1 a2 a3 k, LeO (share_Share.f k a0 l1 a2 a3) (share_Share.f (k + 1) a0 l1 a2 a3) := by
  intro a0 l1 a2 a3 k
  unfold share_Share.f
  repeat' first
      | (with_reducible exact share_Total.mono _ _ _)
      | (with_reducible exact share_parts.mono _ _ _ _ _)
      | (with_reducible exact LeO.refl _)
      | (with_reducible exact LeO.none _)
      | (with_reducible refine LeO.ite ?_ ?_)
      | (with_reducible refine LeO.bind ?_ (fun _ => ?_))
theorem shTake_step {xs : List Int} {i : Int} (h0 : 0 ≤ i) (h1 : i < (xs.length : Int)) (q : Int) : shTake q (xs.take (i + 1).toNat) = wrap64 (shTake q (xs.take i.toNat) - rd xs i) := by
  have hl : i.toNat < xs.length := by omega
  unfold shTake
  rw [show (i + 1).toNat = i.toNat + 1 by omega, List.take_add_one, List.foldl_append, List.getElem?_eq_getElem hl]
  have e : rd xs i = xs[i.toNat] := by unfold rd; simp [hl]
  rw [e]; rfl
set_option maxHeartbeats 8000000 in
set_option maxRecDepth 100000 in
theorem share_Share.calls (k : Nat) (a0 : Int) (A1 : Option Addr) (c1 : Nat) (l1 : List S46) (a2 a3 : Int) (r : List Int) (w : World) (hr1 : Kd.C k46 w A1 l1.length l1) (hc1 : l1.length ≤ c1) (h : share_Share.f k a0 l1 a2 a3 = some r) :
    Calls Try.prog 24 #[.int .i64 a0, .slice A1 l1.length c1, .int .i64 a2, .int .i64 a3] w fun e w' => ∃ v0_ : Value, e = .returned (v0_) ∧ Kd.R (Kd.int .i64) 2 w' w.heap.size (fun _ => True) v0_ r ∧ Below w.heap.size w w' := by
  unfold share_Share.f at h
  obtain ⟨total, htot, h'⟩ := Option.bind_eq_some_iff.mp h
  clear h
  have hu46 := Try.underlying46
  obtain ⟨W, hW⟩ : ∃ W, W = (w.alloc (.cells #[.slice A1 l1.length c1] 34)).alloc (.cells #[.int .i64 a3] 2) := ⟨_, rfl⟩
  have HB : Aside0 (Below w.heap.size w W) := ⟨by rw [hW]; exact below_alloc (below_alloc (Below.refl _ _) _) _⟩
  have BK0 : Aside0 (W.heap[w.heap.size]? = some (.cells #[.slice A1 l1.length c1] 34 (0, 0))) := ⟨by rw [hW]; exact blk_alloc (blk_new w _) _⟩
  have BK1 : Aside0 (W.heap[w.heap.size + 1]? = some (.cells #[.int .i64 a3] 2 (0, 0))) := ⟨by rw [hW]; have := blk_new (w.alloc (.cells #[.slice A1 l1.length c1] 34)) (.cells #[.int .i64 a3] 2); simpa using this⟩
  have HWS : Aside0 (W.heap.size = w.heap.size + 2) := ⟨by rw [hW]; simp⟩
  have HW := Aside0.mk hW
  have HR := Aside0.mk hr1
  have HT1 : Aside0 (Calls Try.prog 26 #[.slice A1 l1.length c1, .int .i64 a3] W fun e w' => e = .returned (.int .i64 total) ∧ Below W.heap.size W w') := ⟨share_Total.calls k A1 c1 l1 a3 total W (Kd.C_below hr1 HB.out) hc1 htot⟩
  have HC := Aside0.mk hc1
  have HM := Aside0.mk hr1.2.1
  clear hW hr1 htot hc1
  have C0 := Aside0.mk (fun W2 (hb : Below W.heap.size W W2) => (blk_cell (blk_below BK0.out hb) 0).trans (rfl : (#[Value.slice A1 l1.length c1])[0]? = some (.slice A1 l1.length c1)))
  have C1 := Aside0.mk (fun W2 (hb : Below W.heap.size W W2) => (blk_cell (blk_below BK1.out hb) 0).trans (rfl : (#[Value.int .i64 a3])[0]? = some (.int .i64 a3)))
  have ld0 : W.cell? ⟨w.heap.size, 0, none⟩ = some (.slice A1 l1.length c1) := C0.out _ (Below.refl _ _)
  have ld1 : W.cell? ⟨w.heap.size + 1, 0, none⟩ = some (.int .i64 a3) := C1.out _ (Below.refl _ _)
  by_cases c1 : total = 0
  · rw [if_pos c1] at h'
    obtain rfl := Option.some.inj h'
    have d1 : (total == 0) = true := beq_iff_eq.mpr c1
    clear h' c1
    go_enter Try.func24, Try.ntmps24
    go_wp2_with (go_at_call 26; rw [← HW.out]; refine HT1.out.mono ?_; rintro e w1 ⟨rfl, hb⟩; have HB2 := Aside0.mk (below_step HB.out hb); clear hb)
    go_ret
    exact ⟨_, rfl, Kd.R_nil _ _ _ _ _, HB2.out⟩
  rw [if_neg c1] at h'
  have d1 : (total == 0) = false := beq_eq_false_iff_ne.mpr c1
  clear c1
  by_cases c2 : a2 < 1
  · rw [if_pos c2] at h'
    obtain rfl := Option.some.inj h'
    have d2 : decide (a2 < 1) = true := decide_eq_true c2
    clear h' c2
    go_enter Try.func24, Try.ntmps24
    go_wp2_with (go_at_call 26; rw [← HW.out]; refine HT1.out.mono ?_; rintro e w1 ⟨rfl, hb⟩; have HB2 := Aside0.mk (below_step HB.out hb); clear hb)
    go_ret
    exact ⟨_, rfl, Kd.R_nil _ _ _ _ _, HB2.out⟩
  rw [if_neg c2] at h'
  have d2 : decide (a2 < 1) = false := decide_eq_false c2
  clear c2
  by_cases c3 : a2 > 4611686018427387904
  · rw [if_pos c3] at h'
    obtain rfl := Option.some.inj h'
    have d3 : decide (4611686018427387904 < a2) = true := decide_eq_true c3
    clear h' c3
    go_enter Try.func24, Try.ntmps24
    go_wp2_with (go_at_call 26; rw [← HW.out]; refine HT1.out.mono ?_; rintro e w1 ⟨rfl, hb⟩; have HB2 := Aside0.mk (below_step HB.out hb); clear hb)
    go_ret
    exact ⟨_, rfl, Kd.R_nil _ _ _ _ _, HB2.out⟩
  rw [if_neg c3] at h'
  have d3 : decide (4611686018427387904 < a2) = false := decide_eq_false c3
  clear c3
  obtain ⟨q0, hq0, h⟩ := Option.bind_eq_some_iff.mp h'
  clear h'
  have HT2 : Aside0 (∀ W2, Calls Try.prog 14 #[.int .i64 a3, .int .i64 a2] W2 fun e w' => e = .returned (.int .i64 q0) ∧ Below W2.heap.size W2 w') := ⟨fun W2 => limits_Trim.calls a3 a2 q0 W2 hq0⟩
  clear hq0
  obtain ⟨q, hq⟩ : ∃ q, mn q0 total = q := ⟨_, rfl⟩
  rw [hq] at h
  have hq_ : (if total < q0 then total else q0) = q := hq
  clear hq
  by_cases m1 : a0 = 1
  · rw [if_pos m1] at h
    have e1 : (a0 == 1) = true := beq_iff_eq.mpr m1
    clear m1
    by_cases hl : l1.length ≤ 35184372088832
    · rw [if_pos hl] at h
      have HL := Aside0.mk hl
      obtain ⟨ys, hys⟩ : ∃ ys : List Int, ys = List.replicate ((l1.length : Int)).toNat 0 := ⟨_, rfl⟩
      have hys2 : List.replicate l1.length (0 : Int) = ys := by rw [hys]; simp
      have HYL : Aside0 (ys.length = l1.length) := ⟨by rw [← hys2]; simp⟩
      rw [hys2] at h
      have HY := Aside0.mk hys
      have HG := Aside0.mk h
      clear h hl hys hys2
      go_enter Try.func24, Try.ntmps24
      go_upto_region 12 with (first | (go_at_call 26; rw [← HW.out]; refine HT1.out.mono ?_; rintro e w1 ⟨rfl, hb⟩; have HBA := Aside0.mk hb; have y1 := C1.out _ hb; clear hb) | (go_at_call 14; refine (HT2.out _).mono ?_; rintro e w2 ⟨rfl, hb⟩; have HBB := Aside0.mk (below_step HBA.out hb); have y2 := fun o => C0.out (w2.alloc o) (below_alloc HBB.out o); clear hb) | ((with_reducible refine gate_dst (N := 39) rfl ?_); refine Kd.R_make (Kd.int .i64) _ 2 rfl (N := 39) rfl 38 _ _ rfl (l1.length : Int) rfl rfl Try.underlying38 (.int .i64 0) 8 info2 rfl (by decide) (by omega) 0 (ok := fun _ => True) (okp := fun _ => True) rfl (fun _ hk => hk) trivial (by omega) (by have := HL.out; omega) (Below.refl _ _) (Nat.le_refl _) ?_; intro v7 w7 ho8 hb hg_ hnew_; clear hg_ hnew_; rw [← HY.out] at ho8; have HO := Aside0.mk ho8; obtain ⟨A7, c7, e7⟩ := Kd.R_slice ho8; subst e7; have HBC := Aside0.mk hb; have B2 := Aside0.mk (blk_below (blk_new w2 (.cells #[.slice none 0 0] 38)) hb); have y3 : w7.cell? ⟨w2.heap.size, 0, none⟩ = some (.slice none 0 0) := (blk_cell B2.out 0).trans rfl; have y4 := blk_frozen B2.out 0; clear hb ho8))
      have hB7 : Below W.heap.size W w7 := below_step (below_alloc HBB.out _) HBC.out
      have hWS := HWS.out
      have hg2 : W.heap.size ≤ w2.heap.size := below_size HBB.out
      obtain ⟨W4, hW4⟩ : ∃ W4, W4 = w7.setCell ⟨w2.heap.size, 0, none⟩ (.slice A7 ys.length c7) := ⟨_, rfl⟩
      rw [← hW4]
      have P0 := Aside0.mk (show W4.heap[w.heap.size]? = some (.cells #[.slice A1 l1.length c1] 34 (0, 0)) by rw [hW4]; exact blk_far (blk_below BK0.out hB7) (by show w.heap.size ≠ w2.heap.size; omega) _)
      have P1 := Aside0.mk (show W4.heap[w.heap.size + 1]? = some (.cells #[.int .i64 a3] 2 (0, 0)) by rw [hW4]; exact blk_far (blk_below BK1.out hB7) (by show w.heap.size + 1 ≠ w2.heap.size; omega) _)
      have P2 := Aside0.mk (show W4.heap[w2.heap.size]? = some (.cells #[.slice A7 ys.length c7] 38 (0, 0)) by rw [hW4]; exact blk_put B2.out 0 _ rfl)
      have P3 := Aside0.mk (show Kd.R (Kd.int .i64) 2 W4 w.heap.size (fun k => k ≠ w.heap.size ∧ k ≠ w.heap.size + 1 ∧ k ≠ w2.heap.size ∧ k < W4.heap.size) (.slice A7 ys.length c7) ys by
        have h1 := Kd.R_bound HO.out
        have h2 := Kd.R_lower h1 (base' := w.heap.size) (by simp; omega)
        have hsz : W4.heap.size = w7.heap.size := by rw [hW4]; simp
        have h3 : Kd.R (Kd.int .i64) 2 w7 w.heap.size (fun k => k ≠ w.heap.size ∧ k ≠ w.heap.size + 1 ∧ k ≠ w2.heap.size ∧ k < W4.heap.size) (.slice A7 ys.length c7) ys := Kd.R_mono h2 (fun k hk => by
          have := hk.2.1
          have := hk.2.2.1
          simp at *
          omega)
        rw [hW4]
        rw [hW4] at h3
        exact Kd.R_far h3 (fun k hk => hk.2.2.1) _)
      have P4 := Aside0.mk (show Below w.heap.size w W4 by rw [hW4]; exact below_set (below_step HB.out hB7) (by omega))
      have P5 := Aside0.mk (show w2.heap.size < W4.heap.size ∧ w.heap.size + 1 < w2.heap.size by
        have := below_size HBC.out
        rw [hW4]; simp at *; omega)
      clear hB7 hWS hg2 hW4 y1 y2 y3 y4 B2 HBC HO
      obtain ⟨g2, hg2⟩ : ∃ g2, w2.heap.size = g2 := ⟨_, rfl⟩
      rw [hg2] at P2 P3 P5 ⊢
      obtain ⟨g3, hg3⟩ : ∃ g3, W4.heap.size = g3 := ⟨_, rfl⟩
      go_upto_region 13 with (fail)
      obtain ⟨W5, hW5⟩ : ∃ W5, W5 = W4.alloc (.cells #[.int .i64 q] 2) := ⟨_, rfl⟩
      rw [← hW5]
      have h5 := P5.out
      have S5 := Aside0.mk (show ShB w.heap.size (w.heap.size + 1) g2 g3 A1 l1.length c1 a3 q (.slice A7 ys.length c7) W5 by
        rw [hW5]
        exact ⟨blk_alloc P0.out _, blk_alloc P1.out _, blk_alloc P2.out _, by have h0 := blk_new W4 (.cells #[.int .i64 q] 2 (0, 0)); rw [hg3] at h0; exact h0⟩)
      have R5 := Aside0.mk (show Kd.R (Kd.int .i64) 2 W5 w.heap.size (shOk w.heap.size (w.heap.size + 1) g2 g3) (.slice A7 ys.length c7) ys by
        have h1 : Kd.R (Kd.int .i64) 2 W4 w.heap.size (shOk w.heap.size (w.heap.size + 1) g2 g3) (.slice A7 ys.length c7) ys := Kd.R_mono P3.out (fun k hk => ⟨hk.1, hk.2.1, hk.2.2.1, by have := hk.2.2.2; omega⟩)
        rw [hW5]
        exact Kd.R_alloc h1 _)
      have B5 := Aside0.mk (show Below w.heap.size w W5 by rw [hW5]; exact below_alloc P4.out _)
      have G3 := Aside0.mk (show w.heap.size ≤ g3 ∧ w.heap.size ≠ g3 ∧ w.heap.size + 1 ≠ g3 ∧ g2 ≠ g3 by have := below_size P4.out; omega)
      have ld2 : W5.cell? ⟨g2, 0, none⟩ = some (.slice A7 ys.length c7) := (blk_cell S5.out.b2 0).trans rfl
      clear hg2 hg3
      clear h5 hW5 P0 P1 P2 P3 P4 P5
      go_wp2
      go_loopg [51] ys.length (fun kq v51 wr => ∃ (i left : Int), v51 = .int .i64 i ∧ Aside0 (0 ≤ i ∧ i + kq = ys.length) ∧ Aside0 (left = shTake q (ys.take i.toNat)) ∧ Aside0 (ShB w.heap.size (w.heap.size + 1) g2 g3 A1 l1.length c1 a3 left (.slice A7 ys.length c7) wr) ∧ Aside0 (Kd.R (Kd.int .i64) 2 wr w.heap.size (shOk w.heap.size (w.heap.size + 1) g2 g3) (.slice A7 ys.length c7) ys) ∧ Aside0 (Below w.heap.size w wr))
      case atStart => exact ⟨0, q, rfl, ⟨by omega⟩, ⟨rfl⟩, S5, R5, B5⟩
      case round =>
        clear S5 R5 B5 ld2
        obtain ⟨i, left, rfl, HI, HLF, HS, HRR, HBB⟩ := hrel
        by_cases hlt : i < (ys.length : Int)
        · have hd : decide (i < (ys.length : Int)) = true := decide_eq_true hlt
          obtain ⟨g, cap, hv, hge, hltg, cells, hcl⟩ := Kd.R_form HRR.out (by have := HI.out; omega)
          injection hv with e1 e2 e3
          subst e1 e3
          obtain ⟨z1, z2⟩ := Kd.R_celln 0 HRR.out i HI.out.1 hlt
          replace z1 : wr.cell? ⟨g, i.toNat, none⟩ = some (.int .i64 (rd ys i)) := z1
          have z3 : wr.cell? ⟨g3, 0, none⟩ = some (.int .i64 left) := (blk_cell HS.out.b3 0).trans rfl
          have z4 := blk_frozen HS.out.b3 0
          have p1 := eq_true HI.out.1
          have p2 := eq_true hlt
          have ST := Aside0.mk (shTake_step HI.out.1 hlt q)
          have hw := Aside0.mk (show wrap64 (i + 1) = i + 1 by have := HYL.out; have := HM.out; have := HI.out; unfold wrap64; omega)
          clear hcl
          go_wp2
          go_roundg (gk - 1)
          case measure => have := HI.out; omega
          case rel => exact ⟨wrap64 (i + 1), wrap64 (left - rd ys i), rfl, ⟨by have := HI.out; rw [hw.out]; omega⟩, ⟨by rw [hw.out, ST.out, HLF.out]⟩, ⟨HS.out.put _ G3.out.2.1 G3.out.2.2.1 G3.out.2.2.2⟩, ⟨Kd.R_far HRR.out (fun k hk => hk.2.2.2) _⟩, ⟨below_set HBB.out G3.out.1⟩⟩
        · have hd : decide (i < (ys.length : Int)) = false := decide_eq_false hlt
          have HLE : Aside0 (left = shTake q ys) := ⟨by rw [HLF.out, show i.toNat = ys.length by have := HI.out; omega, List.take_length]⟩
          have z0 : wr.cell? ⟨w.heap.size, 0, none⟩ = some (.slice A1 l1.length c1) := (blk_cell HS.out.b0 0).trans rfl
          have HGG := Aside0.mk (show shGive a3 l1 l1.length 0 ys left = some r by rw [HLE.out]; exact HG.out)
          go_wp2
          go_loopg [61] l1.length (fun kq v61 wr => ∃ (i left : Int) (xs : List Int), v61 = .int .i64 i ∧ Aside0 (0 ≤ i ∧ i + kq = l1.length) ∧ Aside0 (xs.length = l1.length) ∧ Aside0 (shGive a3 l1 kq i xs left = some r) ∧ Aside0 (ShB w.heap.size (w.heap.size + 1) g2 g3 A1 l1.length c1 a3 left (.slice A7 ys.length c7) wr) ∧ Aside0 (Kd.R (Kd.int .i64) 2 wr w.heap.size (shOk w.heap.size (w.heap.size + 1) g2 g3) (.slice A7 ys.length c7) xs) ∧ Aside0 (Below w.heap.size w wr))
          case atStart => exact ⟨0, left, ys, rfl, ⟨by omega⟩, HYL, HGG, HS, HRR, HBB⟩
          case round =>
            clear HGG HS HRR HBB z0 HLE
            obtain ⟨j, lf, xs, rfl, HJ, HXL, HA, HS, HRR, HBB⟩ := hrel
            by_cases hlj : j < (l1.length : Int)
            · have hdj : decide (j < (l1.length : Int)) = true := decide_eq_true hlj
              cases gk with
              | zero => exact absurd HJ.out.2 (by omega)
              | succ m =>
                have HA2 := HA.out
                rw [shGive] at HA2
                obtain ⟨t, ht, HA3⟩ := Option.bind_eq_some_iff.mp HA2
                have HGV := Aside0.mk (share_give w w.heap.size (w.heap.size + 1) g2 g3 A1 c1 l1 xs (.slice A7 ys.length c7) a3 lf j t wr HR.out HBB.out G3.out.1 G3.out.2.1 G3.out.2.2.1 G3.out.2.2.2 HS.out HRR.out HJ.out.1 hlj HXL.out ht)
                have HA4 := Aside0.mk HA3
                have hw := Aside0.mk (show wrap64 (j + 1) = j + 1 by have := HM.out; have := HJ.out; unfold wrap64; omega)
                clear HA HA2 HA3 ht
                go_wp2_with (go_at_call 48; refine HGV.out.mono ?_; rintro e w9 ⟨rfl, hb9, hs9, hr9⟩; have HB9 := Aside0.mk hb9; have HS9 := Aside0.mk hs9; have HR9 := Aside0.mk hr9; clear hb9 hs9 hr9)
                go_roundg m
                case measure => have := HJ.out; omega
                case rel => exact ⟨wrap64 (j + 1), _, _, rfl, ⟨by have := HJ.out; rw [hw.out]; omega⟩, ⟨by rw [List.length_set]; exact HXL.out⟩, HA4, HS9, HR9, HB9⟩
            · have hdj : decide (j < (l1.length : Int)) = false := decide_eq_false hlj
              have z2 : wr.cell? ⟨g2, 0, none⟩ = some (.slice A7 ys.length c7) := (blk_cell HS.out.b2 0).trans rfl
              have HX : Aside0 (xs = r) := ⟨by
                have h1 := HA.out
                rw [show gk = 0 by have := HJ.out; omega] at h1
                exact Option.some.inj h1⟩
              go_wp2
              go_ret
              exact ⟨_, rfl, by rw [← HX.out]; exact Kd.R_mono HRR.out (fun _ _ => trivial), HBB.out⟩
    · rw [if_neg hl] at h; cases h
  · rw [if_neg m1] at h
    have e1 : (a0 == 1) = false := beq_eq_false_iff_ne.mpr m1
    clear m1
    by_cases m2 : a0 = 2
    · rw [if_pos m2] at h
      have e2 : (a0 == 2) = true := beq_iff_eq.mpr m2
      clear m2
      obtain ⟨ys, hys, h2⟩ := Option.bind_eq_some_iff.mp h
      clear h
      have HPT : Aside0 (∀ W2, Below W.heap.size W W2 → Calls Try.prog 47 #[.slice A1 l1.length c1, .int .i64 q, .int .i64 a3, .int .i64 total] W2 fun e w' => ∃ v0_ : Value, e = .returned (v0_) ∧ Kd.R (Kd.int .i64) 2 w' W2.heap.size (fun _ => True) v0_ ys ∧ Below W2.heap.size W2 w') := ⟨fun W2 hb => share_parts.calls k A1 c1 l1 q a3 total ys W2 (Kd.C_below HR.out (below_step HB.out hb)) HC.out hys⟩
      clear hys
      by_cases hl : ys.length = l1.length
      · rw [if_pos hl] at h2
        have HYL := Aside0.mk hl
        have HG := Aside0.mk h2
        clear h2 hl
        go_enter Try.func24, Try.ntmps24
        go_upto_region 12 with (first | (go_at_call 26; rw [← HW.out]; refine HT1.out.mono ?_; rintro e w1 ⟨rfl, hb⟩; have HBA := Aside0.mk hb; have y1 := C1.out _ hb; clear hb) | (go_at_call 14; refine (HT2.out _).mono ?_; rintro e w2 ⟨rfl, hb⟩; have HBB := Aside0.mk (below_step HBA.out hb); have y2 := fun o => C0.out (w2.alloc o) (below_alloc HBB.out o); have y2' := fun o => C1.out (w2.alloc o) (below_alloc HBB.out o); clear hb) | (go_at_call 47; refine (HPT.out _ (below_alloc HBB.out _)).mono ?_; rintro e w7 ⟨v7, rfl, ho8, hb⟩; have HO := Aside0.mk ho8; obtain ⟨A7, c7, e7⟩ := Kd.R_slice ho8; subst e7; have HBC := Aside0.mk hb; have B2 := Aside0.mk (blk_below (blk_new w2 (.cells #[.slice none 0 0] 38)) hb); have y3 : w7.cell? ⟨w2.heap.size, 0, none⟩ = some (.slice none 0 0) := (blk_cell B2.out 0).trans rfl; have y4 := blk_frozen B2.out 0; clear hb ho8))
        have hB7 : Below W.heap.size W w7 := below_step (below_alloc HBB.out _) HBC.out
        have hWS := HWS.out
        have hg2 : W.heap.size ≤ w2.heap.size := below_size HBB.out
        obtain ⟨W4, hW4⟩ : ∃ W4, W4 = w7.setCell ⟨w2.heap.size, 0, none⟩ (.slice A7 ys.length c7) := ⟨_, rfl⟩
        rw [← hW4]
        have P0 := Aside0.mk (show W4.heap[w.heap.size]? = some (.cells #[.slice A1 l1.length c1] 34 (0, 0)) by rw [hW4]; exact blk_far (blk_below BK0.out hB7) (by show w.heap.size ≠ w2.heap.size; omega) _)
        have P1 := Aside0.mk (show W4.heap[w.heap.size + 1]? = some (.cells #[.int .i64 a3] 2 (0, 0)) by rw [hW4]; exact blk_far (blk_below BK1.out hB7) (by show w.heap.size + 1 ≠ w2.heap.size; omega) _)
        have P2 := Aside0.mk (show W4.heap[w2.heap.size]? = some (.cells #[.slice A7 ys.length c7] 38 (0, 0)) by rw [hW4]; exact blk_put B2.out 0 _ rfl)
        have P3 := Aside0.mk (show Kd.R (Kd.int .i64) 2 W4 w.heap.size (fun k => k ≠ w.heap.size ∧ k ≠ w.heap.size + 1 ∧ k ≠ w2.heap.size ∧ k < W4.heap.size) (.slice A7 ys.length c7) ys by
          have h1 := Kd.R_bound HO.out
          have h2 := Kd.R_lower h1 (base' := w.heap.size) (by simp; omega)
          have hsz : W4.heap.size = w7.heap.size := by rw [hW4]; simp
          have h3 : Kd.R (Kd.int .i64) 2 w7 w.heap.size (fun k => k ≠ w.heap.size ∧ k ≠ w.heap.size + 1 ∧ k ≠ w2.heap.size ∧ k < W4.heap.size) (.slice A7 ys.length c7) ys := Kd.R_mono h2 (fun k hk => by
            have := hk.2.1
            have := hk.2.2.1
            simp at *
            omega)
          rw [hW4]
          rw [hW4] at h3
          exact Kd.R_far h3 (fun k hk => hk.2.2.1) _)
        have P4 := Aside0.mk (show Below w.heap.size w W4 by rw [hW4]; exact below_set (below_step HB.out hB7) (by omega))
        have P5 := Aside0.mk (show w2.heap.size < W4.heap.size ∧ w.heap.size + 1 < w2.heap.size by
          have := below_size HBC.out
          rw [hW4]; simp at *; omega)
        clear hB7 hWS hg2 hW4 y1 y2 y2' y3 y4 B2 HBC HO
        obtain ⟨g2, hg2⟩ : ∃ g2, w2.heap.size = g2 := ⟨_, rfl⟩
        rw [hg2] at P2 P3 P5 ⊢
        obtain ⟨g3, hg3⟩ : ∃ g3, W4.heap.size = g3 := ⟨_, rfl⟩
        go_upto_region 13 with (fail)
        obtain ⟨W5, hW5⟩ : ∃ W5, W5 = W4.alloc (.cells #[.int .i64 q] 2) := ⟨_, rfl⟩
        rw [← hW5]
        have h5 := P5.out
        have S5 := Aside0.mk (show ShB w.heap.size (w.heap.size + 1) g2 g3 A1 l1.length c1 a3 q (.slice A7 ys.length c7) W5 by
          rw [hW5]
          exact ⟨blk_alloc P0.out _, blk_alloc P1.out _, blk_alloc P2.out _, by have h0 := blk_new W4 (.cells #[.int .i64 q] 2 (0, 0)); rw [hg3] at h0; exact h0⟩)
        have R5 := Aside0.mk (show Kd.R (Kd.int .i64) 2 W5 w.heap.size (shOk w.heap.size (w.heap.size + 1) g2 g3) (.slice A7 ys.length c7) ys by
          have h1 : Kd.R (Kd.int .i64) 2 W4 w.heap.size (shOk w.heap.size (w.heap.size + 1) g2 g3) (.slice A7 ys.length c7) ys := Kd.R_mono P3.out (fun k hk => ⟨hk.1, hk.2.1, hk.2.2.1, by have := hk.2.2.2; omega⟩)
          rw [hW5]
          exact Kd.R_alloc h1 _)
        have B5 := Aside0.mk (show Below w.heap.size w W5 by rw [hW5]; exact below_alloc P4.out _)
        have G3 := Aside0.mk (show w.heap.size ≤ g3 ∧ w.heap.size ≠ g3 ∧ w.heap.size + 1 ≠ g3 ∧ g2 ≠ g3 by have := below_size P4.out; omega)
        have ld2 : W5.cell? ⟨g2, 0, none⟩ = some (.slice A7 ys.length c7) := (blk_cell S5.out.b2 0).trans rfl
        clear hg2 hg3
        clear h5 hW5 P0 P1 P2 P3 P4 P5
        go_wp2
        go_loopg [51] ys.length (fun kq v51 wr => ∃ (i left : Int), v51 = .int .i64 i ∧ Aside0 (0 ≤ i ∧ i + kq = ys.length) ∧ Aside0 (left = shTake q (ys.take i.toNat)) ∧ Aside0 (ShB w.heap.size (w.heap.size + 1) g2 g3 A1 l1.length c1 a3 left (.slice A7 ys.length c7) wr) ∧ Aside0 (Kd.R (Kd.int .i64) 2 wr w.heap.size (shOk w.heap.size (w.heap.size + 1) g2 g3) (.slice A7 ys.length c7) ys) ∧ Aside0 (Below w.heap.size w wr))
        case atStart => exact ⟨0, q, rfl, ⟨by omega⟩, ⟨rfl⟩, S5, R5, B5⟩
        case round =>
          clear S5 R5 B5 ld2
          obtain ⟨i, left, rfl, HI, HLF, HS, HRR, HBB⟩ := hrel
          by_cases hlt : i < (ys.length : Int)
          · have hd : decide (i < (ys.length : Int)) = true := decide_eq_true hlt
            obtain ⟨g, cap, hv, hge, hltg, cells, hcl⟩ := Kd.R_form HRR.out (by have := HI.out; omega)
            injection hv with e1 e2 e3
            subst e1 e3
            obtain ⟨z1, z2⟩ := Kd.R_celln 0 HRR.out i HI.out.1 hlt
            replace z1 : wr.cell? ⟨g, i.toNat, none⟩ = some (.int .i64 (rd ys i)) := z1
            have z3 : wr.cell? ⟨g3, 0, none⟩ = some (.int .i64 left) := (blk_cell HS.out.b3 0).trans rfl
            have z4 := blk_frozen HS.out.b3 0
            have p1 := eq_true HI.out.1
            have p2 := eq_true hlt
            have ST := Aside0.mk (shTake_step HI.out.1 hlt q)
            have hw := Aside0.mk (show wrap64 (i + 1) = i + 1 by have := HYL.out; have := HM.out; have := HI.out; unfold wrap64; omega)
            clear hcl
            go_wp2
            go_roundg (gk - 1)
            case measure => have := HI.out; omega
            case rel => exact ⟨wrap64 (i + 1), wrap64 (left - rd ys i), rfl, ⟨by have := HI.out; rw [hw.out]; omega⟩, ⟨by rw [hw.out, ST.out, HLF.out]⟩, ⟨HS.out.put _ G3.out.2.1 G3.out.2.2.1 G3.out.2.2.2⟩, ⟨Kd.R_far HRR.out (fun k hk => hk.2.2.2) _⟩, ⟨below_set HBB.out G3.out.1⟩⟩
          · have hd : decide (i < (ys.length : Int)) = false := decide_eq_false hlt
            have HLE : Aside0 (left = shTake q ys) := ⟨by rw [HLF.out, show i.toNat = ys.length by have := HI.out; omega, List.take_length]⟩
            have z0 : wr.cell? ⟨w.heap.size, 0, none⟩ = some (.slice A1 l1.length c1) := (blk_cell HS.out.b0 0).trans rfl
            have HGG := Aside0.mk (show shGive a3 l1 l1.length 0 ys left = some r by rw [HLE.out]; exact HG.out)
            go_wp2
            go_loopg [61] l1.length (fun kq v61 wr => ∃ (i left : Int) (xs : List Int), v61 = .int .i64 i ∧ Aside0 (0 ≤ i ∧ i + kq = l1.length) ∧ Aside0 (xs.length = l1.length) ∧ Aside0 (shGive a3 l1 kq i xs left = some r) ∧ Aside0 (ShB w.heap.size (w.heap.size + 1) g2 g3 A1 l1.length c1 a3 left (.slice A7 ys.length c7) wr) ∧ Aside0 (Kd.R (Kd.int .i64) 2 wr w.heap.size (shOk w.heap.size (w.heap.size + 1) g2 g3) (.slice A7 ys.length c7) xs) ∧ Aside0 (Below w.heap.size w wr))
            case atStart => exact ⟨0, left, ys, rfl, ⟨by omega⟩, HYL, HGG, HS, HRR, HBB⟩
            case round =>
              clear HGG HS HRR HBB z0 HLE
              obtain ⟨j, lf, xs, rfl, HJ, HXL, HA, HS, HRR, HBB⟩ := hrel
              by_cases hlj : j < (l1.length : Int)
              · have hdj : decide (j < (l1.length : Int)) = true := decide_eq_true hlj
                cases gk with
                | zero => exact absurd HJ.out.2 (by omega)
                | succ m =>
                  have HA2 := HA.out
                  rw [shGive] at HA2
                  obtain ⟨t, ht, HA3⟩ := Option.bind_eq_some_iff.mp HA2
                  have HGV := Aside0.mk (share_give w w.heap.size (w.heap.size + 1) g2 g3 A1 c1 l1 xs (.slice A7 ys.length c7) a3 lf j t wr HR.out HBB.out G3.out.1 G3.out.2.1 G3.out.2.2.1 G3.out.2.2.2 HS.out HRR.out HJ.out.1 hlj HXL.out ht)
                  have HA4 := Aside0.mk HA3
                  have hw := Aside0.mk (show wrap64 (j + 1) = j + 1 by have := HM.out; have := HJ.out; unfold wrap64; omega)
                  clear HA HA2 HA3 ht
                  go_wp2_with (go_at_call 48; refine HGV.out.mono ?_; rintro e w9 ⟨rfl, hb9, hs9, hr9⟩; have HB9 := Aside0.mk hb9; have HS9 := Aside0.mk hs9; have HR9 := Aside0.mk hr9; clear hb9 hs9 hr9)
                  go_roundg m
                  case measure => have := HJ.out; omega
                  case rel => exact ⟨wrap64 (j + 1), _, _, rfl, ⟨by have := HJ.out; rw [hw.out]; omega⟩, ⟨by rw [List.length_set]; exact HXL.out⟩, HA4, HS9, HR9, HB9⟩
              · have hdj : decide (j < (l1.length : Int)) = false := decide_eq_false hlj
                have z2 : wr.cell? ⟨g2, 0, none⟩ = some (.slice A7 ys.length c7) := (blk_cell HS.out.b2 0).trans rfl
                have HX : Aside0 (xs = r) := ⟨by
                  have h1 := HA.out
                  rw [show gk = 0 by have := HJ.out; omega] at h1
                  exact Option.some.inj h1⟩
                go_wp2
                go_ret
                exact ⟨_, rfl, by rw [← HX.out]; exact Kd.R_mono HRR.out (fun _ _ => trivial), HBB.out⟩
      · rw [if_neg hl] at h2; cases h2
    · rw [if_neg m2] at h
      have e2 : (a0 == 2) = false := beq_eq_false_iff_ne.mpr m2
      obtain rfl := Option.some.inj h
      clear h m2
      go_enter Try.func24, Try.ntmps24
      go_wp2_with (first | (go_at_call 26; rw [← HW.out]; refine HT1.out.mono ?_; rintro e w1 ⟨rfl, hb⟩; have HBA := Aside0.mk hb; have y1 := C1.out _ hb; clear hb) | (go_at_call 14; refine (HT2.out _).mono ?_; rintro e w2 ⟨rfl, hb⟩; have HBB := Aside0.mk (below_step HBA.out hb); clear hb))
      go_ret
      exact ⟨_, rfl, Kd.R_nil _ _ _ _ _, below_alloc (below_step HB.out HBB.out) _⟩

/-! ### jobberlaw16_lives: function 21 -/
def jobberlaw16_lives.f (k : Nat)  : Option (Bool) := (some (([(⟨0, 0, 0, 0, 6, 0⟩ : S46), (⟨0, 0, 0, 0, 6, 0⟩ : S46), (⟨0, 0, 0, 0, 3, 0⟩ : S46)] : List (S46)) : List (S46))).bind fun y134 => ((share_Share.f k 2 y134 10 1).bind fun t137 => ((jobberlaw16_Same.f k t137 (([4, 4, 2] : List Int))).bind fun t143 => (if t143 = true then ((share_Share.f k 2 y134 10 3).bind fun t144 => ((jobberlaw16_Same.f k t144 (([6, 3, 0] : List Int))).bind fun t150 => (if t150 = true then ((share_Share.f k 1 y134 10 1).bind fun t151 => ((jobberlaw16_Same.f k t151 (([6, 4, 0] : List Int))).bind fun t157 => (some t157))) else (some false)))) else (some false))))
theorem jobberlaw16_lives.mono : ∀ k, LeO (jobberlaw16_lives.f k ) (jobberlaw16_lives.f (k + 1) ) := by
  intro  k
  unfold jobberlaw16_lives.f
  repeat' first
      | (with_reducible exact jobberlaw16_Same.mono _ _ _)
      | (with_reducible exact share_Share.mono _ _ _ _ _)
      | (with_reducible exact LeO.refl _)
      | (with_reducible exact LeO.none _)
      | (with_reducible refine LeO.ite ?_ ?_)
      | (with_reducible refine LeO.bind ?_ (fun _ => ?_))
      | exact jobberlaw16_Same.mono _ _ _
      | exact share_Share.mono _ _ _ _ _
      | exact LeO.none _
      | refine LeO.ite ?_ ?_
      | refine LeO.bind ?_ (fun _ => ?_)
set_option maxHeartbeats 8000000 in
set_option maxRecDepth 100000 in
theorem jobberlaw16_lives.calls (k : Nat)  (r : Bool) (w : World) (h : jobberlaw16_lives.f k  = some r) :
    Calls Try.prog 21 #[] w fun e w' => e = .returned (.bool r) ∧ Below w.heap.size w w' := by
  have hu46 := Try.underlying46
  have HB := Aside0.mk (Below.refl w.heap.size w)
  have H : ((some (([(⟨0, 0, 0, 0, 6, 0⟩ : S46), (⟨0, 0, 0, 0, 6, 0⟩ : S46), (⟨0, 0, 0, 0, 3, 0⟩ : S46)] : List (S46)) : List (S46))).bind fun y134 => ((share_Share.f k 2 y134 10 1).bind fun t137 => ((jobberlaw16_Same.f k t137 (([4, 4, 2] : List Int))).bind fun t143 => (if t143 = true then ((share_Share.f k 2 y134 10 3).bind fun t144 => ((jobberlaw16_Same.f k t144 (([6, 3, 0] : List Int))).bind fun t150 => (if t150 = true then ((share_Share.f k 1 y134 10 1).bind fun t151 => ((jobberlaw16_Same.f k t151 (([6, 4, 0] : List Int))).bind fun t157 => (some t157))) else (some false)))) else (some false))))) = some r := h
  clear h
  obtain ⟨y134, hy134⟩ : ∃ y_ : List (S46), y_ = (([(⟨0, 0, 0, 0, 6, 0⟩ : S46), (⟨0, 0, 0, 0, 6, 0⟩ : S46), (⟨0, 0, 0, 0, 3, 0⟩ : S46)] : List (S46))) := ⟨_, rfl⟩
  replace H : ((share_Share.f k 2 y134 10 1).bind fun t137 => ((jobberlaw16_Same.f k t137 (([4, 4, 2] : List Int))).bind fun t143 => (if t143 = true then ((share_Share.f k 2 y134 10 3).bind fun t144 => ((jobberlaw16_Same.f k t144 (([6, 3, 0] : List Int))).bind fun t150 => (if t150 = true then ((share_Share.f k 1 y134 10 1).bind fun t151 => ((jobberlaw16_Same.f k t151 (([6, 4, 0] : List Int))).bind fun t157 => (some t157))) else (some false)))) else (some false)))) = some r := by first | (rw [hy134]; with_reducible exact H) | (have H2_ := (Option.bind_some _ _).symm.trans H; rw [hy134]; with_reducible exact H2_) | (have H2_ := (Option.bind_some _ _).symm.trans H; with_reducible exact H2_) | with_reducible exact H | (rw [hy134]; exact H) | exact H
  have Ny134 := Aside0.mk hy134
  clear hy134
  replace H := Option.bind_eq_some_iff.mp H
  obtain ⟨t137, A10, H⟩ := H
  replace H : ((jobberlaw16_Same.f k t137 (([4, 4, 2] : List Int))).bind fun t143 => (if t143 = true then ((share_Share.f k 2 y134 10 3).bind fun t144 => ((jobberlaw16_Same.f k t144 (([6, 3, 0] : List Int))).bind fun t150 => (if t150 = true then ((share_Share.f k 1 y134 10 1).bind fun t151 => ((jobberlaw16_Same.f k t151 (([6, 4, 0] : List Int))).bind fun t157 => (some t157))) else (some false)))) else (some false))) = some r := H
  have A1 := Aside0.mk A10
  clear A10
  obtain ⟨y140, hy140⟩ : ∃ y_ : List Int, y_ = (([4, 4, 2] : List Int)) := ⟨_, rfl⟩
  replace H : ((jobberlaw16_Same.f k t137 y140).bind fun t143 => (if t143 = true then ((share_Share.f k 2 y134 10 3).bind fun t144 => ((jobberlaw16_Same.f k t144 (([6, 3, 0] : List Int))).bind fun t150 => (if t150 = true then ((share_Share.f k 1 y134 10 1).bind fun t151 => ((jobberlaw16_Same.f k t151 (([6, 4, 0] : List Int))).bind fun t157 => (some t157))) else (some false)))) else (some false))) = some r := by first | (rw [hy140]; with_reducible exact H) | (have H2_ := (Option.bind_some _ _).symm.trans H; rw [hy140]; with_reducible exact H2_) | (have H2_ := (Option.bind_some _ _).symm.trans H; with_reducible exact H2_) | with_reducible exact H | (rw [hy140]; exact H) | exact H
  have Ny140 := Aside0.mk hy140
  clear hy140
  replace H := Option.bind_eq_some_iff.mp H
  obtain ⟨t143, A20, H⟩ := H
  replace H : (if t143 = true then ((share_Share.f k 2 y134 10 3).bind fun t144 => ((jobberlaw16_Same.f k t144 (([6, 3, 0] : List Int))).bind fun t150 => (if t150 = true then ((share_Share.f k 1 y134 10 1).bind fun t151 => ((jobberlaw16_Same.f k t151 (([6, 4, 0] : List Int))).bind fun t157 => (some t157))) else (some false)))) else (some false)) = some r := H
  have A2 := Aside0.mk A20
  clear A20
  by_cases c3 : t143 = true
  · subst c3
    have H1 : ((share_Share.f k 2 y134 10 3).bind fun t144 => ((jobberlaw16_Same.f k t144 (([6, 3, 0] : List Int))).bind fun t150 => (if t150 = true then ((share_Share.f k 1 y134 10 1).bind fun t151 => ((jobberlaw16_Same.f k t151 (([6, 4, 0] : List Int))).bind fun t157 => (some t157))) else (some false)))) = some r := by rw [if_pos rfl] at H; exact H
    clear H
    have H := H1
    clear H1
    replace H := Option.bind_eq_some_iff.mp H
    obtain ⟨t144, A40, H⟩ := H
    replace H : ((jobberlaw16_Same.f k t144 (([6, 3, 0] : List Int))).bind fun t150 => (if t150 = true then ((share_Share.f k 1 y134 10 1).bind fun t151 => ((jobberlaw16_Same.f k t151 (([6, 4, 0] : List Int))).bind fun t157 => (some t157))) else (some false))) = some r := H
    have A4 := Aside0.mk A40
    clear A40
    obtain ⟨y147, hy147⟩ : ∃ y_ : List Int, y_ = (([6, 3, 0] : List Int)) := ⟨_, rfl⟩
    replace H : ((jobberlaw16_Same.f k t144 y147).bind fun t150 => (if t150 = true then ((share_Share.f k 1 y134 10 1).bind fun t151 => ((jobberlaw16_Same.f k t151 (([6, 4, 0] : List Int))).bind fun t157 => (some t157))) else (some false))) = some r := by first | (rw [hy147]; with_reducible exact H) | (have H2_ := (Option.bind_some _ _).symm.trans H; rw [hy147]; with_reducible exact H2_) | (have H2_ := (Option.bind_some _ _).symm.trans H; with_reducible exact H2_) | with_reducible exact H | (rw [hy147]; exact H) | exact H
    have Ny147 := Aside0.mk hy147
    clear hy147
    replace H := Option.bind_eq_some_iff.mp H
    obtain ⟨t150, A50, H⟩ := H
    replace H : (if t150 = true then ((share_Share.f k 1 y134 10 1).bind fun t151 => ((jobberlaw16_Same.f k t151 (([6, 4, 0] : List Int))).bind fun t157 => (some t157))) else (some false)) = some r := H
    have A5 := Aside0.mk A50
    clear A50
    by_cases c6 : t150 = true
    · subst c6
      have H1 : ((share_Share.f k 1 y134 10 1).bind fun t151 => ((jobberlaw16_Same.f k t151 (([6, 4, 0] : List Int))).bind fun t157 => (some t157))) = some r := by rw [if_pos rfl] at H; exact H
      clear H
      have H := H1
      clear H1
      replace H := Option.bind_eq_some_iff.mp H
      obtain ⟨t151, A70, H⟩ := H
      replace H : ((jobberlaw16_Same.f k t151 (([6, 4, 0] : List Int))).bind fun t157 => (some t157)) = some r := H
      have A7 := Aside0.mk A70
      clear A70
      obtain ⟨y154, hy154⟩ : ∃ y_ : List Int, y_ = (([6, 4, 0] : List Int)) := ⟨_, rfl⟩
      replace H : ((jobberlaw16_Same.f k t151 y154).bind fun t157 => (some t157)) = some r := by first | (rw [hy154]; with_reducible exact H) | (have H2_ := (Option.bind_some _ _).symm.trans H; rw [hy154]; with_reducible exact H2_) | (have H2_ := (Option.bind_some _ _).symm.trans H; with_reducible exact H2_) | with_reducible exact H | (rw [hy154]; exact H) | exact H
      have Ny154 := Aside0.mk hy154
      clear hy154
      replace H := Option.bind_eq_some_iff.mp H
      obtain ⟨t157, A80, H⟩ := H
      replace H : (some t157) = some r := H
      have A8 := Aside0.mk A80
      clear A80
      obtain rfl := Option.some.inj H
      go_enter Try.func21, Try.ntmps21
      go_wp2_with (first | ((with_reducible refine gate_dst (N := 5) rfl ?_); (try (refine gate_guard (by rfl) ?_; dsimp only)); refine Kd.R_lit k46 _ 46 ?hg (N := 5) ?hd (xs := ([(⟨0, 0, 0, 0, 6, 0⟩ : S46), (⟨0, 0, 0, 0, 6, 0⟩ : S46), (⟨0, 0, 0, 0, 3, 0⟩ : S46)] : List (S46))) (inner := [.int .u64 0, .int .i64 0, .int .i64 0, .int .i64 0, .int .i64 6, .int .u64 0, .int .u64 0, .int .i64 0, .int .i64 0, .int .i64 0, .int .i64 6, .int .u64 0, .int .u64 0, .int .i64 0, .int .i64 0, .int .i64 0, .int .i64 3, .int .u64 0]) (ok := fun _ => True) (okp := fun _ => True) ?hr ?hp (fun _ hk => hk) trivial (Below.refl _ _) (Nat.le_refl _) (by simp) ?_; (case hd => rfl); (case hg => rfl); (case hr => first | (go_simp; done) | (go_simp; rfl)); (case hp => exact (Reps.c6 (show Kd.M k46 _ _ _ (⟨0, 0, 0, 0, 6, 0⟩ : S46) [.int .u64 0, .int .i64 0, .int .i64 0, .int .i64 0, .int .i64 6, .int .u64 0] from (k46_mkM _ _ _ (⟨0, 0, 0, 0, 6, 0⟩ : S46) )) (Reps.c6 (show Kd.M k46 _ _ _ (⟨0, 0, 0, 0, 6, 0⟩ : S46) [.int .u64 0, .int .i64 0, .int .i64 0, .int .i64 0, .int .i64 6, .int .u64 0] from (k46_mkM _ _ _ (⟨0, 0, 0, 0, 6, 0⟩ : S46) )) (Reps.c6 (show Kd.M k46 _ _ _ (⟨0, 0, 0, 0, 3, 0⟩ : S46) [.int .u64 0, .int .i64 0, .int .i64 0, .int .i64 0, .int .i64 3, .int .u64 0] from (k46_mkM _ _ _ (⟨0, 0, 0, 0, 3, 0⟩ : S46) )) (Reps.none _ _))))); intro v135 w9 ho10 hb hg_ hnew_; clear hg_ hnew_; (first | rw [← Ny134.out] at ho10 | (simp only [Int.reduceToNat] at ho10; rw [← Ny134.out] at ho10)); have n0_ := Aside0.mk (Kd.R_lower ho10 (below_size (by repeat (first | (with_reducible first | exact HB.out | apply below_alloc | apply pw_below_drewN | apply below_drew1) | exact HB.out)))); have n1_ := Aside0.mk (below_step (by repeat (first | (with_reducible first | exact HB.out | apply below_alloc | apply pw_below_drewN | apply below_drew1) | exact HB.out)) hb); clear HB; have HO136 := n0_; have HB := n1_; clear n0_ n1_; clear hb ho10; obtain ⟨Ao11, co11, eo11⟩ := Kd.R_slice HO136.out; subst eo11) | ((with_reducible refine gate_callee (f := 24) rfl ?_); refine goesL_ (some 7) rfl rfl Try.func24 (by kernel_rfl) rfl #[.int .i64 2, .slice Ao11 y134.length co11, .int .i64 10, .int .i64 1] rfl (by (try simp only [List.map_toArray, List.map_cons, List.map_nil]); first | done | rfl | (simp only [List.length_drop, List.length_take]; rfl)) ?_; (with_reducible refine (share_Share.calls k 2 _ _ y134 10 1 t137 _ ?side1 ?side2 A1.out).mono ?_); (case side1 => repeat (first | exact (Kd.R_reads' HO136.out).2.2 | (with_reducible refine Kd.C_alloc ?_ _) | (with_reducible refine Kd.C_drewN ?_ _) | (with_reducible refine Kd.C_drew ?_))); (case side2 => exact (Kd.R_reads' HO136.out).2.1); rintro e w12 ⟨v138, rfl, ho0, hb⟩; refine ⟨_, rfl, ?_⟩; have n0_ := Aside0.mk (Kd.R_below (by (with_reducible repeat (first | apply Kd.R_alloc | apply Kd.R_drewN | apply Kd.R_drew)); exact HO136.out) hb); have n1_ := Aside0.mk (Kd.R_lower ho0 (below_size (by repeat (first | (with_reducible first | exact HB.out | apply below_alloc | apply pw_below_drewN | apply below_drew1) | exact HB.out)))); have n2_ := Aside0.mk (below_step (by repeat (first | (with_reducible first | exact HB.out | apply below_alloc | apply pw_below_drewN | apply below_drew1) | exact HB.out)) hb); clear HO136; clear HB; have HO136 := n0_; have HO139 := n1_; have HB := n2_; clear n0_ n1_ n2_; (try clear hb); (try clear hb2); (try clear hk); (try clear hi); (try clear ho0)) | ((with_reducible refine gate_dst (N := 8) rfl ?_); (try (refine gate_guard (by rfl) ?_; dsimp only)); refine Kd.R_lit (Kd.int .i64) _ 2 ?hg (N := 8) ?hd (xs := ([4, 4, 2] : List Int)) (inner := [.int .i64 4, .int .i64 4, .int .i64 2]) (ok := fun _ => True) (okp := fun _ => True) ?hr ?hp (fun _ hk => hk) trivial (Below.refl _ _) (Nat.le_refl _) (by simp) ?_; (case hd => rfl); (case hg => rfl); (case hr => first | (go_simp; done) | (go_simp; rfl)); (case hp => exact (Reps.one (show Kd.M (Kd.int .i64) _ _ _ 4 [.int .i64 4] from rfl) (Reps.one (show Kd.M (Kd.int .i64) _ _ _ 4 [.int .i64 4] from rfl) (Reps.one (show Kd.M (Kd.int .i64) _ _ _ 2 [.int .i64 2] from rfl) (Reps.none _ _))))); intro v141 w13 ho14 hb hg_ hnew_; clear hg_ hnew_; (first | rw [← Ny140.out] at ho14 | (simp only [Int.reduceToNat] at ho14; rw [← Ny140.out] at ho14)); have n0_ := Aside0.mk (Kd.R_below (by (with_reducible repeat (first | apply Kd.R_alloc | apply Kd.R_drewN | apply Kd.R_drew)); exact HO136.out) hb); have n1_ := Aside0.mk (Kd.R_elder' (by (with_reducible repeat (first | apply Kd.R_alloc | apply Kd.R_drewN | apply Kd.R_drew)); exact HO139.out) (Kd.R_base ho14) hb); have n2_ := Aside0.mk (Kd.R_lower (Kd.R_new' ho14 (Kd.R_lt (by (with_reducible repeat (first | apply Kd.R_alloc | apply Kd.R_drewN | apply Kd.R_drew)); exact HO139.out))) (below_size (by repeat (first | (with_reducible first | exact HB.out | apply below_alloc | apply pw_below_drewN | apply below_drew1) | exact HB.out)))); have n3_ := Aside0.mk (below_step (by repeat (first | (with_reducible first | exact HB.out | apply below_alloc | apply pw_below_drewN | apply below_drew1) | exact HB.out)) hb); clear HO136; clear HO139; clear HB; have HO136 := n0_; have HO139 := n1_; have HO142 := n2_; have HB := n3_; clear n0_ n1_ n2_ n3_; clear hb ho14; obtain ⟨Ao15, co15, eo15⟩ := Kd.R_slice HO139.out; subst eo15; obtain ⟨Ao16, co16, eo16⟩ := Kd.R_slice HO142.out; subst eo16) | ((with_reducible refine gate_callee (f := 23) rfl ?_); refine goesL_ (some 9) rfl rfl Try.func23 (by kernel_rfl) rfl #[.slice Ao15 t137.length co15, .slice Ao16 y140.length co16] rfl (by (try simp only [List.map_toArray, List.map_cons, List.map_nil]); first | done | rfl | (simp only [List.length_drop, List.length_take]; rfl)) ?_; (with_reducible refine (jobberlaw16_Same.calls k _ _ t137 _ _ y140 true _ ?side1 ?side2 ?side3 ?side4 A2.out).mono ?_); (case side1 => repeat (first | exact (Kd.R_reads' HO139.out).2.2 | (with_reducible refine Kd.C_alloc ?_ _) | (with_reducible refine Kd.C_drewN ?_ _) | (with_reducible refine Kd.C_drew ?_))); (case side2 => exact (Kd.R_reads' HO139.out).2.1); (case side3 => repeat (first | exact (Kd.R_reads' HO142.out).2.2 | (with_reducible refine Kd.C_alloc ?_ _) | (with_reducible refine Kd.C_drewN ?_ _) | (with_reducible refine Kd.C_drew ?_))); (case side4 => exact (Kd.R_reads' HO142.out).2.1); rintro e w' ⟨rfl, ⟨nd, rfl⟩⟩; refine ⟨_, rfl, ?_⟩) | (go_at_call 24; (with_reducible refine (share_Share.calls k 2 _ _ y134 10 3 t144 _ ?side1 ?side2 A4.out).mono ?_); (case side1 => repeat (first | exact (Kd.R_reads' HO136.out).2.2 | (with_reducible refine Kd.C_alloc ?_ _) | (with_reducible refine Kd.C_drewN ?_ _) | (with_reducible refine Kd.C_drew ?_))); (case side2 => exact (Kd.R_reads' HO136.out).2.1); rintro e w17 ⟨v145, rfl, ho0, hb⟩; have n0_ := Aside0.mk (Kd.R_below (by (with_reducible repeat (first | apply Kd.R_alloc | apply Kd.R_drewN | apply Kd.R_drew)); exact HO136.out) hb); have n1_ := Aside0.mk (Kd.R_elder' (by (with_reducible repeat (first | apply Kd.R_alloc | apply Kd.R_drewN | apply Kd.R_drew)); exact HO139.out) (Kd.R_base ho0) hb); have n2_ := Aside0.mk (Kd.R_elder' (by (with_reducible repeat (first | apply Kd.R_alloc | apply Kd.R_drewN | apply Kd.R_drew)); exact HO142.out) (Kd.R_base ho0) hb); have n3_ := Aside0.mk (Kd.R_lower (Kd.R_new' (Kd.R_new' ho0 (Kd.R_lt (by (with_reducible repeat (first | apply Kd.R_alloc | apply Kd.R_drewN | apply Kd.R_drew)); exact HO139.out))) (Kd.R_lt (by (with_reducible repeat (first | apply Kd.R_alloc | apply Kd.R_drewN | apply Kd.R_drew)); exact HO142.out))) (below_size (by repeat (first | (with_reducible first | exact HB.out | apply below_alloc | apply pw_below_drewN | apply below_drew1) | exact HB.out)))); have n4_ := Aside0.mk (below_step (by repeat (first | (with_reducible first | exact HB.out | apply below_alloc | apply pw_below_drewN | apply below_drew1) | exact HB.out)) hb); clear HO136; clear HO139; clear HO142; clear HB; have HO136 := n0_; have HO139 := n1_; have HO142 := n2_; have HO146 := n3_; have HB := n4_; clear n0_ n1_ n2_ n3_ n4_; (try clear hb); (try clear hb2); (try clear hk); (try clear hi); (try clear ho0)) | ((with_reducible refine gate_dst (N := 13) rfl ?_); (try (refine gate_guard (by rfl) ?_; dsimp only)); refine Kd.R_lit (Kd.int .i64) _ 2 ?hg (N := 13) ?hd (xs := ([6, 3, 0] : List Int)) (inner := [.int .i64 6, .int .i64 3, .int .i64 0]) (ok := fun _ => True) (okp := fun _ => True) ?hr ?hp (fun _ hk => hk) trivial (Below.refl _ _) (Nat.le_refl _) (by simp) ?_; (case hd => rfl); (case hg => rfl); (case hr => first | (go_simp; done) | (go_simp; rfl)); (case hp => exact (Reps.one (show Kd.M (Kd.int .i64) _ _ _ 6 [.int .i64 6] from rfl) (Reps.one (show Kd.M (Kd.int .i64) _ _ _ 3 [.int .i64 3] from rfl) (Reps.one (show Kd.M (Kd.int .i64) _ _ _ 0 [.int .i64 0] from rfl) (Reps.none _ _))))); intro v148 w18 ho19 hb hg_ hnew_; clear hg_ hnew_; (first | rw [← Ny147.out] at ho19 | (simp only [Int.reduceToNat] at ho19; rw [← Ny147.out] at ho19)); have n0_ := Aside0.mk (Kd.R_below (by (with_reducible repeat (first | apply Kd.R_alloc | apply Kd.R_drewN | apply Kd.R_drew)); exact HO136.out) hb); have n1_ := Aside0.mk (Kd.R_elder' (by (with_reducible repeat (first | apply Kd.R_alloc | apply Kd.R_drewN | apply Kd.R_drew)); exact HO139.out) (Kd.R_base ho19) hb); have n2_ := Aside0.mk (Kd.R_elder' (by (with_reducible repeat (first | apply Kd.R_alloc | apply Kd.R_drewN | apply Kd.R_drew)); exact HO142.out) (Kd.R_base ho19) hb); have n3_ := Aside0.mk (Kd.R_elder' (by (with_reducible repeat (first | apply Kd.R_alloc | apply Kd.R_drewN | apply Kd.R_drew)); exact HO146.out) (Kd.R_base ho19) hb); have n4_ := Aside0.mk (Kd.R_lower (Kd.R_new' (Kd.R_new' (Kd.R_new' ho19 (Kd.R_lt (by (with_reducible repeat (first | apply Kd.R_alloc | apply Kd.R_drewN | apply Kd.R_drew)); exact HO139.out))) (Kd.R_lt (by (with_reducible repeat (first | apply Kd.R_alloc | apply Kd.R_drewN | apply Kd.R_drew)); exact HO142.out))) (Kd.R_lt (by (with_reducible repeat (first | apply Kd.R_alloc | apply Kd.R_drewN | apply Kd.R_drew)); exact HO146.out))) (below_size (by repeat (first | (with_reducible first | exact HB.out | apply below_alloc | apply pw_below_drewN | apply below_drew1) | exact HB.out)))); have n5_ := Aside0.mk (below_step (by repeat (first | (with_reducible first | exact HB.out | apply below_alloc | apply pw_below_drewN | apply below_drew1) | exact HB.out)) hb); clear HO136; clear HO139; clear HO142; clear HO146; clear HB; have HO136 := n0_; have HO139 := n1_; have HO142 := n2_; have HO146 := n3_; have HO149 := n4_; have HB := n5_; clear n0_ n1_ n2_ n3_ n4_ n5_; clear hb ho19; obtain ⟨Ao20, co20, eo20⟩ := Kd.R_slice HO146.out; subst eo20; obtain ⟨Ao21, co21, eo21⟩ := Kd.R_slice HO149.out; subst eo21) | (go_at_call 23; (with_reducible refine (jobberlaw16_Same.calls k _ _ t144 _ _ y147 true _ ?side1 ?side2 ?side3 ?side4 A5.out).mono ?_); (case side1 => repeat (first | exact (Kd.R_reads' HO146.out).2.2 | (with_reducible refine Kd.C_alloc ?_ _) | (with_reducible refine Kd.C_drewN ?_ _) | (with_reducible refine Kd.C_drew ?_))); (case side2 => exact (Kd.R_reads' HO146.out).2.1); (case side3 => repeat (first | exact (Kd.R_reads' HO149.out).2.2 | (with_reducible refine Kd.C_alloc ?_ _) | (with_reducible refine Kd.C_drewN ?_ _) | (with_reducible refine Kd.C_drew ?_))); (case side4 => exact (Kd.R_reads' HO149.out).2.1); rintro e w' ⟨rfl, ⟨nd, rfl⟩⟩) | (go_at_call 24; (with_reducible refine (share_Share.calls k 1 _ _ y134 10 1 t151 _ ?side1 ?side2 A7.out).mono ?_); (case side1 => repeat (first | exact (Kd.R_reads' HO136.out).2.2 | (with_reducible refine Kd.C_alloc ?_ _) | (with_reducible refine Kd.C_drewN ?_ _) | (with_reducible refine Kd.C_drew ?_))); (case side2 => exact (Kd.R_reads' HO136.out).2.1); rintro e w22 ⟨v152, rfl, ho0, hb⟩; have n0_ := Aside0.mk (Kd.R_below (by (with_reducible repeat (first | apply Kd.R_alloc | apply Kd.R_drewN | apply Kd.R_drew)); exact HO136.out) hb); have n1_ := Aside0.mk (Kd.R_elder' (by (with_reducible repeat (first | apply Kd.R_alloc | apply Kd.R_drewN | apply Kd.R_drew)); exact HO139.out) (Kd.R_base ho0) hb); have n2_ := Aside0.mk (Kd.R_elder' (by (with_reducible repeat (first | apply Kd.R_alloc | apply Kd.R_drewN | apply Kd.R_drew)); exact HO142.out) (Kd.R_base ho0) hb); have n3_ := Aside0.mk (Kd.R_elder' (by (with_reducible repeat (first | apply Kd.R_alloc | apply Kd.R_drewN | apply Kd.R_drew)); exact HO146.out) (Kd.R_base ho0) hb); have n4_ := Aside0.mk (Kd.R_elder' (by (with_reducible repeat (first | apply Kd.R_alloc | apply Kd.R_drewN | apply Kd.R_drew)); exact HO149.out) (Kd.R_base ho0) hb); have n5_ := Aside0.mk (Kd.R_lower (Kd.R_new' (Kd.R_new' (Kd.R_new' (Kd.R_new' ho0 (Kd.R_lt (by (with_reducible repeat (first | apply Kd.R_alloc | apply Kd.R_drewN | apply Kd.R_drew)); exact HO139.out))) (Kd.R_lt (by (with_reducible repeat (first | apply Kd.R_alloc | apply Kd.R_drewN | apply Kd.R_drew)); exact HO142.out))) (Kd.R_lt (by (with_reducible repeat (first | apply Kd.R_alloc | apply Kd.R_drewN | apply Kd.R_drew)); exact HO146.out))) (Kd.R_lt (by (with_reducible repeat (first | apply Kd.R_alloc | apply Kd.R_drewN | apply Kd.R_drew)); exact HO149.out))) (below_size (by repeat (first | (with_reducible first | exact HB.out | apply below_alloc | apply pw_below_drewN | apply below_drew1) | exact HB.out)))); have n6_ := Aside0.mk (below_step (by repeat (first | (with_reducible first | exact HB.out | apply below_alloc | apply pw_below_drewN | apply below_drew1) | exact HB.out)) hb); clear HO136; clear HO139; clear HO142; clear HO146; clear HO149; clear HB; have HO136 := n0_; have HO139 := n1_; have HO142 := n2_; have HO146 := n3_; have HO149 := n4_; have HO153 := n5_; have HB := n6_; clear n0_ n1_ n2_ n3_ n4_ n5_ n6_; (try clear hb); (try clear hb2); (try clear hk); (try clear hi); (try clear ho0)) | ((with_reducible refine gate_dst (N := 19) rfl ?_); (try (refine gate_guard (by rfl) ?_; dsimp only)); refine Kd.R_lit (Kd.int .i64) _ 2 ?hg (N := 19) ?hd (xs := ([6, 4, 0] : List Int)) (inner := [.int .i64 6, .int .i64 4, .int .i64 0]) (ok := fun _ => True) (okp := fun _ => True) ?hr ?hp (fun _ hk => hk) trivial (Below.refl _ _) (Nat.le_refl _) (by simp) ?_; (case hd => rfl); (case hg => rfl); (case hr => first | (go_simp; done) | (go_simp; rfl)); (case hp => exact (Reps.one (show Kd.M (Kd.int .i64) _ _ _ 6 [.int .i64 6] from rfl) (Reps.one (show Kd.M (Kd.int .i64) _ _ _ 4 [.int .i64 4] from rfl) (Reps.one (show Kd.M (Kd.int .i64) _ _ _ 0 [.int .i64 0] from rfl) (Reps.none _ _))))); intro v155 w23 ho24 hb hg_ hnew_; clear hg_ hnew_; (first | rw [← Ny154.out] at ho24 | (simp only [Int.reduceToNat] at ho24; rw [← Ny154.out] at ho24)); have n0_ := Aside0.mk (Kd.R_below (by (with_reducible repeat (first | apply Kd.R_alloc | apply Kd.R_drewN | apply Kd.R_drew)); exact HO136.out) hb); have n1_ := Aside0.mk (Kd.R_elder' (by (with_reducible repeat (first | apply Kd.R_alloc | apply Kd.R_drewN | apply Kd.R_drew)); exact HO139.out) (Kd.R_base ho24) hb); have n2_ := Aside0.mk (Kd.R_elder' (by (with_reducible repeat (first | apply Kd.R_alloc | apply Kd.R_drewN | apply Kd.R_drew)); exact HO142.out) (Kd.R_base ho24) hb); have n3_ := Aside0.mk (Kd.R_elder' (by (with_reducible repeat (first | apply Kd.R_alloc | apply Kd.R_drewN | apply Kd.R_drew)); exact HO146.out) (Kd.R_base ho24) hb); have n4_ := Aside0.mk (Kd.R_elder' (by (with_reducible repeat (first | apply Kd.R_alloc | apply Kd.R_drewN | apply Kd.R_drew)); exact HO149.out) (Kd.R_base ho24) hb); have n5_ := Aside0.mk (Kd.R_elder' (by (with_reducible repeat (first | apply Kd.R_alloc | apply Kd.R_drewN | apply Kd.R_drew)); exact HO153.out) (Kd.R_base ho24) hb); have n6_ := Aside0.mk (Kd.R_lower (Kd.R_new' (Kd.R_new' (Kd.R_new' (Kd.R_new' (Kd.R_new' ho24 (Kd.R_lt (by (with_reducible repeat (first | apply Kd.R_alloc | apply Kd.R_drewN | apply Kd.R_drew)); exact HO139.out))) (Kd.R_lt (by (with_reducible repeat (first | apply Kd.R_alloc | apply Kd.R_drewN | apply Kd.R_drew)); exact HO142.out))) (Kd.R_lt (by (with_reducible repeat (first | apply Kd.R_alloc | apply Kd.R_drewN | apply Kd.R_drew)); exact HO146.out))) (Kd.R_lt (by (with_reducible repeat (first | apply Kd.R_alloc | apply Kd.R_drewN | apply Kd.R_drew)); exact HO149.out))) (Kd.R_lt (by (with_reducible repeat (first | apply Kd.R_alloc | apply Kd.R_drewN | apply Kd.R_drew)); exact HO153.out))) (below_size (by repeat (first | (with_reducible first | exact HB.out | apply below_alloc | apply pw_below_drewN | apply below_drew1) | exact HB.out)))); have n7_ := Aside0.mk (below_step (by repeat (first | (with_reducible first | exact HB.out | apply below_alloc | apply pw_below_drewN | apply below_drew1) | exact HB.out)) hb); clear HO136; clear HO139; clear HO142; clear HO146; clear HO149; clear HO153; clear HB; have HO136 := n0_; have HO139 := n1_; have HO142 := n2_; have HO146 := n3_; have HO149 := n4_; have HO153 := n5_; have HO156 := n6_; have HB := n7_; clear n0_ n1_ n2_ n3_ n4_ n5_ n6_ n7_; clear hb ho24; obtain ⟨Ao25, co25, eo25⟩ := Kd.R_slice HO153.out; subst eo25; obtain ⟨Ao26, co26, eo26⟩ := Kd.R_slice HO156.out; subst eo26) | (go_at_call 23; (with_reducible refine (jobberlaw16_Same.calls k _ _ t151 _ _ y154 t157 _ ?side1 ?side2 ?side3 ?side4 A8.out).mono ?_); (case side1 => repeat (first | exact (Kd.R_reads' HO153.out).2.2 | (with_reducible refine Kd.C_alloc ?_ _) | (with_reducible refine Kd.C_drewN ?_ _) | (with_reducible refine Kd.C_drew ?_))); (case side2 => exact (Kd.R_reads' HO153.out).2.1); (case side3 => repeat (first | exact (Kd.R_reads' HO156.out).2.2 | (with_reducible refine Kd.C_alloc ?_ _) | (with_reducible refine Kd.C_drewN ?_ _) | (with_reducible refine Kd.C_drew ?_))); (case side4 => exact (Kd.R_reads' HO156.out).2.1); rintro e w' ⟨rfl, ⟨nd, rfl⟩⟩))
      go_ret
      exact ⟨by first | rfl | (simp [errW_none, errW_some] <;> rfl) | (simp [*, errW_none, errW_some] <;> rfl), by repeat (first | (with_reducible first | exact HB.out | apply below_alloc | apply pw_below_drewN | apply below_drew1) | exact HB.out)⟩
    · replace c6 := Bool.eq_false_iff.mpr c6
      subst c6
      have H1 : (some false) = some r := by rw [if_neg (show ¬ (false = true) by decide)] at H; exact H
      clear H
      have H := H1
      clear H1
      obtain rfl := Option.some.inj H
      go_enter Try.func21, Try.ntmps21
      go_wp2_with (first | ((with_reducible refine gate_dst (N := 5) rfl ?_); (try (refine gate_guard (by rfl) ?_; dsimp only)); refine Kd.R_lit k46 _ 46 ?hg (N := 5) ?hd (xs := ([(⟨0, 0, 0, 0, 6, 0⟩ : S46), (⟨0, 0, 0, 0, 6, 0⟩ : S46), (⟨0, 0, 0, 0, 3, 0⟩ : S46)] : List (S46))) (inner := [.int .u64 0, .int .i64 0, .int .i64 0, .int .i64 0, .int .i64 6, .int .u64 0, .int .u64 0, .int .i64 0, .int .i64 0, .int .i64 0, .int .i64 6, .int .u64 0, .int .u64 0, .int .i64 0, .int .i64 0, .int .i64 0, .int .i64 3, .int .u64 0]) (ok := fun _ => True) (okp := fun _ => True) ?hr ?hp (fun _ hk => hk) trivial (Below.refl _ _) (Nat.le_refl _) (by simp) ?_; (case hd => rfl); (case hg => rfl); (case hr => first | (go_simp; done) | (go_simp; rfl)); (case hp => exact (Reps.c6 (show Kd.M k46 _ _ _ (⟨0, 0, 0, 0, 6, 0⟩ : S46) [.int .u64 0, .int .i64 0, .int .i64 0, .int .i64 0, .int .i64 6, .int .u64 0] from (k46_mkM _ _ _ (⟨0, 0, 0, 0, 6, 0⟩ : S46) )) (Reps.c6 (show Kd.M k46 _ _ _ (⟨0, 0, 0, 0, 6, 0⟩ : S46) [.int .u64 0, .int .i64 0, .int .i64 0, .int .i64 0, .int .i64 6, .int .u64 0] from (k46_mkM _ _ _ (⟨0, 0, 0, 0, 6, 0⟩ : S46) )) (Reps.c6 (show Kd.M k46 _ _ _ (⟨0, 0, 0, 0, 3, 0⟩ : S46) [.int .u64 0, .int .i64 0, .int .i64 0, .int .i64 0, .int .i64 3, .int .u64 0] from (k46_mkM _ _ _ (⟨0, 0, 0, 0, 3, 0⟩ : S46) )) (Reps.none _ _))))); intro v135 w27 ho28 hb hg_ hnew_; clear hg_ hnew_; (first | rw [← Ny134.out] at ho28 | (simp only [Int.reduceToNat] at ho28; rw [← Ny134.out] at ho28)); have n0_ := Aside0.mk (Kd.R_lower ho28 (below_size (by repeat (first | (with_reducible first | exact HB.out | apply below_alloc | apply pw_below_drewN | apply below_drew1) | exact HB.out)))); have n1_ := Aside0.mk (below_step (by repeat (first | (with_reducible first | exact HB.out | apply below_alloc | apply pw_below_drewN | apply below_drew1) | exact HB.out)) hb); clear HB; have HO136 := n0_; have HB := n1_; clear n0_ n1_; clear hb ho28; obtain ⟨Ao29, co29, eo29⟩ := Kd.R_slice HO136.out; subst eo29) | ((with_reducible refine gate_callee (f := 24) rfl ?_); refine goesL_ (some 7) rfl rfl Try.func24 (by kernel_rfl) rfl #[.int .i64 2, .slice Ao29 y134.length co29, .int .i64 10, .int .i64 1] rfl (by (try simp only [List.map_toArray, List.map_cons, List.map_nil]); first | done | rfl | (simp only [List.length_drop, List.length_take]; rfl)) ?_; (with_reducible refine (share_Share.calls k 2 _ _ y134 10 1 t137 _ ?side1 ?side2 A1.out).mono ?_); (case side1 => repeat (first | exact (Kd.R_reads' HO136.out).2.2 | (with_reducible refine Kd.C_alloc ?_ _) | (with_reducible refine Kd.C_drewN ?_ _) | (with_reducible refine Kd.C_drew ?_))); (case side2 => exact (Kd.R_reads' HO136.out).2.1); rintro e w30 ⟨v138, rfl, ho0, hb⟩; refine ⟨_, rfl, ?_⟩; have n0_ := Aside0.mk (Kd.R_below (by (with_reducible repeat (first | apply Kd.R_alloc | apply Kd.R_drewN | apply Kd.R_drew)); exact HO136.out) hb); have n1_ := Aside0.mk (Kd.R_lower ho0 (below_size (by repeat (first | (with_reducible first | exact HB.out | apply below_alloc | apply pw_below_drewN | apply below_drew1) | exact HB.out)))); have n2_ := Aside0.mk (below_step (by repeat (first | (with_reducible first | exact HB.out | apply below_alloc | apply pw_below_drewN | apply below_drew1) | exact HB.out)) hb); clear HO136; clear HB; have HO136 := n0_; have HO139 := n1_; have HB := n2_; clear n0_ n1_ n2_; (try clear hb); (try clear hb2); (try clear hk); (try clear hi); (try clear ho0)) | ((with_reducible refine gate_dst (N := 8) rfl ?_); (try (refine gate_guard (by rfl) ?_; dsimp only)); refine Kd.R_lit (Kd.int .i64) _ 2 ?hg (N := 8) ?hd (xs := ([4, 4, 2] : List Int)) (inner := [.int .i64 4, .int .i64 4, .int .i64 2]) (ok := fun _ => True) (okp := fun _ => True) ?hr ?hp (fun _ hk => hk) trivial (Below.refl _ _) (Nat.le_refl _) (by simp) ?_; (case hd => rfl); (case hg => rfl); (case hr => first | (go_simp; done) | (go_simp; rfl)); (case hp => exact (Reps.one (show Kd.M (Kd.int .i64) _ _ _ 4 [.int .i64 4] from rfl) (Reps.one (show Kd.M (Kd.int .i64) _ _ _ 4 [.int .i64 4] from rfl) (Reps.one (show Kd.M (Kd.int .i64) _ _ _ 2 [.int .i64 2] from rfl) (Reps.none _ _))))); intro v141 w31 ho32 hb hg_ hnew_; clear hg_ hnew_; (first | rw [← Ny140.out] at ho32 | (simp only [Int.reduceToNat] at ho32; rw [← Ny140.out] at ho32)); have n0_ := Aside0.mk (Kd.R_below (by (with_reducible repeat (first | apply Kd.R_alloc | apply Kd.R_drewN | apply Kd.R_drew)); exact HO136.out) hb); have n1_ := Aside0.mk (Kd.R_elder' (by (with_reducible repeat (first | apply Kd.R_alloc | apply Kd.R_drewN | apply Kd.R_drew)); exact HO139.out) (Kd.R_base ho32) hb); have n2_ := Aside0.mk (Kd.R_lower (Kd.R_new' ho32 (Kd.R_lt (by (with_reducible repeat (first | apply Kd.R_alloc | apply Kd.R_drewN | apply Kd.R_drew)); exact HO139.out))) (below_size (by repeat (first | (with_reducible first | exact HB.out | apply below_alloc | apply pw_below_drewN | apply below_drew1) | exact HB.out)))); have n3_ := Aside0.mk (below_step (by repeat (first | (with_reducible first | exact HB.out | apply below_alloc | apply pw_below_drewN | apply below_drew1) | exact HB.out)) hb); clear HO136; clear HO139; clear HB; have HO136 := n0_; have HO139 := n1_; have HO142 := n2_; have HB := n3_; clear n0_ n1_ n2_ n3_; clear hb ho32; obtain ⟨Ao33, co33, eo33⟩ := Kd.R_slice HO139.out; subst eo33; obtain ⟨Ao34, co34, eo34⟩ := Kd.R_slice HO142.out; subst eo34) | ((with_reducible refine gate_callee (f := 23) rfl ?_); refine goesL_ (some 9) rfl rfl Try.func23 (by kernel_rfl) rfl #[.slice Ao33 t137.length co33, .slice Ao34 y140.length co34] rfl (by (try simp only [List.map_toArray, List.map_cons, List.map_nil]); first | done | rfl | (simp only [List.length_drop, List.length_take]; rfl)) ?_; (with_reducible refine (jobberlaw16_Same.calls k _ _ t137 _ _ y140 true _ ?side1 ?side2 ?side3 ?side4 A2.out).mono ?_); (case side1 => repeat (first | exact (Kd.R_reads' HO139.out).2.2 | (with_reducible refine Kd.C_alloc ?_ _) | (with_reducible refine Kd.C_drewN ?_ _) | (with_reducible refine Kd.C_drew ?_))); (case side2 => exact (Kd.R_reads' HO139.out).2.1); (case side3 => repeat (first | exact (Kd.R_reads' HO142.out).2.2 | (with_reducible refine Kd.C_alloc ?_ _) | (with_reducible refine Kd.C_drewN ?_ _) | (with_reducible refine Kd.C_drew ?_))); (case side4 => exact (Kd.R_reads' HO142.out).2.1); rintro e w' ⟨rfl, ⟨nd, rfl⟩⟩; refine ⟨_, rfl, ?_⟩) | (go_at_call 24; (with_reducible refine (share_Share.calls k 2 _ _ y134 10 3 t144 _ ?side1 ?side2 A4.out).mono ?_); (case side1 => repeat (first | exact (Kd.R_reads' HO136.out).2.2 | (with_reducible refine Kd.C_alloc ?_ _) | (with_reducible refine Kd.C_drewN ?_ _) | (with_reducible refine Kd.C_drew ?_))); (case side2 => exact (Kd.R_reads' HO136.out).2.1); rintro e w35 ⟨v145, rfl, ho0, hb⟩; have n0_ := Aside0.mk (Kd.R_below (by (with_reducible repeat (first | apply Kd.R_alloc | apply Kd.R_drewN | apply Kd.R_drew)); exact HO136.out) hb); have n1_ := Aside0.mk (Kd.R_elder' (by (with_reducible repeat (first | apply Kd.R_alloc | apply Kd.R_drewN | apply Kd.R_drew)); exact HO139.out) (Kd.R_base ho0) hb); have n2_ := Aside0.mk (Kd.R_elder' (by (with_reducible repeat (first | apply Kd.R_alloc | apply Kd.R_drewN | apply Kd.R_drew)); exact HO142.out) (Kd.R_base ho0) hb); have n3_ := Aside0.mk (Kd.R_lower (Kd.R_new' (Kd.R_new' ho0 (Kd.R_lt (by (with_reducible repeat (first | apply Kd.R_alloc | apply Kd.R_drewN | apply Kd.R_drew)); exact HO139.out))) (Kd.R_lt (by (with_reducible repeat (first | apply Kd.R_alloc | apply Kd.R_drewN | apply Kd.R_drew)); exact HO142.out))) (below_size (by repeat (first | (with_reducible first | exact HB.out | apply below_alloc | apply pw_below_drewN | apply below_drew1) | exact HB.out)))); have n4_ := Aside0.mk (below_step (by repeat (first | (with_reducible first | exact HB.out | apply below_alloc | apply pw_below_drewN | apply below_drew1) | exact HB.out)) hb); clear HO136; clear HO139; clear HO142; clear HB; have HO136 := n0_; have HO139 := n1_; have HO142 := n2_; have HO146 := n3_; have HB := n4_; clear n0_ n1_ n2_ n3_ n4_; (try clear hb); (try clear hb2); (try clear hk); (try clear hi); (try clear ho0)) | ((with_reducible refine gate_dst (N := 13) rfl ?_); (try (refine gate_guard (by rfl) ?_; dsimp only)); refine Kd.R_lit (Kd.int .i64) _ 2 ?hg (N := 13) ?hd (xs := ([6, 3, 0] : List Int)) (inner := [.int .i64 6, .int .i64 3, .int .i64 0]) (ok := fun _ => True) (okp := fun _ => True) ?hr ?hp (fun _ hk => hk) trivial (Below.refl _ _) (Nat.le_refl _) (by simp) ?_; (case hd => rfl); (case hg => rfl); (case hr => first | (go_simp; done) | (go_simp; rfl)); (case hp => exact (Reps.one (show Kd.M (Kd.int .i64) _ _ _ 6 [.int .i64 6] from rfl) (Reps.one (show Kd.M (Kd.int .i64) _ _ _ 3 [.int .i64 3] from rfl) (Reps.one (show Kd.M (Kd.int .i64) _ _ _ 0 [.int .i64 0] from rfl) (Reps.none _ _))))); intro v148 w36 ho37 hb hg_ hnew_; clear hg_ hnew_; (first | rw [← Ny147.out] at ho37 | (simp only [Int.reduceToNat] at ho37; rw [← Ny147.out] at ho37)); have n0_ := Aside0.mk (Kd.R_below (by (with_reducible repeat (first | apply Kd.R_alloc | apply Kd.R_drewN | apply Kd.R_drew)); exact HO136.out) hb); have n1_ := Aside0.mk (Kd.R_elder' (by (with_reducible repeat (first | apply Kd.R_alloc | apply Kd.R_drewN | apply Kd.R_drew)); exact HO139.out) (Kd.R_base ho37) hb); have n2_ := Aside0.mk (Kd.R_elder' (by (with_reducible repeat (first | apply Kd.R_alloc | apply Kd.R_drewN | apply Kd.R_drew)); exact HO142.out) (Kd.R_base ho37) hb); have n3_ := Aside0.mk (Kd.R_elder' (by (with_reducible repeat (first | apply Kd.R_alloc | apply Kd.R_drewN | apply Kd.R_drew)); exact HO146.out) (Kd.R_base ho37) hb); have n4_ := Aside0.mk (Kd.R_lower (Kd.R_new' (Kd.R_new' (Kd.R_new' ho37 (Kd.R_lt (by (with_reducible repeat (first | apply Kd.R_alloc | apply Kd.R_drewN | apply Kd.R_drew)); exact HO139.out))) (Kd.R_lt (by (with_reducible repeat (first | apply Kd.R_alloc | apply Kd.R_drewN | apply Kd.R_drew)); exact HO142.out))) (Kd.R_lt (by (with_reducible repeat (first | apply Kd.R_alloc | apply Kd.R_drewN | apply Kd.R_drew)); exact HO146.out))) (below_size (by repeat (first | (with_reducible first | exact HB.out | apply below_alloc | apply pw_below_drewN | apply below_drew1) | exact HB.out)))); have n5_ := Aside0.mk (below_step (by repeat (first | (with_reducible first | exact HB.out | apply below_alloc | apply pw_below_drewN | apply below_drew1) | exact HB.out)) hb); clear HO136; clear HO139; clear HO142; clear HO146; clear HB; have HO136 := n0_; have HO139 := n1_; have HO142 := n2_; have HO146 := n3_; have HO149 := n4_; have HB := n5_; clear n0_ n1_ n2_ n3_ n4_ n5_; clear hb ho37; obtain ⟨Ao38, co38, eo38⟩ := Kd.R_slice HO146.out; subst eo38; obtain ⟨Ao39, co39, eo39⟩ := Kd.R_slice HO149.out; subst eo39) | (go_at_call 23; (with_reducible refine (jobberlaw16_Same.calls k _ _ t144 _ _ y147 false _ ?side1 ?side2 ?side3 ?side4 A5.out).mono ?_); (case side1 => repeat (first | exact (Kd.R_reads' HO146.out).2.2 | (with_reducible refine Kd.C_alloc ?_ _) | (with_reducible refine Kd.C_drewN ?_ _) | (with_reducible refine Kd.C_drew ?_))); (case side2 => exact (Kd.R_reads' HO146.out).2.1); (case side3 => repeat (first | exact (Kd.R_reads' HO149.out).2.2 | (with_reducible refine Kd.C_alloc ?_ _) | (with_reducible refine Kd.C_drewN ?_ _) | (with_reducible refine Kd.C_drew ?_))); (case side4 => exact (Kd.R_reads' HO149.out).2.1); rintro e w' ⟨rfl, ⟨nd, rfl⟩⟩))
      go_ret
      exact ⟨by first | rfl | (simp [errW_none, errW_some] <;> rfl) | (simp [*, errW_none, errW_some] <;> rfl), by repeat (first | (with_reducible first | exact HB.out | apply below_alloc | apply pw_below_drewN | apply below_drew1) | exact HB.out)⟩
  · replace c3 := Bool.eq_false_iff.mpr c3
    subst c3
    have H1 : (some false) = some r := by rw [if_neg (show ¬ (false = true) by decide)] at H; exact H
    clear H
    have H := H1
    clear H1
    obtain rfl := Option.some.inj H
    go_enter Try.func21, Try.ntmps21
    go_wp2_with (first | ((with_reducible refine gate_dst (N := 5) rfl ?_); (try (refine gate_guard (by rfl) ?_; dsimp only)); refine Kd.R_lit k46 _ 46 ?hg (N := 5) ?hd (xs := ([(⟨0, 0, 0, 0, 6, 0⟩ : S46), (⟨0, 0, 0, 0, 6, 0⟩ : S46), (⟨0, 0, 0, 0, 3, 0⟩ : S46)] : List (S46))) (inner := [.int .u64 0, .int .i64 0, .int .i64 0, .int .i64 0, .int .i64 6, .int .u64 0, .int .u64 0, .int .i64 0, .int .i64 0, .int .i64 0, .int .i64 6, .int .u64 0, .int .u64 0, .int .i64 0, .int .i64 0, .int .i64 0, .int .i64 3, .int .u64 0]) (ok := fun _ => True) (okp := fun _ => True) ?hr ?hp (fun _ hk => hk) trivial (Below.refl _ _) (Nat.le_refl _) (by simp) ?_; (case hd => rfl); (case hg => rfl); (case hr => first | (go_simp; done) | (go_simp; rfl)); (case hp => exact (Reps.c6 (show Kd.M k46 _ _ _ (⟨0, 0, 0, 0, 6, 0⟩ : S46) [.int .u64 0, .int .i64 0, .int .i64 0, .int .i64 0, .int .i64 6, .int .u64 0] from (k46_mkM _ _ _ (⟨0, 0, 0, 0, 6, 0⟩ : S46) )) (Reps.c6 (show Kd.M k46 _ _ _ (⟨0, 0, 0, 0, 6, 0⟩ : S46) [.int .u64 0, .int .i64 0, .int .i64 0, .int .i64 0, .int .i64 6, .int .u64 0] from (k46_mkM _ _ _ (⟨0, 0, 0, 0, 6, 0⟩ : S46) )) (Reps.c6 (show Kd.M k46 _ _ _ (⟨0, 0, 0, 0, 3, 0⟩ : S46) [.int .u64 0, .int .i64 0, .int .i64 0, .int .i64 0, .int .i64 3, .int .u64 0] from (k46_mkM _ _ _ (⟨0, 0, 0, 0, 3, 0⟩ : S46) )) (Reps.none _ _))))); intro v135 w40 ho41 hb hg_ hnew_; clear hg_ hnew_; (first | rw [← Ny134.out] at ho41 | (simp only [Int.reduceToNat] at ho41; rw [← Ny134.out] at ho41)); have n0_ := Aside0.mk (Kd.R_lower ho41 (below_size (by repeat (first | (with_reducible first | exact HB.out | apply below_alloc | apply pw_below_drewN | apply below_drew1) | exact HB.out)))); have n1_ := Aside0.mk (below_step (by repeat (first | (with_reducible first | exact HB.out | apply below_alloc | apply pw_below_drewN | apply below_drew1) | exact HB.out)) hb); clear HB; have HO136 := n0_; have HB := n1_; clear n0_ n1_; clear hb ho41; obtain ⟨Ao42, co42, eo42⟩ := Kd.R_slice HO136.out; subst eo42) | ((with_reducible refine gate_callee (f := 24) rfl ?_); refine goesL_ (some 7) rfl rfl Try.func24 (by kernel_rfl) rfl #[.int .i64 2, .slice Ao42 y134.length co42, .int .i64 10, .int .i64 1] rfl (by (try simp only [List.map_toArray, List.map_cons, List.map_nil]); first | done | rfl | (simp only [List.length_drop, List.length_take]; rfl)) ?_; (with_reducible refine (share_Share.calls k 2 _ _ y134 10 1 t137 _ ?side1 ?side2 A1.out).mono ?_); (case side1 => repeat (first | exact (Kd.R_reads' HO136.out).2.2 | (with_reducible refine Kd.C_alloc ?_ _) | (with_reducible refine Kd.C_drewN ?_ _) | (with_reducible refine Kd.C_drew ?_))); (case side2 => exact (Kd.R_reads' HO136.out).2.1); rintro e w43 ⟨v138, rfl, ho0, hb⟩; refine ⟨_, rfl, ?_⟩; have n0_ := Aside0.mk (Kd.R_below (by (with_reducible repeat (first | apply Kd.R_alloc | apply Kd.R_drewN | apply Kd.R_drew)); exact HO136.out) hb); have n1_ := Aside0.mk (Kd.R_lower ho0 (below_size (by repeat (first | (with_reducible first | exact HB.out | apply below_alloc | apply pw_below_drewN | apply below_drew1) | exact HB.out)))); have n2_ := Aside0.mk (below_step (by repeat (first | (with_reducible first | exact HB.out | apply below_alloc | apply pw_below_drewN | apply below_drew1) | exact HB.out)) hb); clear HO136; clear HB; have HO136 := n0_; have HO139 := n1_; have HB := n2_; clear n0_ n1_ n2_; (try clear hb); (try clear hb2); (try clear hk); (try clear hi); (try clear ho0)) | ((with_reducible refine gate_dst (N := 8) rfl ?_); (try (refine gate_guard (by rfl) ?_; dsimp only)); refine Kd.R_lit (Kd.int .i64) _ 2 ?hg (N := 8) ?hd (xs := ([4, 4, 2] : List Int)) (inner := [.int .i64 4, .int .i64 4, .int .i64 2]) (ok := fun _ => True) (okp := fun _ => True) ?hr ?hp (fun _ hk => hk) trivial (Below.refl _ _) (Nat.le_refl _) (by simp) ?_; (case hd => rfl); (case hg => rfl); (case hr => first | (go_simp; done) | (go_simp; rfl)); (case hp => exact (Reps.one (show Kd.M (Kd.int .i64) _ _ _ 4 [.int .i64 4] from rfl) (Reps.one (show Kd.M (Kd.int .i64) _ _ _ 4 [.int .i64 4] from rfl) (Reps.one (show Kd.M (Kd.int .i64) _ _ _ 2 [.int .i64 2] from rfl) (Reps.none _ _))))); intro v141 w44 ho45 hb hg_ hnew_; clear hg_ hnew_; (first | rw [← Ny140.out] at ho45 | (simp only [Int.reduceToNat] at ho45; rw [← Ny140.out] at ho45)); have n0_ := Aside0.mk (Kd.R_below (by (with_reducible repeat (first | apply Kd.R_alloc | apply Kd.R_drewN | apply Kd.R_drew)); exact HO136.out) hb); have n1_ := Aside0.mk (Kd.R_elder' (by (with_reducible repeat (first | apply Kd.R_alloc | apply Kd.R_drewN | apply Kd.R_drew)); exact HO139.out) (Kd.R_base ho45) hb); have n2_ := Aside0.mk (Kd.R_lower (Kd.R_new' ho45 (Kd.R_lt (by (with_reducible repeat (first | apply Kd.R_alloc | apply Kd.R_drewN | apply Kd.R_drew)); exact HO139.out))) (below_size (by repeat (first | (with_reducible first | exact HB.out | apply below_alloc | apply pw_below_drewN | apply below_drew1) | exact HB.out)))); have n3_ := Aside0.mk (below_step (by repeat (first | (with_reducible first | exact HB.out | apply below_alloc | apply pw_below_drewN | apply below_drew1) | exact HB.out)) hb); clear HO136; clear HO139; clear HB; have HO136 := n0_; have HO139 := n1_; have HO142 := n2_; have HB := n3_; clear n0_ n1_ n2_ n3_; clear hb ho45; obtain ⟨Ao46, co46, eo46⟩ := Kd.R_slice HO139.out; subst eo46; obtain ⟨Ao47, co47, eo47⟩ := Kd.R_slice HO142.out; subst eo47) | ((with_reducible refine gate_callee (f := 23) rfl ?_); refine goesL_ (some 9) rfl rfl Try.func23 (by kernel_rfl) rfl #[.slice Ao46 t137.length co46, .slice Ao47 y140.length co47] rfl (by (try simp only [List.map_toArray, List.map_cons, List.map_nil]); first | done | rfl | (simp only [List.length_drop, List.length_take]; rfl)) ?_; (with_reducible refine (jobberlaw16_Same.calls k _ _ t137 _ _ y140 false _ ?side1 ?side2 ?side3 ?side4 A2.out).mono ?_); (case side1 => repeat (first | exact (Kd.R_reads' HO139.out).2.2 | (with_reducible refine Kd.C_alloc ?_ _) | (with_reducible refine Kd.C_drewN ?_ _) | (with_reducible refine Kd.C_drew ?_))); (case side2 => exact (Kd.R_reads' HO139.out).2.1); (case side3 => repeat (first | exact (Kd.R_reads' HO142.out).2.2 | (with_reducible refine Kd.C_alloc ?_ _) | (with_reducible refine Kd.C_drewN ?_ _) | (with_reducible refine Kd.C_drew ?_))); (case side4 => exact (Kd.R_reads' HO142.out).2.1); rintro e w' ⟨rfl, ⟨nd, rfl⟩⟩; refine ⟨_, rfl, ?_⟩))
    go_ret
    exact ⟨by first | rfl | (simp [errW_none, errW_some] <;> rfl) | (simp [*, errW_none, errW_some] <;> rfl), by repeat (first | (with_reducible first | exact HB.out | apply below_alloc | apply pw_below_drewN | apply below_drew1) | exact HB.out)⟩

/-! ### jobberlaw12_Plain: function 22 -/
def jobberlaw12_Plain.l0 : Nat → List (S73) → List (S46) → Int → Int → Option ((List (S73)))
  | 0, _, _, _, _ => none
  | k + 1, x3, x6, x7, x8 => if x8 < x7 then (if 0 ≤ x8 then (if x8 < (x6.length : Int) then (if x3.length < 2932031007402 then (jobberlaw12_Plain.l0 k (x3 ++ [(⟨(rd_T46 x6 x8).f0, (rd_T46 x6 x8).f1, (rd_T46 x6 x8).f2, (rd_T46 x6 x8).f3, (rd_T46 x6 x8).f4, (rd_T46 x6 x8).f5⟩ : S73)]) x6 x7 (wrap64 (x8 + 1))) else (none)) else (none)) else (none)) else (some x3)
def jobberlaw12_Plain.f (k : Nat) (l0 : List (S46)) : Option ((List (S73))) := jobberlaw12_Plain.l0 k ([] : List (S73)) l0 (l0.length : Int) 0
theorem jobberlaw12_Plain.mono_l : ∀ k, (∀ y0 y1 y2 y3, LeO (jobberlaw12_Plain.l0 k y0 y1 y2 y3) (jobberlaw12_Plain.l0 (k + 1) y0 y1 y2 y3))
  | 0 => fun _ _ _ _ r h => by simp [jobberlaw12_Plain.l0] at h
  | k + 1 => by
    have ih0 := jobberlaw12_Plain.mono_l k
    · intro y0 y1 y2 y3
      unfold jobberlaw12_Plain.l0
      repeat' first
      | (with_reducible exact ih0 _ _ _ _)
      | (with_reducible exact LeO.refl _)
      | (with_reducible exact LeO.none _)
      | (with_reducible refine LeO.ite ?_ ?_)
      | (with_reducible refine LeO.bind ?_ (fun _ => ?_))
      | exact ih0 _ _ _ _
      | exact LeO.none _
      | refine LeO.ite ?_ ?_
      | refine LeO.bind ?_ (fun _ => ?_)
theorem jobberlaw12_Plain.mono : ∀ a0 k, LeO (jobberlaw12_Plain.f k a0) (jobberlaw12_Plain.f (k + 1) a0) := by
  intro a0 k
  have ih0 := jobberlaw12_Plain.mono_l k
  unfold jobberlaw12_Plain.f
  repeat' first
      | (with_reducible exact ih0 _ _ _ _)
      | (with_reducible exact LeO.refl _)
      | (with_reducible exact LeO.none _)
      | (with_reducible refine LeO.ite ?_ ?_)
      | (with_reducible refine LeO.bind ?_ (fun _ => ?_))
      | exact ih0 _ _ _ _
      | exact LeO.none _
      | refine LeO.ite ?_ ?_
      | refine LeO.bind ?_ (fun _ => ?_)
set_option maxHeartbeats 8000000 in
set_option maxRecDepth 100000 in
theorem jobberlaw12_Plain.calls (k : Nat) (A0 : Option Addr) (c0 : Nat) (l0 : List (S46)) (r : List (S73)) (w : World) (hr0 : Kd.C k46 w A0 l0.length l0) (hc0 : l0.length ≤ c0) (h : jobberlaw12_Plain.f k l0 = some r) :
    Calls Try.prog 22 #[.slice A0 l0.length c0] w fun e w' => ∃ v0_ : Value, e = .returned (v0_) ∧ Kd.R k73 73 w' w.heap.size (fun _ => True) v0_ r ∧ Below w.heap.size w w' := by
  have hu46 := Try.underlying46
  have HR0 := Aside0.mk hr0
  have HC0 := Aside0.mk hc0
  clear hr0 hc0
  have HB := Aside0.mk (Below.refl w.heap.size w)
  have H : (jobberlaw12_Plain.l0 k ([] : List (S73)) l0 (l0.length : Int) 0) = some r := h
  clear h
  have H' := Aside0.mk H
  clear H
  go_enter Try.func22, Try.ntmps22
  go_wp2
  go_loopg [3, 8] k (fun kq v3 v8 w' => ∃ (x3_1 : List (S73)) (x8_1 : Int), v8 = .int .i64 x8_1 ∧ Aside0 (jobberlaw12_Plain.l0 kq x3_1 l0 (l0.length : Int) x8_1 = some r) ∧ Aside0 (kq ≤ k) ∧ Aside0 (Kd.R k73 73 w' w.heap.size (fun _ => True) v3 x3_1) ∧ Aside0 (Below w.heap.size w w'))
  case atStart => exact ⟨(([] : List (S73))), (0), (by first | rfl | (simp; done) | (simp [*]; done)), H', ⟨Nat.le_refl _⟩, ⟨by first | exact Kd.R_nil _ _ _ _ _ | exact Kd.N_nil _ _ _ _ _ | exact Kd.V_nil _ _ _ _ _ | exact Kd.Q_nil _ _ _ _ _ | exact Kd.S_nil _ _ _ _ _⟩, ⟨by repeat (first | (with_reducible first | exact HB.out | apply below_alloc | apply pw_below_drewN | apply below_drew1) | exact HB.out)⟩⟩
  case round =>
    clear H'
    obtain ⟨x3_1, x8_1, rfl, HA, HK1, HO_3, HB⟩ := hrel
    cases gk with
    | zero => exact absurd HA.out (by simp [jobberlaw12_Plain.l0])
    | succ k1 =>
      have H := HA.out
      clear HA
      simp only [jobberlaw12_Plain.l0] at H
      by_cases c2 : x8_1 < (l0.length : Int)
      · rw [if_pos c2] at H
        have c2b0 : decide (x8_1 < (l0.length : Int)) = true := decide_eq_true c2
        clear c2
        by_cases c3 : 0 ≤ x8_1
        · rw [if_pos c3] at H
          have c3b0 : decide (0 ≤ x8_1) = true := decide_eq_true c3
          clear c3
          by_cases c4 : x8_1 < (l0.length : Int)
          · rw [if_pos c4] at H
            have c4b0 : decide (x8_1 < (l0.length : Int)) = true := decide_eq_true c4
            clear c4
            by_cases c5 : x3_1.length < 2932031007402
            · rw [if_pos c5] at H
              have LMc5 := Aside0.mk c5
              clear c5
              obtain ⟨y160, hy160⟩ : ∃ y_ : List (S73), y_ = (x3_1 ++ [(⟨(rd_T46 l0 x8_1).f0, (rd_T46 l0 x8_1).f1, (rd_T46 l0 x8_1).f2, (rd_T46 l0 x8_1).f3, (rd_T46 l0 x8_1).f4, (rd_T46 l0 x8_1).f5⟩ : S73)]) := ⟨_, rfl⟩
              replace H : (jobberlaw12_Plain.l0 k1 y160 l0 (l0.length : Int) (wrap64 (x8_1 + 1))) = some r := by first | (rw [hy160]; with_reducible exact H) | (have H2_ := (Option.bind_some _ _).symm.trans H; rw [hy160]; with_reducible exact H2_) | (have H2_ := (Option.bind_some _ _).symm.trans H; with_reducible exact H2_) | with_reducible exact H | (rw [hy160]; exact H) | exact H
              have Ny160 := Aside0.mk hy160
              clear hy160
              have H' := Aside0.mk H
              clear H
              have p158 : 0 ≤ (x8_1 : Int) := of_decide_eq_true (by first | (with_reducible assumption) | assumption)
              have q158 : x8_1 < (l0.length : Int) := of_decide_eq_true (by first | (with_reducible assumption) | assumption)
              obtain ⟨ad158, e158, hx158_0, hx158_1, hx158_2, hx158_3, hx158_4, hx158_5⟩ := at_T46 HR0.out x8_1 p158 q158
              cases e158
              replace hx158_0 := (HB.out.cell (World.block_lt_of_cell? w _ hx158_0)).trans hx158_0
              replace hx158_1 := (HB.out.cell (World.block_lt_of_cell? w _ hx158_1)).trans hx158_1
              replace hx158_2 := (HB.out.cell (World.block_lt_of_cell? w _ hx158_2)).trans hx158_2
              replace hx158_3 := (HB.out.cell (World.block_lt_of_cell? w _ hx158_3)).trans hx158_3
              replace hx158_4 := (HB.out.cell (World.block_lt_of_cell? w _ hx158_4)).trans hx158_4
              replace hx158_5 := (HB.out.cell (World.block_lt_of_cell? w _ hx158_5)).trans hx158_5
              replace p158 := eq_true p158
              replace q158 := eq_true q158
              go_wp2_with (first | ((with_reducible refine gate_dst (N := 5) rfl ?_); refine box_event ?hg (N := 5) ?hd (cs := #[.int .u64 0, .int .i64 0, .int .i64 0, .int .i64 0, .int .i64 0, .int .u64 0]) (t := 46) ?hr ?_; (case hd => rfl); (case hg => rfl); (case hr => first | (go_simp; done) | (go_simp; rfl)); intro gb159 hg w6 hbox hb; have n0_ := Aside0.mk (Kd.R_below (by (with_reducible repeat (first | apply Kd.R_alloc | apply Kd.R_drewN | apply Kd.R_drew)); exact HO_3.out) hb); have n1_ := Aside0.mk (below_step (by repeat (first | (with_reducible first | exact HB.out | apply below_alloc | apply pw_below_drewN | apply below_drew1) | exact HB.out)) hb); have n2_ := Aside0.mk (hbox); have n3_ := Aside0.mk ((by rw [hg]; exact (below_size (by repeat (first | (with_reducible first | exact HB.out | apply below_alloc | apply pw_below_drewN | apply below_drew1) | exact HB.out))) : w.heap.size ≤ gb159)); have n4_ := Aside0.mk ((by rw [hg]; exact (below_size (by repeat (first | (with_reducible first | exact HB.out | apply below_alloc | apply pw_below_drewN | apply below_drew1) | exact HB.out))) : w.heap.size ≤ gb159)); clear HO_3; clear HB; have HO_3 := n0_; have HB := n1_; have BK159 := n2_; have GW159 := n3_; have GE159 := n4_; clear n0_ n1_ n2_ n3_ n4_; clear hb hbox hg; have hcz7_0 : w6.cell? ⟨gb159, 0, none⟩ = some (.int .u64 0) := (blk_cell BK159.out 0).trans rfl; have hcz7_1 : w6.cell? ⟨gb159, 1, none⟩ = some (.int .i64 0) := (blk_cell BK159.out 1).trans rfl; have hcz7_2 : w6.cell? ⟨gb159, 2, none⟩ = some (.int .i64 0) := (blk_cell BK159.out 2).trans rfl; have hcz7_3 : w6.cell? ⟨gb159, 3, none⟩ = some (.int .i64 0) := (blk_cell BK159.out 3).trans rfl; have hcz7_4 : w6.cell? ⟨gb159, 4, none⟩ = some (.int .i64 0) := (blk_cell BK159.out 4).trans rfl; have hcz7_5 : w6.cell? ⟨gb159, 5, none⟩ = some (.int .u64 0) := (blk_cell BK159.out 5).trans rfl; have hfz7_0 := blk_frozen BK159.out 0; have hfz7_1 := blk_frozen BK159.out 1; have hfz7_2 := blk_frozen BK159.out 2; have hfz7_3 := blk_frozen BK159.out 3; have hfz7_4 := blk_frozen BK159.out 4; have hfz7_5 := blk_frozen BK159.out 5) | ((with_reducible refine gate_builtin (b := .append) (xs := #[.tmp 12, .tmp 14]) rfl ?_); at_builtin; refine Kd.R_append k73 (w0 := w) w.heap.size rfl (.tmp 12) (.tmp 14) 35 73 (.agg #[(.int .u64 0), (.int .i64 0), (.int .i64 0), (.int .i64 0), (.int .i64 0), (.int .u64 0)]) 48 rfl Try.underlying35 info73 rfl (by decide) (by omega) u3 x3_1 (⟨(rd_T46 l0 x8_1).f0, (rd_T46 l0 x8_1).f1, (rd_T46 l0 x8_1).f2, (rd_T46 l0 x8_1).f3, (rd_T46 l0 x8_1).f4, (rd_T46 l0 x8_1).f5⟩ : S73) [.int .u64 ((rd_T46 l0 x8_1).f0), .int .i64 ((rd_T46 l0 x8_1).f1), .int .i64 ((rd_T46 l0 x8_1).f2), .int .i64 ((rd_T46 l0 x8_1).f3), .int .i64 ((rd_T46 l0 x8_1).f4), .int .u64 ((rd_T46 l0 x8_1).f5)] (fun _ => True) (fun _ => False) rfl (by first | (go_simp; done) | (go_simp; rfl)) ?aP (fun _ hk => hk.elim) ?aF ?aO ?aB ?aS ?aL ?_; (case aP => exact k73_mkM _ _ _ (⟨(rd_T46 l0 x8_1).f0, (rd_T46 l0 x8_1).f1, (rd_T46 l0 x8_1).f2, (rd_T46 l0 x8_1).f3, (rd_T46 l0 x8_1).f4, (rd_T46 l0 x8_1).f5⟩ : S73)); (case aB => exact (by repeat (first | (with_reducible first | exact HB.out | apply below_alloc | apply pw_below_drewN | apply below_drew1 | refine below_set ?_ GE159.out) | exact HB.out))); (case aF => exact (fun _ _ => trivial)); (case aO => exact (by (with_reducible repeat (first | apply Kd.R_alloc | apply Kd.R_drewN | apply Kd.R_drew)); exact Kd.R_mono (Kd.R_far (p := ⟨gb159, 5, none⟩) (Kd.R_far (p := ⟨gb159, 4, none⟩) (Kd.R_far (p := ⟨gb159, 3, none⟩) (Kd.R_far (p := ⟨gb159, 2, none⟩) (Kd.R_far (p := ⟨gb159, 1, none⟩) (Kd.R_far (p := ⟨gb159, 0, none⟩) (Kd.R_types HO_3.out BK159.out (by decide)) (fun _ hk => hk.2) (.int .u64 ((rd_T46 l0 x8_1).f0))) (fun _ hk => hk.2) (.int .i64 ((rd_T46 l0 x8_1).f1))) (fun _ hk => hk.2) (.int .i64 ((rd_T46 l0 x8_1).f2))) (fun _ hk => hk.2) (.int .i64 ((rd_T46 l0 x8_1).f3))) (fun _ hk => hk.2) (.int .i64 ((rd_T46 l0 x8_1).f4))) (fun _ hk => hk.2) (.int .u64 ((rd_T46 l0 x8_1).f5))) (fun _ hk => trivial))); (case aS => exact (below_size (by repeat (first | (with_reducible first | exact HB.out | apply below_alloc | apply pw_below_drewN | apply below_drew1 | refine below_set ?_ GE159.out) | exact HB.out)))); (case aL => have := LMc5.out; omega); intro v161 w8 ho hb hg hat; rw [← Ny160.out] at ho; have n0_ := Aside0.mk (blk_grown (g := gb159) (o := .cells #[.int .u64 ((rd_T46 l0 x8_1).f0), .int .i64 ((rd_T46 l0 x8_1).f1), .int .i64 ((rd_T46 l0 x8_1).f2), .int .i64 ((rd_T46 l0 x8_1).f3), .int .i64 ((rd_T46 l0 x8_1).f4), .int .u64 ((rd_T46 l0 x8_1).f5)] 46 (0, 0)) (by (with_reducible repeat (first | refine blk_drewN ?_ _ | refine blk_drew ?_ | refine blk_alloc ?_ _)); refine blk_put (cs := #[.int .u64 ((rd_T46 l0 x8_1).f0), .int .i64 ((rd_T46 l0 x8_1).f1), .int .i64 ((rd_T46 l0 x8_1).f2), .int .i64 ((rd_T46 l0 x8_1).f3), .int .i64 ((rd_T46 l0 x8_1).f4), .int .u64 0]) ?_ 5 _ rfl; (with_reducible repeat (first | refine blk_drewN ?_ _ | refine blk_drew ?_ | refine blk_alloc ?_ _)); refine blk_put (cs := #[.int .u64 ((rd_T46 l0 x8_1).f0), .int .i64 ((rd_T46 l0 x8_1).f1), .int .i64 ((rd_T46 l0 x8_1).f2), .int .i64 ((rd_T46 l0 x8_1).f3), .int .i64 0, .int .u64 0]) ?_ 4 _ rfl; (with_reducible repeat (first | refine blk_drewN ?_ _ | refine blk_drew ?_ | refine blk_alloc ?_ _)); refine blk_put (cs := #[.int .u64 ((rd_T46 l0 x8_1).f0), .int .i64 ((rd_T46 l0 x8_1).f1), .int .i64 ((rd_T46 l0 x8_1).f2), .int .i64 0, .int .i64 0, .int .u64 0]) ?_ 3 _ rfl; (with_reducible repeat (first | refine blk_drewN ?_ _ | refine blk_drew ?_ | refine blk_alloc ?_ _)); refine blk_put (cs := #[.int .u64 ((rd_T46 l0 x8_1).f0), .int .i64 ((rd_T46 l0 x8_1).f1), .int .i64 0, .int .i64 0, .int .i64 0, .int .u64 0]) ?_ 2 _ rfl; (with_reducible repeat (first | refine blk_drewN ?_ _ | refine blk_drew ?_ | refine blk_alloc ?_ _)); refine blk_put (cs := #[.int .u64 ((rd_T46 l0 x8_1).f0), .int .i64 0, .int .i64 0, .int .i64 0, .int .i64 0, .int .u64 0]) ?_ 1 _ rfl; (with_reducible repeat (first | refine blk_drewN ?_ _ | refine blk_drew ?_ | refine blk_alloc ?_ _)); refine blk_put (cs := #[.int .u64 0, .int .i64 0, .int .i64 0, .int .i64 0, .int .i64 0, .int .u64 0]) ?_ 0 _ rfl; (with_reducible repeat (first | refine blk_drewN ?_ _ | refine blk_drew ?_ | refine blk_alloc ?_ _)); exact BK159.out) hg (Kd.R_ne HO_3.out BK159.out (by decide))); have n1_ := Aside0.mk (hb); have n2_ := Aside0.mk (ho); clear BK159; clear HB; clear HO_3; have BK159 := n0_; have HB := n1_; have HO162 := n2_; clear n0_ n1_ n2_; clear ho hb hg hat))
              go_roundg k1
              case measure => have := HK1.out; omega
              case rel => exact ⟨(y160), (wrap64 (x8_1 + 1)), (by first | rfl | (simp; done) | (simp [*]; done)), H', ⟨by have := HK1.out; omega⟩, ⟨by (with_reducible repeat (first | apply Kd.R_alloc | apply Kd.R_drewN | apply Kd.R_drew)); exact HO162.out⟩, ⟨by repeat (first | (with_reducible first | exact HB.out | apply below_alloc | apply pw_below_drewN | apply below_drew1 | refine below_set ?_ GE159.out) | exact HB.out)⟩⟩
            · rw [if_neg c5] at H
              exact absurd H (by simp)
          · rw [if_neg c4] at H
            exact absurd H (by simp)
        · rw [if_neg c3] at H
          exact absurd H (by simp)
      · rw [if_neg c2] at H
        have c2b0 : decide (x8_1 < (l0.length : Int)) = false := decide_eq_false c2
        clear c2
        obtain rfl := Option.some.inj H
        go_wp2
        go_ret
        exact ⟨_, by first | rfl | (simp [errW_none, errW_some] <;> rfl) | (simp [*, errW_none, errW_some] <;> rfl), by (with_reducible repeat (first | apply Kd.R_alloc | apply Kd.R_drewN | apply Kd.R_drew)); exact HO_3.out, by repeat (first | (with_reducible first | exact HB.out | apply below_alloc | apply pw_below_drewN | apply below_drew1) | exact HB.out)⟩

/-! ### jobberref07_Trim: function 15 -/
def jobberref07_Trim.f (a0 : Int) (a1 : Int) : Option (Int) := if a0 < 1 then (some 0) else (if a1 < 1 then (some 0) else (if a0 = 0 then (none) else (some (wrap64 ((wrap64 (Int.tdiv a1 a0)) * a0)))))
set_option maxHeartbeats 8000000 in
set_option maxRecDepth 100000 in
theorem jobberref07_Trim.calls (a0 : Int) (a1 : Int) (r : Int) (w : World) (h : jobberref07_Trim.f a0 a1 = some r) :
    Calls Try.prog 15 #[.int .i64 a0, .int .i64 a1] w fun e w' => e = .returned (.int .i64 r) ∧ Drawn0 w w' := by
  have H : (if a0 < 1 then (some 0) else (if a1 < 1 then (some 0) else (if a0 = 0 then (none) else (some (wrap64 ((wrap64 (Int.tdiv a1 a0)) * a0)))))) = some r := h
  clear h
  by_cases c3 : a0 < 1
  · rw [if_pos c3] at H
    have c3b0 : decide (a0 < 1) = true := decide_eq_true c3
    clear c3
    obtain rfl := Option.some.inj H
    go_enter Try.func15, Try.ntmps15
    go_wp2
    go_ret
    exact ⟨by first | rfl | (simp; done) | (simp [*]; done), by repeat (first | exact Drawn0.refl _ | apply Drawn0.step)⟩
  · rw [if_neg c3] at H
    have c3b0 : decide (a0 < 1) = false := decide_eq_false c3
    clear c3
    by_cases c4 : a1 < 1
    · rw [if_pos c4] at H
      have c4b0 : decide (a1 < 1) = true := decide_eq_true c4
      clear c4
      obtain rfl := Option.some.inj H
      go_enter Try.func15, Try.ntmps15
      go_wp2
      go_ret
      exact ⟨by first | rfl | (simp; done) | (simp [*]; done), by repeat (first | exact Drawn0.refl _ | apply Drawn0.step)⟩
    · rw [if_neg c4] at H
      have c4b0 : decide (a1 < 1) = false := decide_eq_false c4
      clear c4
      by_cases c5 : a0 = 0
      · rw [if_pos c5] at H
        exact absurd H (by simp)
      · rw [if_neg c5] at H
        have c5b0 : (a0 == 0) = false := beq_eq_false_iff_ne.mpr c5
        have c5b1 : (a0 != 0) = true := bne_iff_ne.mpr c5
        obtain rfl := Option.some.inj H
        go_enter Try.func15, Try.ntmps15
        go_wp2
        go_ret
        exact ⟨by first | rfl | (simp; done) | (simp [*]; done), by repeat (first | exact Drawn0.refl _ | apply Drawn0.step)⟩

end Go.Proofs.Ythaaghkplbbgdaa.Shb
