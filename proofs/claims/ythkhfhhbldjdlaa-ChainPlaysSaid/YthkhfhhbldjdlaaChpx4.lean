/- Printed by this session's wip/drive.py over the translation; some functions by hand. -/
import Derived.Test.YthkhfhhbldjdlaaChpx0
namespace Go.Proofs.Ythkhfhhbldjdlaa.Chp
open Go.RowKit Go.Proofs.YthkhfhhbldjdlaaW.PrintWords Go.Proofs.YthkhfhhbldjdlaaW.PrintLast Go.Proofs.YthkhfhhbldjdlaaW.PrintMore
attribute [local go_sem] max2_int min2_int max_two min_two max_three min_three max_four min_four   -- for this text's walks alone
set_option linter.unusedVariables false
set_option linter.unusedSimpArgs false

/-! ### jobberref38_Stands: function 43 -/
def jobberref38_Stands.l0 : Nat → List (S63) → Int → Int → Int → List Int → Option (Bool)
  | 0, _, _, _, _, _ => none
  | k + 1, x1, x5, x141000, x141001, x141002 => if x5 < (x1.length : Int) then (if 0 ≤ x5 then (if ((rd_T63 x1 x5).f0) = 0 then (some false) else (if (IntKind.u64.wrap (((rd_T63 x1 x5).f0) - 1)) = x141000 then (if ((rd_T63 x1 x5).f1) < x141001 then (some false) else (jobberref38_Stands.l0 k x1 (wrap64 (x5 + 1)) ((rd_T63 x1 x5).f0) ((rd_T63 x1 x5).f1) ((rd_T63 x1 x5).f2))) else (some false))) else (none)) else (some true)
def jobberref38_Stands.f (k : Nat) (a0_0 : Int) (a0_1 : Int) (l0_2 : List Int) (l1 : List (S63)) : Option (Bool) := jobberref38_Stands.l0 k l1 0 a0_0 a0_1 l0_2
theorem jobberref38_Stands.mono_l : ∀ k, (∀ y0 y1 y2 y3 y4, LeO (jobberref38_Stands.l0 k y0 y1 y2 y3 y4) (jobberref38_Stands.l0 (k + 1) y0 y1 y2 y3 y4))
  | 0 => fun _ _ _ _ _ r h => by simp [jobberref38_Stands.l0] at h
  | k + 1 => by
    have ih0 := jobberref38_Stands.mono_l k
    · intro y0 y1 y2 y3 y4
      unfold jobberref38_Stands.l0
      repeat' first
      | (with_reducible exact ih0 _ _ _ _ _)
      | (with_reducible exact LeO.refl _)
      | (with_reducible exact LeO.none _)
      | (with_reducible refine LeO.ite ?_ ?_)
      | (with_reducible refine LeO.bind ?_ (fun _ => ?_))
      | exact ih0 _ _ _ _ _
      | exact LeO.none _
      | refine LeO.ite ?_ ?_
      | refine LeO.bind ?_ (fun _ => ?_)
theorem jobberref38_Stands.mono : ∀ a0 a1 a2 a3 k, LeO (jobberref38_Stands.f k a0 a1 a2 a3) (jobberref38_Stands.f (k + 1) a0 a1 a2 a3) := by
  intro a0 a1 a2 a3 k
  have ih0 := jobberref38_Stands.mono_l k
  unfold jobberref38_Stands.f
  repeat' first
      | (with_reducible exact ih0 _ _ _ _ _)
      | (with_reducible exact LeO.refl _)
      | (with_reducible exact LeO.none _)
      | (with_reducible refine LeO.ite ?_ ?_)
      | (with_reducible refine LeO.bind ?_ (fun _ => ?_))
      | exact ih0 _ _ _ _ _
      | exact LeO.none _
      | refine LeO.ite ?_ ?_
      | refine LeO.bind ?_ (fun _ => ?_)
set_option maxHeartbeats 8000000 in
set_option maxRecDepth 100000 in
theorem jobberref38_Stands.calls (k : Nat) (a0_0 : Int) (a0_1 : Int) (P0_2_ : Nat → Prop) (A0_2 : Option Addr) (c0_2 : Nat) (l0_2 : List Int) (P1_ : Nat → Prop) (A1 : Option Addr) (c1 : Nat) (l1 : List (S63)) (r : Bool) (w : World) (hs0_2 : Kd.V (Kd.int .u8) 5 w w.heap.size (fun k_ => P0_2_ k_) (.slice A0_2 l0_2.length c0_2) l0_2) (hs1 : Kd.V k63 63 w w.heap.size (fun k_ => P1_ k_) (.slice A1 l1.length c1) l1) (h : jobberref38_Stands.f k a0_0 a0_1 l0_2 l1 = some r) :
    Calls Try.prog 43 #[.agg #[.int .u64 a0_0, .int .u64 a0_1, .slice A0_2 l0_2.length c0_2], .slice A1 l1.length c1] w fun e w' => e = .returned (.bool r) ∧ Below w.heap.size w w' := by
  have hu63 := Try.underlying63
  have HO0_2 := Aside0.mk (show Kd.V (Kd.int .u8) 5 w w.heap.size (fun k_ => ((P0_2_ k_ ∨ P1_ k_) ∨ w.heap.size ≤ k_)) (.slice A0_2 l0_2.length c0_2) l0_2 from Kd.V_mono hs0_2 (fun k_ hk => .inl (.inl hk)))
  have HO1 := Aside0.mk (show Kd.V k63 63 w w.heap.size (fun k_ => ((P0_2_ k_ ∨ P1_ k_) ∨ w.heap.size ≤ k_)) (.slice A1 l1.length c1) l1 from Kd.V_mono hs1 (fun k_ hk => .inl (.inr hk)))
  have HB := Aside0.mk (Below.refl w.heap.size w)
  have H : (jobberref38_Stands.l0 k l1 0 a0_0 a0_1 l0_2) = some r := h
  clear h
  have H' := Aside0.mk H
  clear H
  go_enter Try.func43, Try.ntmps43
  go_wp2_with (first | ((with_reducible refine gate_dst (N := 2) rfl ?_); refine box_event ?hg (N := 2) ?hd (cs := #[.int .u64 a0_0, .int .u64 a0_1, .slice A0_2 l0_2.length c0_2]) (t := 63) ?hr ?_; (case hd => rfl); (case hg => rfl); (case hr => first | (go_simp; done) | (go_simp; rfl)); intro gb140 hg w3 hbox hb; have n0_ := Aside0.mk (Kd.V_below (Kd.V_elderB (by (with_reducible repeat (first | apply Kd.V_alloc | apply Kd.V_drewN | apply Kd.V_drew)); exact HO0_2.out) gb140 (Nat.le_of_eq hg.symm)) hb); have n1_ := Aside0.mk (Kd.V_below (Kd.V_elderB (by (with_reducible repeat (first | apply Kd.V_alloc | apply Kd.V_drewN | apply Kd.V_drew)); exact HO1.out) gb140 (Nat.le_of_eq hg.symm)) hb); have n2_ := Aside0.mk (below_step (by repeat (first | (with_reducible first | exact HB.out | apply below_alloc | apply pw_below_drewN | apply below_drew1) | exact HB.out)) hb); have n3_ := Aside0.mk (hbox); have n4_ := Aside0.mk ((by rw [hg]; exact (below_size (by repeat (first | (with_reducible first | exact HB.out | apply below_alloc | apply pw_below_drewN | apply below_drew1) | exact HB.out))) : w.heap.size ≤ gb140)); have n5_ := Aside0.mk ((by rw [hg]; exact (below_size (by repeat (first | (with_reducible first | exact HB.out | apply below_alloc | apply pw_below_drewN | apply below_drew1) | exact HB.out))) : w.heap.size ≤ gb140)); clear HO0_2; clear HO1; clear HB; have HO0_2 := n0_; have HO1 := n1_; have HB := n2_; have BK140 := n3_; have GW140 := n4_; have GE140 := n5_; clear n0_ n1_ n2_ n3_ n4_ n5_; clear hb hbox hg))
  repeat (go_quiet (first | ((with_reducible refine gate_dst (N := 2) rfl ?_); refine box_event ?hg (N := 2) ?hd (cs := #[.int .u64 a0_0, .int .u64 a0_1, .slice A0_2 l0_2.length c0_2]) (t := 63) ?hr ?_; (case hd => rfl); (case hg => rfl); (case hr => first | (go_simp; done) | (go_simp; rfl)); intro gb140 hg w3 hbox hb; have n0_ := Aside0.mk (Kd.V_below (Kd.V_elderB (by (with_reducible repeat (first | apply Kd.V_alloc | apply Kd.V_drewN | apply Kd.V_drew)); exact HO0_2.out) gb140 (Nat.le_of_eq hg.symm)) hb); have n1_ := Aside0.mk (Kd.V_below (Kd.V_elderB (by (with_reducible repeat (first | apply Kd.V_alloc | apply Kd.V_drewN | apply Kd.V_drew)); exact HO1.out) gb140 (Nat.le_of_eq hg.symm)) hb); have n2_ := Aside0.mk (below_step (by repeat (first | (with_reducible first | exact HB.out | apply below_alloc | apply pw_below_drewN | apply below_drew1) | exact HB.out)) hb); have n3_ := Aside0.mk (hbox); have n4_ := Aside0.mk ((by rw [hg]; exact (below_size (by repeat (first | (with_reducible first | exact HB.out | apply below_alloc | apply pw_below_drewN | apply below_drew1) | exact HB.out))) : w.heap.size ≤ gb140)); have n5_ := Aside0.mk ((by rw [hg]; exact (below_size (by repeat (first | (with_reducible first | exact HB.out | apply below_alloc | apply pw_below_drewN | apply below_drew1) | exact HB.out))) : w.heap.size ≤ gb140)); clear HO0_2; clear HO1; clear HB; have HO0_2 := n0_; have HO1 := n1_; have HB := n2_; have BK140 := n3_; have GW140 := n4_; have GE140 := n5_; clear n0_ n1_ n2_ n3_ n4_ n5_; clear hb hbox hg)); try go_wp2_with (first | ((with_reducible refine gate_dst (N := 2) rfl ?_); refine box_event ?hg (N := 2) ?hd (cs := #[.int .u64 a0_0, .int .u64 a0_1, .slice A0_2 l0_2.length c0_2]) (t := 63) ?hr ?_; (case hd => rfl); (case hg => rfl); (case hr => first | (go_simp; done) | (go_simp; rfl)); intro gb140 hg w3 hbox hb; have n0_ := Aside0.mk (Kd.V_below (Kd.V_elderB (by (with_reducible repeat (first | apply Kd.V_alloc | apply Kd.V_drewN | apply Kd.V_drew)); exact HO0_2.out) gb140 (Nat.le_of_eq hg.symm)) hb); have n1_ := Aside0.mk (Kd.V_below (Kd.V_elderB (by (with_reducible repeat (first | apply Kd.V_alloc | apply Kd.V_drewN | apply Kd.V_drew)); exact HO1.out) gb140 (Nat.le_of_eq hg.symm)) hb); have n2_ := Aside0.mk (below_step (by repeat (first | (with_reducible first | exact HB.out | apply below_alloc | apply pw_below_drewN | apply below_drew1) | exact HB.out)) hb); have n3_ := Aside0.mk (hbox); have n4_ := Aside0.mk ((by rw [hg]; exact (below_size (by repeat (first | (with_reducible first | exact HB.out | apply below_alloc | apply pw_below_drewN | apply below_drew1) | exact HB.out))) : w.heap.size ≤ gb140)); have n5_ := Aside0.mk ((by rw [hg]; exact (below_size (by repeat (first | (with_reducible first | exact HB.out | apply below_alloc | apply pw_below_drewN | apply below_drew1) | exact HB.out))) : w.heap.size ≤ gb140)); clear HO0_2; clear HO1; clear HB; have HO0_2 := n0_; have HO1 := n1_; have HB := n2_; have BK140 := n3_; have GW140 := n4_; have GE140 := n5_; clear n0_ n1_ n2_ n3_ n4_ n5_; clear hb hbox hg)))
  go_loopg [5] k (fun kq v5 w' => ∃ (x5_1 : Int) (x141000_1 : Int) (x141001_1 : Int) (x141002_1 : List Int) (u141002 : Value), v5 = .int .i64 x5_1 ∧ Aside0 (jobberref38_Stands.l0 kq l1 x5_1 x141000_1 x141001_1 x141002_1 = some r) ∧ Aside0 (kq ≤ k) ∧ Aside0 (Kd.V k63 63 w' w.heap.size (fun k_ => ((P0_2_ k_ ∨ P1_ k_) ∨ w.heap.size ≤ k_) ∧ k_ ≠ gb140) (.slice A1 l1.length c1) l1) ∧ Aside0 (Kd.V (Kd.int .u8) 5 w' w.heap.size (fun k_ => ((P0_2_ k_ ∨ P1_ k_) ∨ w.heap.size ≤ k_) ∧ k_ ≠ gb140) u141002 x141002_1) ∧ Aside0 (w'.heap[gb140]? = some (.cells #[.int .u64 x141000_1, .int .u64 x141001_1, u141002] 63 (0, 0))) ∧ Aside0 (Below w.heap.size w w'))
  case atStart => exact ⟨(0), (a0_0), (a0_1), (l0_2), (.slice A0_2 l0_2.length c0_2), (by first | rfl | (simp; done) | (simp [*]; done)), H', ⟨Nat.le_refl _⟩, ⟨by (with_reducible repeat (first | apply Kd.V_alloc | apply Kd.V_drewN | apply Kd.V_drew)); exact HO1.out⟩, ⟨by (with_reducible repeat (first | apply Kd.V_alloc | apply Kd.V_drewN | apply Kd.V_drew)); exact HO0_2.out⟩, ⟨by (with_reducible repeat (first | refine blk_drewN ?_ _ | refine blk_drew ?_ | refine blk_alloc ?_ _)); exact BK140.out⟩, ⟨by repeat (first | (with_reducible first | exact HB.out | apply below_alloc | apply pw_below_drewN | apply below_drew1 | refine below_set ?_ GE140.out) | exact HB.out)⟩⟩
  case round =>
    clear H'
    try clear c1
    try clear p2
    obtain ⟨x5_1, x141000_1, x141001_1, x141002_1, u141002, rfl, HA, HK1, HO_1, HO_141002, BK140, HB⟩ := hrel
    cases gk with
    | zero => exact absurd HA.out (by simp [jobberref38_Stands.l0])
    | succ k1 =>
      have H := HA.out
      clear HA
      simp only [jobberref38_Stands.l0] at H
      by_cases c4 : x5_1 < (l1.length : Int)
      · rw [if_pos c4] at H
        have c4b0 : decide (x5_1 < (l1.length : Int)) = true := decide_eq_true c4
        clear c4
        by_cases c5 : 0 ≤ x5_1
        · rw [if_pos c5] at H
          have c5b0 : decide (0 ≤ x5_1) = true := decide_eq_true c5
          clear c5
          by_cases c6 : ((rd_T63 l1 x5_1).f0) = 0
          · rw [if_pos c6] at H
            have c6b0 : (((rd_T63 l1 x5_1).f0) == 0) = true := beq_iff_eq.mpr c6
            have c6b1 : (((rd_T63 l1 x5_1).f0) != 0) = false := bne_eq_false_iff_eq.mpr c6
            clear c6
            obtain rfl := Option.some.inj H
            have p141 : 0 ≤ (x5_1 : Int) := of_decide_eq_true (by first | (with_reducible assumption) | assumption)
            have q141 : x5_1 < (l1.length : Int) := of_decide_eq_true (by first | (with_reducible assumption) | assumption)
            obtain ⟨ad141, A141_2, c141_2, e141, hx141_0, hx141_1, hx141_2, hl141_2, hi141_2⟩ := at_T63 (Kd.V_reads' HO_1.out).2.2 x5_1 p141 q141
            cases e141
            obtain ⟨ce141, hce141, hMe141, hcc141⟩ := Kd.V_get HO_1.out z63 x5_1 p141 (by first | exact q141 | exact of_decide_eq_true (by first | (with_reducible assumption) | assumption) | (have e_ := (Kd.V_reads' HO_1.out).1; omega))
            obtain ⟨ua141_2, uc141_2, rfl, ul141_2, ge141_2⟩ := k63_openF hMe141
            have hv141_2 := hcc141 2 _ rfl
            rw [add_field _ _ 2 (by omega)] at hv141_2
            replace hv141_2 := Option.some.inj (hv141_2.symm.trans hx141_2)
            injection hv141_2 with hva_ hvn_ hvc_
            rw [hva_] at ge141_2
            rw [hvc_] at ul141_2
            have HL141_2 := Aside0.mk (show Kd.V (Kd.int .u8) 5 _ w.heap.size _ _ ((rd_T63 l1 x5_1).f2) from Kd.V_mk ul141_2 ge141_2)
            clear hva_ hvn_ hvc_ ge141_2 ul141_2
            clear hcc141 hce141
            have HR141_2 := Aside0.mk hi141_2
            have HC141_2 := Aside0.mk hl141_2
            clear hi141_2 hl141_2
            replace p141 := eq_true p141
            replace q141 := eq_true q141
            go_wp2
            repeat (go_quiet (fail); try go_wp2)
            go_ret
            exact ⟨by first | rfl | (simp [errW_none, errW_some] <;> rfl) | (simp [*, errW_none, errW_some] <;> rfl), by repeat (first | (with_reducible first | exact HB.out | apply below_alloc | apply pw_below_drewN | apply below_drew1 | refine below_set ?_ GE140.out) | exact HB.out)⟩
          · rw [if_neg c6] at H
            have c6b0 : (((rd_T63 l1 x5_1).f0) == 0) = false := beq_eq_false_iff_ne.mpr c6
            have c6b1 : (((rd_T63 l1 x5_1).f0) != 0) = true := bne_iff_ne.mpr c6
            by_cases c7 : (IntKind.u64.wrap (((rd_T63 l1 x5_1).f0) - 1)) = x141000_1
            · rw [if_pos c7] at H
              have c7b0 : ((IntKind.u64.wrap (((rd_T63 l1 x5_1).f0) - 1)) == x141000_1) = true := beq_iff_eq.mpr c7
              have c7b1 : ((IntKind.u64.wrap (((rd_T63 l1 x5_1).f0) - 1)) != x141000_1) = false := bne_eq_false_iff_eq.mpr c7
              clear c7
              by_cases c8 : ((rd_T63 l1 x5_1).f1) < x141001_1
              · rw [if_pos c8] at H
                have c8b0 : decide (((rd_T63 l1 x5_1).f1) < x141001_1) = true := decide_eq_true c8
                clear c8
                obtain rfl := Option.some.inj H
                have p141 : 0 ≤ (x5_1 : Int) := of_decide_eq_true (by first | (with_reducible assumption) | assumption)
                have q141 : x5_1 < (l1.length : Int) := of_decide_eq_true (by first | (with_reducible assumption) | assumption)
                obtain ⟨ad141, A141_2, c141_2, e141, hx141_0, hx141_1, hx141_2, hl141_2, hi141_2⟩ := at_T63 (Kd.V_reads' HO_1.out).2.2 x5_1 p141 q141
                cases e141
                obtain ⟨ce141, hce141, hMe141, hcc141⟩ := Kd.V_get HO_1.out z63 x5_1 p141 (by first | exact q141 | exact of_decide_eq_true (by first | (with_reducible assumption) | assumption) | (have e_ := (Kd.V_reads' HO_1.out).1; omega))
                obtain ⟨ua141_2, uc141_2, rfl, ul141_2, ge141_2⟩ := k63_openF hMe141
                have hv141_2 := hcc141 2 _ rfl
                rw [add_field _ _ 2 (by omega)] at hv141_2
                replace hv141_2 := Option.some.inj (hv141_2.symm.trans hx141_2)
                injection hv141_2 with hva_ hvn_ hvc_
                rw [hva_] at ge141_2
                rw [hvc_] at ul141_2
                have HL141_2 := Aside0.mk (show Kd.V (Kd.int .u8) 5 _ w.heap.size _ _ ((rd_T63 l1 x5_1).f2) from Kd.V_mk ul141_2 ge141_2)
                clear hva_ hvn_ hvc_ ge141_2 ul141_2
                clear hcc141 hce141
                have HR141_2 := Aside0.mk hi141_2
                have HC141_2 := Aside0.mk hl141_2
                clear hi141_2 hl141_2
                replace p141 := eq_true p141
                replace q141 := eq_true q141
                have p142 : 0 ≤ (x5_1 : Int) := of_decide_eq_true (by first | (with_reducible assumption) | assumption)
                have q142 : x5_1 < (l1.length : Int) := of_decide_eq_true (by first | (with_reducible assumption) | assumption)
                obtain ⟨ad142, A142_2, c142_2, e142, hx142_0, hx142_1, hx142_2, hl142_2, hi142_2⟩ := at_T63 (Kd.V_reads' HO_1.out).2.2 x5_1 p142 q142
                obtain rfl : ad141 = ad142 := (by injection e142)
                obtain ⟨ce142, hce142, hMe142, hcc142⟩ := Kd.V_get HO_1.out z63 x5_1 p142 (by first | exact q142 | exact of_decide_eq_true (by first | (with_reducible assumption) | assumption) | (have e_ := (Kd.V_reads' HO_1.out).1; omega))
                obtain ⟨ua142_2, uc142_2, rfl, ul142_2, ge142_2⟩ := k63_openF hMe142
                have hv142_2 := hcc142 2 _ rfl
                rw [add_field _ _ 2 (by omega)] at hv142_2
                replace hv142_2 := Option.some.inj (hv142_2.symm.trans hx142_2)
                injection hv142_2 with hva_ hvn_ hvc_
                rw [hva_] at ge142_2
                rw [hvc_] at ul142_2
                have HL142_2 := Aside0.mk (show Kd.V (Kd.int .u8) 5 _ w.heap.size _ _ ((rd_T63 l1 x5_1).f2) from Kd.V_mk ul142_2 ge142_2)
                clear hva_ hvn_ hvc_ ge142_2 ul142_2
                clear hcc142 hce142
                have HR142_2 := Aside0.mk hi142_2
                have HC142_2 := Aside0.mk hl142_2
                clear hi142_2 hl142_2
                replace p142 := eq_true p142
                replace q142 := eq_true q142
                have ea_ := Option.some.inj (hx141_2.symm.trans hx142_2)
                injection ea_ with ea_ en_ ec_
                subst ea_
                subst ec_
                clear en_
                have hcz9_0 : wr.cell? ⟨gb140, 0, none⟩ = some (.int .u64 x141000_1) := (blk_cell BK140.out 0).trans rfl
                have hcz9_1 : wr.cell? ⟨gb140, 1, none⟩ = some (.int .u64 x141001_1) := (blk_cell BK140.out 1).trans rfl
                have hcz9_2 : wr.cell? ⟨gb140, 2, none⟩ = some (u141002) := (blk_cell BK140.out 2).trans rfl
                have hfz9_0 := blk_frozen BK140.out 0
                have hfz9_1 := blk_frozen BK140.out 1
                have hfz9_2 := blk_frozen BK140.out 2
                have p143 : 0 ≤ (x5_1 : Int) := of_decide_eq_true (by first | (with_reducible assumption) | assumption)
                have q143 : x5_1 < (l1.length : Int) := of_decide_eq_true (by first | (with_reducible assumption) | assumption)
                obtain ⟨ad143, A143_2, c143_2, e143, hx143_0, hx143_1, hx143_2, hl143_2, hi143_2⟩ := at_T63 (Kd.V_reads' HO_1.out).2.2 x5_1 p143 q143
                obtain rfl : ad141 = ad143 := (by injection e143)
                obtain ⟨ce143, hce143, hMe143, hcc143⟩ := Kd.V_get HO_1.out z63 x5_1 p143 (by first | exact q143 | exact of_decide_eq_true (by first | (with_reducible assumption) | assumption) | (have e_ := (Kd.V_reads' HO_1.out).1; omega))
                obtain ⟨ua143_2, uc143_2, rfl, ul143_2, ge143_2⟩ := k63_openF hMe143
                have hv143_2 := hcc143 2 _ rfl
                rw [add_field _ _ 2 (by omega)] at hv143_2
                replace hv143_2 := Option.some.inj (hv143_2.symm.trans hx143_2)
                injection hv143_2 with hva_ hvn_ hvc_
                rw [hva_] at ge143_2
                rw [hvc_] at ul143_2
                have HL143_2 := Aside0.mk (show Kd.V (Kd.int .u8) 5 _ w.heap.size _ _ ((rd_T63 l1 x5_1).f2) from Kd.V_mk ul143_2 ge143_2)
                clear hva_ hvn_ hvc_ ge143_2 ul143_2
                clear hcc143 hce143
                have HR143_2 := Aside0.mk hi143_2
                have HC143_2 := Aside0.mk hl143_2
                clear hi143_2 hl143_2
                replace p143 := eq_true p143
                replace q143 := eq_true q143
                have ea_ := Option.some.inj (hx141_2.symm.trans hx143_2)
                injection ea_ with ea_ en_ ec_
                subst ea_
                subst ec_
                clear en_
                go_wp2
                repeat (go_quiet (fail); try go_wp2)
                go_ret
                exact ⟨by first | rfl | (simp [errW_none, errW_some] <;> rfl) | (simp [*, errW_none, errW_some] <;> rfl), by repeat (first | (with_reducible first | exact HB.out | apply below_alloc | apply pw_below_drewN | apply below_drew1 | refine below_set ?_ GE140.out) | exact HB.out)⟩
              · rw [if_neg c8] at H
                have c8b0 : decide (((rd_T63 l1 x5_1).f1) < x141001_1) = false := decide_eq_false c8
                clear c8
                have H' := Aside0.mk H
                clear H
                have p141 : 0 ≤ (x5_1 : Int) := of_decide_eq_true (by first | (with_reducible assumption) | assumption)
                have q141 : x5_1 < (l1.length : Int) := of_decide_eq_true (by first | (with_reducible assumption) | assumption)
                obtain ⟨ad141, A141_2, c141_2, e141, hx141_0, hx141_1, hx141_2, hl141_2, hi141_2⟩ := at_T63 (Kd.V_reads' HO_1.out).2.2 x5_1 p141 q141
                cases e141
                obtain ⟨ce141, hce141, hMe141, hcc141⟩ := Kd.V_get HO_1.out z63 x5_1 p141 (by first | exact q141 | exact of_decide_eq_true (by first | (with_reducible assumption) | assumption) | (have e_ := (Kd.V_reads' HO_1.out).1; omega))
                obtain ⟨ua141_2, uc141_2, rfl, ul141_2, ge141_2⟩ := k63_openF hMe141
                have hv141_2 := hcc141 2 _ rfl
                rw [add_field _ _ 2 (by omega)] at hv141_2
                replace hv141_2 := Option.some.inj (hv141_2.symm.trans hx141_2)
                injection hv141_2 with hva_ hvn_ hvc_
                rw [hva_] at ge141_2
                rw [hvc_] at ul141_2
                have HL141_2 := Aside0.mk (show Kd.V (Kd.int .u8) 5 _ w.heap.size _ _ ((rd_T63 l1 x5_1).f2) from Kd.V_mk ul141_2 ge141_2)
                clear hva_ hvn_ hvc_ ge141_2 ul141_2
                clear hcc141 hce141
                have HR141_2 := Aside0.mk hi141_2
                have HC141_2 := Aside0.mk hl141_2
                clear hi141_2 hl141_2
                replace p141 := eq_true p141
                replace q141 := eq_true q141
                have p142 : 0 ≤ (x5_1 : Int) := of_decide_eq_true (by first | (with_reducible assumption) | assumption)
                have q142 : x5_1 < (l1.length : Int) := of_decide_eq_true (by first | (with_reducible assumption) | assumption)
                obtain ⟨ad142, A142_2, c142_2, e142, hx142_0, hx142_1, hx142_2, hl142_2, hi142_2⟩ := at_T63 (Kd.V_reads' HO_1.out).2.2 x5_1 p142 q142
                obtain rfl : ad141 = ad142 := (by injection e142)
                obtain ⟨ce142, hce142, hMe142, hcc142⟩ := Kd.V_get HO_1.out z63 x5_1 p142 (by first | exact q142 | exact of_decide_eq_true (by first | (with_reducible assumption) | assumption) | (have e_ := (Kd.V_reads' HO_1.out).1; omega))
                obtain ⟨ua142_2, uc142_2, rfl, ul142_2, ge142_2⟩ := k63_openF hMe142
                have hv142_2 := hcc142 2 _ rfl
                rw [add_field _ _ 2 (by omega)] at hv142_2
                replace hv142_2 := Option.some.inj (hv142_2.symm.trans hx142_2)
                injection hv142_2 with hva_ hvn_ hvc_
                rw [hva_] at ge142_2
                rw [hvc_] at ul142_2
                have HL142_2 := Aside0.mk (show Kd.V (Kd.int .u8) 5 _ w.heap.size _ _ ((rd_T63 l1 x5_1).f2) from Kd.V_mk ul142_2 ge142_2)
                clear hva_ hvn_ hvc_ ge142_2 ul142_2
                clear hcc142 hce142
                have HR142_2 := Aside0.mk hi142_2
                have HC142_2 := Aside0.mk hl142_2
                clear hi142_2 hl142_2
                replace p142 := eq_true p142
                replace q142 := eq_true q142
                have ea_ := Option.some.inj (hx141_2.symm.trans hx142_2)
                injection ea_ with ea_ en_ ec_
                subst ea_
                subst ec_
                clear en_
                have hcz10_0 : wr.cell? ⟨gb140, 0, none⟩ = some (.int .u64 x141000_1) := (blk_cell BK140.out 0).trans rfl
                have hcz10_1 : wr.cell? ⟨gb140, 1, none⟩ = some (.int .u64 x141001_1) := (blk_cell BK140.out 1).trans rfl
                have hcz10_2 : wr.cell? ⟨gb140, 2, none⟩ = some (u141002) := (blk_cell BK140.out 2).trans rfl
                have hfz10_0 := blk_frozen BK140.out 0
                have hfz10_1 := blk_frozen BK140.out 1
                have hfz10_2 := blk_frozen BK140.out 2
                have p143 : 0 ≤ (x5_1 : Int) := of_decide_eq_true (by first | (with_reducible assumption) | assumption)
                have q143 : x5_1 < (l1.length : Int) := of_decide_eq_true (by first | (with_reducible assumption) | assumption)
                obtain ⟨ad143, A143_2, c143_2, e143, hx143_0, hx143_1, hx143_2, hl143_2, hi143_2⟩ := at_T63 (Kd.V_reads' HO_1.out).2.2 x5_1 p143 q143
                obtain rfl : ad141 = ad143 := (by injection e143)
                obtain ⟨ce143, hce143, hMe143, hcc143⟩ := Kd.V_get HO_1.out z63 x5_1 p143 (by first | exact q143 | exact of_decide_eq_true (by first | (with_reducible assumption) | assumption) | (have e_ := (Kd.V_reads' HO_1.out).1; omega))
                obtain ⟨ua143_2, uc143_2, rfl, ul143_2, ge143_2⟩ := k63_openF hMe143
                have hv143_2 := hcc143 2 _ rfl
                rw [add_field _ _ 2 (by omega)] at hv143_2
                replace hv143_2 := Option.some.inj (hv143_2.symm.trans hx143_2)
                injection hv143_2 with hva_ hvn_ hvc_
                rw [hva_] at ge143_2
                rw [hvc_] at ul143_2
                have HL143_2 := Aside0.mk (show Kd.V (Kd.int .u8) 5 _ w.heap.size _ _ ((rd_T63 l1 x5_1).f2) from Kd.V_mk ul143_2 ge143_2)
                clear hva_ hvn_ hvc_ ge143_2 ul143_2
                clear hcc143 hce143
                have HR143_2 := Aside0.mk hi143_2
                have HC143_2 := Aside0.mk hl143_2
                clear hi143_2 hl143_2
                replace p143 := eq_true p143
                replace q143 := eq_true q143
                have ea_ := Option.some.inj (hx141_2.symm.trans hx143_2)
                injection ea_ with ea_ en_ ec_
                subst ea_
                subst ec_
                clear en_
                have p144 : 0 ≤ (x5_1 : Int) := of_decide_eq_true (by first | (with_reducible assumption) | assumption)
                have q144 : x5_1 < (l1.length : Int) := of_decide_eq_true (by first | (with_reducible assumption) | assumption)
                obtain ⟨ad144, A144_2, c144_2, e144, hx144_0, hx144_1, hx144_2, hl144_2, hi144_2⟩ := at_T63 (Kd.V_reads' HO_1.out).2.2 x5_1 p144 q144
                obtain rfl : ad141 = ad144 := (by injection e144)
                obtain ⟨ce144, hce144, hMe144, hcc144⟩ := Kd.V_get HO_1.out z63 x5_1 p144 (by first | exact q144 | exact of_decide_eq_true (by first | (with_reducible assumption) | assumption) | (have e_ := (Kd.V_reads' HO_1.out).1; omega))
                obtain ⟨ua144_2, uc144_2, rfl, ul144_2, ge144_2⟩ := k63_openF hMe144
                have hv144_2 := hcc144 2 _ rfl
                rw [add_field _ _ 2 (by omega)] at hv144_2
                replace hv144_2 := Option.some.inj (hv144_2.symm.trans hx144_2)
                injection hv144_2 with hva_ hvn_ hvc_
                rw [hva_] at ge144_2
                rw [hvc_] at ul144_2
                have HL144_2 := Aside0.mk (show Kd.V (Kd.int .u8) 5 _ w.heap.size _ _ ((rd_T63 l1 x5_1).f2) from Kd.V_mk ul144_2 ge144_2)
                clear hva_ hvn_ hvc_ ge144_2 ul144_2
                clear hcc144 hce144
                have HR144_2 := Aside0.mk hi144_2
                have HC144_2 := Aside0.mk hl144_2
                clear hi144_2 hl144_2
                replace p144 := eq_true p144
                replace q144 := eq_true q144
                have ea_ := Option.some.inj (hx141_2.symm.trans hx144_2)
                injection ea_ with ea_ en_ ec_
                subst ea_
                subst ec_
                clear en_
                go_wp2
                repeat (go_quiet (fail); try go_wp2)
                go_roundg k1
                case measure => have := HK1.out; omega
                case rel => exact ⟨(wrap64 (x5_1 + 1)), ((rd_T63 l1 x5_1).f0), ((rd_T63 l1 x5_1).f1), ((rd_T63 l1 x5_1).f2), (.slice A141_2 ((rd_T63 l1 x5_1).f2).length c141_2), (by first | rfl | (simp; done) | (simp [*]; done)), H', ⟨by have := HK1.out; omega⟩, ⟨by (with_reducible repeat (first | apply Kd.V_alloc | apply Kd.V_drewN | apply Kd.V_drew)); exact Kd.V_mono (Kd.V_far (p := ⟨gb140, 2, none⟩) (Kd.V_far (p := ⟨gb140, 1, none⟩) (Kd.V_far (p := ⟨gb140, 0, none⟩) (Kd.V_mono HO_1.out (fun k_ hk => (⟨hk, hk.2⟩ : _ ∧ k_ ≠ gb140))) (fun _ hk => hk.2) (.int .u64 ((rd_T63 l1 x5_1).f0))) (fun _ hk => hk.2) (.int .u64 ((rd_T63 l1 x5_1).f1))) (fun _ hk => hk.2) (.slice A141_2 ((rd_T63 l1 x5_1).f2).length c141_2)) (fun _ hk => ⟨hk.1.1, hk.1.2⟩)⟩, ⟨by (with_reducible repeat (first | apply Kd.V_alloc | apply Kd.V_drewN | apply Kd.V_drew)); exact Kd.V_mono (Kd.V_far (p := ⟨gb140, 2, none⟩) (Kd.V_far (p := ⟨gb140, 1, none⟩) (Kd.V_far (p := ⟨gb140, 0, none⟩) (Kd.V_mono HL144_2.out (fun k_ hk => (⟨hk, hk.2⟩ : _ ∧ k_ ≠ gb140))) (fun _ hk => hk.2) (.int .u64 ((rd_T63 l1 x5_1).f0))) (fun _ hk => hk.2) (.int .u64 ((rd_T63 l1 x5_1).f1))) (fun _ hk => hk.2) (.slice A141_2 ((rd_T63 l1 x5_1).f2).length c141_2)) (fun _ hk => ⟨hk.1.1, hk.1.2⟩)⟩, ⟨by (with_reducible repeat (first | refine blk_drewN ?_ _ | refine blk_drew ?_ | refine blk_alloc ?_ _)); refine blk_put (cs := #[.int .u64 ((rd_T63 l1 x5_1).f0), .int .u64 ((rd_T63 l1 x5_1).f1), u141002]) ?_ 2 _ rfl; (with_reducible repeat (first | refine blk_drewN ?_ _ | refine blk_drew ?_ | refine blk_alloc ?_ _)); refine blk_put (cs := #[.int .u64 ((rd_T63 l1 x5_1).f0), .int .u64 x141001_1, u141002]) ?_ 1 _ rfl; (with_reducible repeat (first | refine blk_drewN ?_ _ | refine blk_drew ?_ | refine blk_alloc ?_ _)); refine blk_put (cs := #[.int .u64 x141000_1, .int .u64 x141001_1, u141002]) ?_ 0 _ rfl; (with_reducible repeat (first | refine blk_drewN ?_ _ | refine blk_drew ?_ | refine blk_alloc ?_ _)); exact BK140.out⟩, ⟨by repeat (first | (with_reducible first | exact HB.out | apply below_alloc | apply pw_below_drewN | apply below_drew1 | refine below_set ?_ GE140.out) | exact HB.out)⟩⟩
            · rw [if_neg c7] at H
              have c7b0 : ((IntKind.u64.wrap (((rd_T63 l1 x5_1).f0) - 1)) == x141000_1) = false := beq_eq_false_iff_ne.mpr c7
              have c7b1 : ((IntKind.u64.wrap (((rd_T63 l1 x5_1).f0) - 1)) != x141000_1) = true := bne_iff_ne.mpr c7
              obtain rfl := Option.some.inj H
              have p141 : 0 ≤ (x5_1 : Int) := of_decide_eq_true (by first | (with_reducible assumption) | assumption)
              have q141 : x5_1 < (l1.length : Int) := of_decide_eq_true (by first | (with_reducible assumption) | assumption)
              obtain ⟨ad141, A141_2, c141_2, e141, hx141_0, hx141_1, hx141_2, hl141_2, hi141_2⟩ := at_T63 (Kd.V_reads' HO_1.out).2.2 x5_1 p141 q141
              cases e141
              obtain ⟨ce141, hce141, hMe141, hcc141⟩ := Kd.V_get HO_1.out z63 x5_1 p141 (by first | exact q141 | exact of_decide_eq_true (by first | (with_reducible assumption) | assumption) | (have e_ := (Kd.V_reads' HO_1.out).1; omega))
              obtain ⟨ua141_2, uc141_2, rfl, ul141_2, ge141_2⟩ := k63_openF hMe141
              have hv141_2 := hcc141 2 _ rfl
              rw [add_field _ _ 2 (by omega)] at hv141_2
              replace hv141_2 := Option.some.inj (hv141_2.symm.trans hx141_2)
              injection hv141_2 with hva_ hvn_ hvc_
              rw [hva_] at ge141_2
              rw [hvc_] at ul141_2
              have HL141_2 := Aside0.mk (show Kd.V (Kd.int .u8) 5 _ w.heap.size _ _ ((rd_T63 l1 x5_1).f2) from Kd.V_mk ul141_2 ge141_2)
              clear hva_ hvn_ hvc_ ge141_2 ul141_2
              clear hcc141 hce141
              have HR141_2 := Aside0.mk hi141_2
              have HC141_2 := Aside0.mk hl141_2
              clear hi141_2 hl141_2
              replace p141 := eq_true p141
              replace q141 := eq_true q141
              have p142 : 0 ≤ (x5_1 : Int) := of_decide_eq_true (by first | (with_reducible assumption) | assumption)
              have q142 : x5_1 < (l1.length : Int) := of_decide_eq_true (by first | (with_reducible assumption) | assumption)
              obtain ⟨ad142, A142_2, c142_2, e142, hx142_0, hx142_1, hx142_2, hl142_2, hi142_2⟩ := at_T63 (Kd.V_reads' HO_1.out).2.2 x5_1 p142 q142
              obtain rfl : ad141 = ad142 := (by injection e142)
              obtain ⟨ce142, hce142, hMe142, hcc142⟩ := Kd.V_get HO_1.out z63 x5_1 p142 (by first | exact q142 | exact of_decide_eq_true (by first | (with_reducible assumption) | assumption) | (have e_ := (Kd.V_reads' HO_1.out).1; omega))
              obtain ⟨ua142_2, uc142_2, rfl, ul142_2, ge142_2⟩ := k63_openF hMe142
              have hv142_2 := hcc142 2 _ rfl
              rw [add_field _ _ 2 (by omega)] at hv142_2
              replace hv142_2 := Option.some.inj (hv142_2.symm.trans hx142_2)
              injection hv142_2 with hva_ hvn_ hvc_
              rw [hva_] at ge142_2
              rw [hvc_] at ul142_2
              have HL142_2 := Aside0.mk (show Kd.V (Kd.int .u8) 5 _ w.heap.size _ _ ((rd_T63 l1 x5_1).f2) from Kd.V_mk ul142_2 ge142_2)
              clear hva_ hvn_ hvc_ ge142_2 ul142_2
              clear hcc142 hce142
              have HR142_2 := Aside0.mk hi142_2
              have HC142_2 := Aside0.mk hl142_2
              clear hi142_2 hl142_2
              replace p142 := eq_true p142
              replace q142 := eq_true q142
              have ea_ := Option.some.inj (hx141_2.symm.trans hx142_2)
              injection ea_ with ea_ en_ ec_
              subst ea_
              subst ec_
              clear en_
              have hcz11_0 : wr.cell? ⟨gb140, 0, none⟩ = some (.int .u64 x141000_1) := (blk_cell BK140.out 0).trans rfl
              have hcz11_1 : wr.cell? ⟨gb140, 1, none⟩ = some (.int .u64 x141001_1) := (blk_cell BK140.out 1).trans rfl
              have hcz11_2 : wr.cell? ⟨gb140, 2, none⟩ = some (u141002) := (blk_cell BK140.out 2).trans rfl
              have hfz11_0 := blk_frozen BK140.out 0
              have hfz11_1 := blk_frozen BK140.out 1
              have hfz11_2 := blk_frozen BK140.out 2
              go_wp2
              repeat (go_quiet (fail); try go_wp2)
              go_ret
              exact ⟨by first | rfl | (simp [errW_none, errW_some] <;> rfl) | (simp [*, errW_none, errW_some] <;> rfl), by repeat (first | (with_reducible first | exact HB.out | apply below_alloc | apply pw_below_drewN | apply below_drew1 | refine below_set ?_ GE140.out) | exact HB.out)⟩
        · rw [if_neg c5] at H
          exact absurd H (by simp)
      · rw [if_neg c4] at H
        have c4b0 : decide (x5_1 < (l1.length : Int)) = false := decide_eq_false c4
        clear c4
        obtain rfl := Option.some.inj H
        go_wp2
        repeat (go_quiet (fail); try go_wp2)
        go_ret
        exact ⟨by first | rfl | (simp [errW_none, errW_some] <;> rfl) | (simp [*, errW_none, errW_some] <;> rfl), by repeat (first | (with_reducible first | exact HB.out | apply below_alloc | apply pw_below_drewN | apply below_drew1 | refine below_set ?_ GE140.out) | exact HB.out)⟩

/-! ### jobberref38_Chain_From: function 63 -/
def jobberref38_Chain_From.l0 : Nat → Int → Int → List (S63) → Int → Int → Int → List Int → List (S63) → Option ((List (S63)))
  | 0, _, _, _, _, _, _, _, _ => none
  | k + 1, x1, x2, x7, x8, x146000, x146001, x146002, x146003 => if x8 < (x146003.length : Int) then (if 0 ≤ x8 then (if ((rd_T63 x146003 x8).f0) ≥ x1 then (if (x7.length : Int) < x2 then (if x7.length < 3518437208883 then (jobberref38_Chain_From.l0 k x1 x2 (x7 ++ [(⟨(rd_T63 x146003 x8).f0, (rd_T63 x146003 x8).f1, (rd_T63 x146003 x8).f2⟩ : S63)]) (wrap64 (x8 + 1)) x146000 x146001 x146002 x146003) else (none)) else (jobberref38_Chain_From.l0 k x1 x2 x7 (wrap64 (x8 + 1)) x146000 x146001 x146002 x146003)) else (jobberref38_Chain_From.l0 k x1 x2 x7 (wrap64 (x8 + 1)) x146000 x146001 x146002 x146003)) else (none)) else (some x7)
def jobberref38_Chain_From.f (k : Nat) (a0_0 : Int) (a0_1 : Int) (l0_2 : List Int) (l0_3 : List (S63)) (a1 : Int) (a2 : Int) : Option ((List (S63))) := jobberref38_Chain_From.l0 k a1 a2 ([] : List (S63)) 0 a0_0 a0_1 l0_2 l0_3
theorem jobberref38_Chain_From.mono_l : ∀ k, (∀ y0 y1 y2 y3 y4 y5 y6 y7, LeO (jobberref38_Chain_From.l0 k y0 y1 y2 y3 y4 y5 y6 y7) (jobberref38_Chain_From.l0 (k + 1) y0 y1 y2 y3 y4 y5 y6 y7))
  | 0 => fun _ _ _ _ _ _ _ _ r h => by simp [jobberref38_Chain_From.l0] at h
  | k + 1 => by
    have ih0 := jobberref38_Chain_From.mono_l k
    · intro y0 y1 y2 y3 y4 y5 y6 y7
      unfold jobberref38_Chain_From.l0
      repeat' first
      | (with_reducible exact ih0 _ _ _ _ _ _ _ _)
      | (with_reducible exact LeO.refl _)
      | (with_reducible exact LeO.none _)
      | (with_reducible refine LeO.ite ?_ ?_)
      | (with_reducible refine LeO.bind ?_ (fun _ => ?_))
      | exact ih0 _ _ _ _ _ _ _ _
      | exact LeO.none _
      | refine LeO.ite ?_ ?_
      | refine LeO.bind ?_ (fun _ => ?_)
theorem jobberref38_Chain_From.mono : ∀ a0 a1 a2 a3 a4 a5 k, LeO (jobberref38_Chain_From.f k a0 a1 a2 a3 a4 a5) (jobberref38_Chain_From.f (k + 1) a0 a1 a2 a3 a4 a5) := by
  intro a0 a1 a2 a3 a4 a5 k
  have ih0 := jobberref38_Chain_From.mono_l k
  unfold jobberref38_Chain_From.f
  repeat' first
      | (with_reducible exact ih0 _ _ _ _ _ _ _ _)
      | (with_reducible exact LeO.refl _)
      | (with_reducible exact LeO.none _)
      | (with_reducible refine LeO.ite ?_ ?_)
      | (with_reducible refine LeO.bind ?_ (fun _ => ?_))
      | exact ih0 _ _ _ _ _ _ _ _
      | exact LeO.none _
      | refine LeO.ite ?_ ?_
      | refine LeO.bind ?_ (fun _ => ?_)
set_option maxHeartbeats 8000000 in
set_option maxRecDepth 100000 in
theorem jobberref38_Chain_From.calls (k : Nat) (a0_0 : Int) (a0_1 : Int) (A0_2 : Option Addr) (c0_2 : Nat) (l0_2 : List Int) (P0_3_ : Nat → Prop) (A0_3 : Option Addr) (c0_3 : Nat) (l0_3 : List (S63)) (a1 : Int) (a2 : Int) (r : List (S63)) (w : World) (hr0_2 : Kd.C (Kd.int .u8) w A0_2 l0_2.length l0_2) (hc0_2 : l0_2.length ≤ c0_2) (hs0_3 : Kd.V k63 63 w w.heap.size (fun k_ => P0_3_ k_) (.slice A0_3 l0_3.length c0_3) l0_3) (h : jobberref38_Chain_From.f k a0_0 a0_1 l0_2 l0_3 a1 a2 = some r) :
    Calls Try.prog 63 #[.agg #[.int .u64 a0_0, .int .u64 a0_1, .slice A0_2 l0_2.length c0_2, .slice A0_3 l0_3.length c0_3], .int .u64 a1, .int .i64 a2] w fun e w' => ∃ v0_ : Value, e = .returned (v0_) ∧ Kd.N k63 63 w' w.heap.size (fun k_ => (P0_3_ k_ ∨ w.heap.size ≤ k_)) v0_ r ∧ Below w.heap.size w w' := by
  have hu66 := Try.underlying66
  have hu63 := Try.underlying63
  have HR0_2 := Aside0.mk hr0_2
  have HC0_2 := Aside0.mk hc0_2
  clear hr0_2 hc0_2
  have HO0_3 := Aside0.mk (show Kd.V k63 63 w w.heap.size (fun k_ => (P0_3_ k_ ∨ w.heap.size ≤ k_)) (.slice A0_3 l0_3.length c0_3) l0_3 from Kd.V_mono hs0_3 (fun k_ hk => .inl hk))
  have HB := Aside0.mk (Below.refl w.heap.size w)
  have H : (jobberref38_Chain_From.l0 k a1 a2 ([] : List (S63)) 0 a0_0 a0_1 l0_2 l0_3) = some r := h
  clear h
  have H' := Aside0.mk H
  clear H
  go_enter Try.func63, Try.ntmps63
  go_wp2_with (first | ((with_reducible refine gate_dst (N := 3) rfl ?_); (try (refine gate_guard (by rfl) ?_; dsimp only)); refine box_event ?hg (N := 3) ?hd (cs := #[.int .u64 a0_0, .int .u64 a0_1, .slice A0_2 l0_2.length c0_2, .slice A0_3 l0_3.length c0_3]) (t := 66) ?hr ?_; (case hd => rfl); (case hg => rfl); (case hr => first | (go_simp; done) | (go_simp; rfl)); intro gb145 hg w4 hbox hb; have n0_ := Aside0.mk (Kd.V_below (Kd.V_elderB (by (with_reducible repeat (first | apply Kd.V_alloc | apply Kd.V_drewN | apply Kd.V_drew)); exact HO0_3.out) gb145 (Nat.le_of_eq hg.symm)) hb); have n1_ := Aside0.mk (below_step (by repeat (first | (with_reducible first | exact HB.out | apply below_alloc | apply pw_below_drewN | apply below_drew1) | exact HB.out)) hb); have n2_ := Aside0.mk (hbox); have n3_ := Aside0.mk ((by rw [hg]; exact (below_size (by repeat (first | (with_reducible first | exact HB.out | apply below_alloc | apply pw_below_drewN | apply below_drew1) | exact HB.out))) : w.heap.size ≤ gb145)); have n4_ := Aside0.mk ((by rw [hg]; exact (below_size (by repeat (first | (with_reducible first | exact HB.out | apply below_alloc | apply pw_below_drewN | apply below_drew1) | exact HB.out))) : w.heap.size ≤ gb145)); clear HO0_3; clear HB; have HO0_3 := n0_; have HB := n1_; have BK145 := n2_; have GW145 := n3_; have GE145 := n4_; clear n0_ n1_ n2_ n3_ n4_; clear hb hbox hg))
  go_loopg [7, 8] k (fun kq v7 v8 w' => ∃ (x7_1 : List (S63)) (x8_1 : Int), v8 = .int .i64 x8_1 ∧ Aside0 (jobberref38_Chain_From.l0 kq a1 a2 x7_1 x8_1 a0_0 a0_1 l0_2 l0_3 = some r) ∧ Aside0 (kq ≤ k) ∧ Aside0 (Kd.N k63 63 w' w.heap.size (fun k_ => (P0_3_ k_ ∨ w.heap.size ≤ k_) ∧ k_ ≠ gb145) v7 x7_1) ∧ Aside0 (Kd.V k63 63 w' w.heap.size (fun k_ => (P0_3_ k_ ∨ w.heap.size ≤ k_) ∧ some k_ ≠ (v7 : Value).ownBlock ∧ k_ ≠ gb145) (.slice A0_3 l0_3.length c0_3) l0_3) ∧ Aside0 (w'.heap[gb145]? = some (.cells #[.int .u64 a0_0, .int .u64 a0_1, (.slice A0_2 l0_2.length c0_2), (.slice A0_3 l0_3.length c0_3)] 66 (0, 0))) ∧ Aside0 (Below w.heap.size w w'))
  case atStart => exact ⟨(([] : List (S63))), (0), (by first | rfl | (simp; done) | (simp [*]; done)), H', ⟨Nat.le_refl _⟩, ⟨by first | exact Kd.S_nil _ _ _ _ _ | exact Kd.N_nil _ _ _ _ _ | exact Kd.V_nil _ _ _ _ _ | exact Kd.Q_nil _ _ _ _ _ | exact Kd.R_nil _ _ _ _ _⟩, ⟨by (with_reducible repeat (first | apply Kd.V_alloc | apply Kd.V_drewN | apply Kd.V_drew)); exact Kd.V_mono HO0_3.out (fun _ hk => ⟨hk.1, ⟨(by simp [Value.ownBlock]), hk.2⟩⟩)⟩, ⟨by (with_reducible repeat (first | refine blk_drewN ?_ _ | refine blk_drew ?_ | refine blk_alloc ?_ _)); exact BK145.out⟩, ⟨by repeat (first | (with_reducible first | exact HB.out | apply below_alloc | apply pw_below_drewN | apply below_drew1 | refine below_set ?_ GE145.out) | exact HB.out)⟩⟩
  case round =>
    clear H'
    try clear p2
    obtain ⟨x7_1, x8_1, rfl, HA, HK1, HO_7, HO_146003, BK145, HB⟩ := hrel
    cases gk with
    | zero => exact absurd HA.out (by simp [jobberref38_Chain_From.l0])
    | succ k1 =>
      have H := HA.out
      clear HA
      simp only [jobberref38_Chain_From.l0] at H
      by_cases c5 : x8_1 < (l0_3.length : Int)
      · rw [if_pos c5] at H
        have c5b0 : decide (x8_1 < (l0_3.length : Int)) = true := decide_eq_true c5
        clear c5
        by_cases c6 : 0 ≤ x8_1
        · rw [if_pos c6] at H
          have c6b0 : decide (0 ≤ x8_1) = true := decide_eq_true c6
          clear c6
          by_cases c7 : ((rd_T63 l0_3 x8_1).f0) ≥ a1
          · rw [if_pos c7] at H
            have c7b0 : decide (a1 ≤ ((rd_T63 l0_3 x8_1).f0)) = true := decide_eq_true c7
            clear c7
            by_cases c8 : (x7_1.length : Int) < a2
            · rw [if_pos c8] at H
              have c8b0 : decide ((x7_1.length : Int) < a2) = true := decide_eq_true c8
              clear c8
              by_cases c9 : x7_1.length < 3518437208883
              · rw [if_pos c9] at H
                have LMc9 := Aside0.mk c9
                clear c9
                obtain ⟨y148, hy148⟩ : ∃ y_ : List (S63), y_ = (x7_1 ++ [(⟨(rd_T63 l0_3 x8_1).f0, (rd_T63 l0_3 x8_1).f1, (rd_T63 l0_3 x8_1).f2⟩ : S63)]) := ⟨_, rfl⟩
                replace H : (jobberref38_Chain_From.l0 k1 a1 a2 y148 (wrap64 (x8_1 + 1)) a0_0 a0_1 l0_2 l0_3) = some r := by first | (rw [hy148]; with_reducible exact H) | (have H2_ := (Option.bind_some _ _).symm.trans H; rw [hy148]; with_reducible exact H2_) | (have H2_ := (Option.bind_some _ _).symm.trans H; with_reducible exact H2_) | with_reducible exact H | (rw [hy148]; exact H) | exact H
                have Ny148 := Aside0.mk hy148
                clear hy148
                have H' := Aside0.mk H
                clear H
                have hcz10_0 : wr.cell? ⟨gb145, 0, none⟩ = some (.int .u64 a0_0) := (blk_cell BK145.out 0).trans rfl
                have hcz10_1 : wr.cell? ⟨gb145, 1, none⟩ = some (.int .u64 a0_1) := (blk_cell BK145.out 1).trans rfl
                have hcz10_2 : wr.cell? ⟨gb145, 2, none⟩ = some (.slice A0_2 l0_2.length c0_2) := (blk_cell BK145.out 2).trans rfl
                have hcz10_3 : wr.cell? ⟨gb145, 3, none⟩ = some (.slice A0_3 l0_3.length c0_3) := (blk_cell BK145.out 3).trans rfl
                have hfz10_0 := blk_frozen BK145.out 0
                have hfz10_1 := blk_frozen BK145.out 1
                have hfz10_2 := blk_frozen BK145.out 2
                have hfz10_3 := blk_frozen BK145.out 3
                have p146 : 0 ≤ (x8_1 : Int) := of_decide_eq_true (by first | (with_reducible assumption) | assumption)
                have q146 : x8_1 < (l0_3.length : Int) := of_decide_eq_true (by first | (with_reducible assumption) | assumption)
                obtain ⟨ad146, A146_2, c146_2, e146, hx146_0, hx146_1, hx146_2, hl146_2, hi146_2⟩ := at_T63 (Kd.V_reads' HO_146003.out).2.2 x8_1 p146 q146
                cases e146
                obtain ⟨ce146, hce146, hMe146, hcc146⟩ := Kd.V_get HO_146003.out z63 x8_1 p146 (by first | exact q146 | exact of_decide_eq_true (by first | (with_reducible assumption) | assumption) | (have e_ := (Kd.V_reads' HO_146003.out).1; omega))
                obtain ⟨ua146_2, uc146_2, rfl, ul146_2, ge146_2⟩ := k63_openF hMe146
                have hv146_2 := hcc146 2 _ rfl
                rw [add_field _ _ 2 (by omega)] at hv146_2
                replace hv146_2 := Option.some.inj (hv146_2.symm.trans hx146_2)
                injection hv146_2 with hva_ hvn_ hvc_
                rw [hva_] at ge146_2
                rw [hvc_] at ul146_2
                have HL146_2 := Aside0.mk (show Kd.V (Kd.int .u8) 5 _ w.heap.size _ _ ((rd_T63 l0_3 x8_1).f2) from Kd.V_mk ul146_2 ge146_2)
                clear hva_ hvn_ hvc_ ge146_2 ul146_2
                clear hcc146 hce146
                have HR146_2 := Aside0.mk hi146_2
                have HC146_2 := Aside0.mk hl146_2
                clear hi146_2 hl146_2
                replace p146 := eq_true p146
                replace q146 := eq_true q146
                obtain ⟨Ao11, co11, eo11⟩ := Kd.N_slice HO_7.out
                subst eo11
                have p147 : 0 ≤ (x8_1 : Int) := of_decide_eq_true (by first | (with_reducible assumption) | assumption)
                have q147 : x8_1 < (l0_3.length : Int) := of_decide_eq_true (by first | (with_reducible assumption) | assumption)
                obtain ⟨ad147, A147_2, c147_2, e147, hx147_0, hx147_1, hx147_2, hl147_2, hi147_2⟩ := at_T63 (Kd.V_reads' HO_146003.out).2.2 x8_1 p147 q147
                obtain rfl : ad146 = ad147 := (by injection e147)
                obtain ⟨ce147, hce147, hMe147, hcc147⟩ := Kd.V_get HO_146003.out z63 x8_1 p147 (by first | exact q147 | exact of_decide_eq_true (by first | (with_reducible assumption) | assumption) | (have e_ := (Kd.V_reads' HO_146003.out).1; omega))
                obtain ⟨ua147_2, uc147_2, rfl, ul147_2, ge147_2⟩ := k63_openF hMe147
                have hv147_2 := hcc147 2 _ rfl
                rw [add_field _ _ 2 (by omega)] at hv147_2
                replace hv147_2 := Option.some.inj (hv147_2.symm.trans hx147_2)
                injection hv147_2 with hva_ hvn_ hvc_
                rw [hva_] at ge147_2
                rw [hvc_] at ul147_2
                have HL147_2 := Aside0.mk (show Kd.V (Kd.int .u8) 5 _ w.heap.size _ _ ((rd_T63 l0_3 x8_1).f2) from Kd.V_mk ul147_2 ge147_2)
                clear hva_ hvn_ hvc_ ge147_2 ul147_2
                clear hcc147 hce147
                have HR147_2 := Aside0.mk hi147_2
                have HC147_2 := Aside0.mk hl147_2
                clear hi147_2 hl147_2
                replace p147 := eq_true p147
                replace q147 := eq_true q147
                have ea_ := Option.some.inj (hx146_2.symm.trans hx147_2)
                injection ea_ with ea_ en_ ec_
                subst ea_
                subst ec_
                clear en_
                go_wp2_with (first | ((with_reducible refine gate_builtin (b := .append) (xs := #[.tmp 30, .tmp 36]) rfl ?_); (try (refine gate_guard (by rfl) ?_; dsimp only)); at_builtin; refine Kd.N_append k63 (w0 := w) w.heap.size rfl (.tmp 30) (.tmp 36) 64 63 (.agg #[(.int .u64 0), (.int .u64 0), (.slice none 0 0)]) 40 rfl Try.underlying64 info63 rfl (by decide) (by omega) (.slice Ao11 x7_1.length co11) x7_1 (⟨(rd_T63 l0_3 x8_1).f0, (rd_T63 l0_3 x8_1).f1, (rd_T63 l0_3 x8_1).f2⟩ : S63) [.int .u64 ((rd_T63 l0_3 x8_1).f0), .int .u64 ((rd_T63 l0_3 x8_1).f1), .slice A146_2 ((rd_T63 l0_3 x8_1).f2).length c146_2] (fun k_ => (P0_3_ k_ ∨ w.heap.size ≤ k_) ∧ k_ ≠ gb145) (fun k_ => ((fun k_ => (P0_3_ k_ ∨ w.heap.size ≤ k_) ∧ k_ ≠ gb145)) k_ ∧ some k_ ≠ (.slice Ao11 x7_1.length co11 : Value).ownBlock) rfl rfl ?aP (fun _ hk => hk) ?aF ?aO ?aB ?aS ?aL ?_; (case aP => exact (k63_mkF _ _ (⟨(rd_T63 l0_3 x8_1).f0, (rd_T63 l0_3 x8_1).f1, (rd_T63 l0_3 x8_1).f2⟩ : S63) (Kd.V_reads' (Kd.V_mono (ok' := (fun k_ => ((fun k_ => (P0_3_ k_ ∨ w.heap.size ≤ k_) ∧ k_ ≠ gb145)) k_ ∧ some k_ ≠ (.slice Ao11 x7_1.length co11 : Value).ownBlock)) (HL147_2.out) (fun k_ hk => ⟨⟨hk.1, hk.2.2⟩, hk.2.1⟩))).2.1 (Kd.V_F (Kd.V_mono (ok' := (fun k_ => ((fun k_ => (P0_3_ k_ ∨ w.heap.size ≤ k_) ∧ k_ ≠ gb145)) k_ ∧ some k_ ≠ (.slice Ao11 x7_1.length co11 : Value).ownBlock)) (HL147_2.out) (fun k_ hk => ⟨⟨hk.1, hk.2.2⟩, hk.2.1⟩))))); (case aB => exact (by repeat (first | (with_reducible first | exact HB.out | apply below_alloc | apply pw_below_drewN | apply below_drew1 | refine below_set ?_ GE145.out) | exact HB.out))); (case aF => exact (fun k_ hk => ⟨(.inr (Nat.le_trans (below_size (by repeat (first | (with_reducible first | exact HB.out | apply below_alloc | apply pw_below_drewN | apply below_drew1 | refine below_set ?_ GE145.out) | exact HB.out))) hk)), Kd.freshB (g := gb145) (o := .cells #[.int .u64 a0_0, .int .u64 a0_1, .slice A0_2 l0_2.length c0_2, .slice (some ad146) l0_3.length c0_3] 66 (0, 0)) (by (with_reducible repeat (first | refine blk_drewN ?_ _ | refine blk_drew ?_ | refine blk_alloc ?_ _)); exact BK145.out) k_ hk⟩)); (case aO => exact (by (with_reducible repeat (first | apply Kd.N_alloc | apply Kd.N_drewN | apply Kd.N_drew)); exact HO_7.out)); (case aS => exact (below_size (by repeat (first | (with_reducible first | exact HB.out | apply below_alloc | apply pw_below_drewN | apply below_drew1 | refine below_set ?_ GE145.out) | exact HB.out)))); (case aL => have := LMc9.out; omega); intro v149 w12 ho hb hg hat; rw [← Ny148.out] at ho; have n0_ := Aside0.mk (Kd.V_afterv (ok := (fun k_ => (P0_3_ k_ ∨ w.heap.size ≤ k_) ∧ k_ ≠ gb145)) (by (with_reducible repeat (first | apply Kd.V_alloc | apply Kd.V_drewN | apply Kd.V_drew)); exact Kd.V_mono HO_146003.out (fun _ hk => ⟨⟨hk.1, hk.2.2⟩, hk.2.1⟩)) hg hat); have n1_ := Aside0.mk (blk_grown (g := gb145) (o := .cells #[.int .u64 a0_0, .int .u64 a0_1, .slice A0_2 l0_2.length c0_2, .slice (some ad146) l0_3.length c0_3] 66 (0, 0)) (by (with_reducible repeat (first | refine blk_drewN ?_ _ | refine blk_drew ?_ | refine blk_alloc ?_ _)); exact BK145.out) hg (Kd.N_ne HO_7.out BK145.out (by decide))); have n2_ := Aside0.mk (Kd.V_afterv (ok := (fun k_ => (P0_3_ k_ ∨ w.heap.size ≤ k_) ∧ k_ ≠ gb145)) (by (with_reducible repeat (first | apply Kd.V_alloc | apply Kd.V_drewN | apply Kd.V_drew)); exact Kd.V_mono HL146_2.out (fun _ hk => ⟨⟨hk.1, hk.2.2⟩, hk.2.1⟩)) hg hat); have n3_ := Aside0.mk (Kd.V_afterv (ok := (fun k_ => (P0_3_ k_ ∨ w.heap.size ≤ k_) ∧ k_ ≠ gb145)) (by (with_reducible repeat (first | apply Kd.V_alloc | apply Kd.V_drewN | apply Kd.V_drew)); exact Kd.V_mono HL147_2.out (fun _ hk => ⟨⟨hk.1, hk.2.2⟩, hk.2.1⟩)) hg hat); have n4_ := Aside0.mk (hb); have n5_ := Aside0.mk (ho); clear HO_146003; clear BK145; clear HL146_2; clear HL147_2; clear HB; clear HO_7; have HO_146003 := n0_; have BK145 := n1_; have HL146_2 := n2_; have HL147_2 := n3_; have HB := n4_; have HO150 := n5_; clear n0_ n1_ n2_ n3_ n4_ n5_; clear ho hb hg hat))
                go_roundg k1
                case measure => have := HK1.out; omega
                case rel => exact ⟨(y148), (wrap64 (x8_1 + 1)), (by first | rfl | (simp; done) | (simp [*]; done)), H', ⟨by have := HK1.out; omega⟩, ⟨by (with_reducible repeat (first | apply Kd.N_alloc | apply Kd.N_drewN | apply Kd.N_drew)); exact HO150.out⟩, ⟨by (with_reducible repeat (first | apply Kd.V_alloc | apply Kd.V_drewN | apply Kd.V_drew)); exact Kd.V_mono HO_146003.out (fun _ hk => ⟨hk.1.1, ⟨hk.2, hk.1.2⟩⟩)⟩, ⟨by (with_reducible repeat (first | refine blk_drewN ?_ _ | refine blk_drew ?_ | refine blk_alloc ?_ _)); exact BK145.out⟩, ⟨by repeat (first | (with_reducible first | exact HB.out | apply below_alloc | apply pw_below_drewN | apply below_drew1 | refine below_set ?_ GE145.out) | exact HB.out)⟩⟩
              · rw [if_neg c9] at H
                exact absurd H (by simp)
            · rw [if_neg c8] at H
              have c8b0 : decide ((x7_1.length : Int) < a2) = false := decide_eq_false c8
              clear c8
              have H' := Aside0.mk H
              clear H
              have hcz13_0 : wr.cell? ⟨gb145, 0, none⟩ = some (.int .u64 a0_0) := (blk_cell BK145.out 0).trans rfl
              have hcz13_1 : wr.cell? ⟨gb145, 1, none⟩ = some (.int .u64 a0_1) := (blk_cell BK145.out 1).trans rfl
              have hcz13_2 : wr.cell? ⟨gb145, 2, none⟩ = some (.slice A0_2 l0_2.length c0_2) := (blk_cell BK145.out 2).trans rfl
              have hcz13_3 : wr.cell? ⟨gb145, 3, none⟩ = some (.slice A0_3 l0_3.length c0_3) := (blk_cell BK145.out 3).trans rfl
              have hfz13_0 := blk_frozen BK145.out 0
              have hfz13_1 := blk_frozen BK145.out 1
              have hfz13_2 := blk_frozen BK145.out 2
              have hfz13_3 := blk_frozen BK145.out 3
              have p146 : 0 ≤ (x8_1 : Int) := of_decide_eq_true (by first | (with_reducible assumption) | assumption)
              have q146 : x8_1 < (l0_3.length : Int) := of_decide_eq_true (by first | (with_reducible assumption) | assumption)
              obtain ⟨ad146, A146_2, c146_2, e146, hx146_0, hx146_1, hx146_2, hl146_2, hi146_2⟩ := at_T63 (Kd.V_reads' HO_146003.out).2.2 x8_1 p146 q146
              cases e146
              obtain ⟨ce146, hce146, hMe146, hcc146⟩ := Kd.V_get HO_146003.out z63 x8_1 p146 (by first | exact q146 | exact of_decide_eq_true (by first | (with_reducible assumption) | assumption) | (have e_ := (Kd.V_reads' HO_146003.out).1; omega))
              obtain ⟨ua146_2, uc146_2, rfl, ul146_2, ge146_2⟩ := k63_openF hMe146
              have hv146_2 := hcc146 2 _ rfl
              rw [add_field _ _ 2 (by omega)] at hv146_2
              replace hv146_2 := Option.some.inj (hv146_2.symm.trans hx146_2)
              injection hv146_2 with hva_ hvn_ hvc_
              rw [hva_] at ge146_2
              rw [hvc_] at ul146_2
              have HL146_2 := Aside0.mk (show Kd.V (Kd.int .u8) 5 _ w.heap.size _ _ ((rd_T63 l0_3 x8_1).f2) from Kd.V_mk ul146_2 ge146_2)
              clear hva_ hvn_ hvc_ ge146_2 ul146_2
              clear hcc146 hce146
              have HR146_2 := Aside0.mk hi146_2
              have HC146_2 := Aside0.mk hl146_2
              clear hi146_2 hl146_2
              replace p146 := eq_true p146
              replace q146 := eq_true q146
              obtain ⟨Ao14, co14, eo14⟩ := Kd.N_slice HO_7.out
              subst eo14
              go_wp2
              go_roundg k1
              case measure => have := HK1.out; omega
              case rel => exact ⟨(x7_1), (wrap64 (x8_1 + 1)), (by first | rfl | (simp; done) | (simp [*]; done)), H', ⟨by have := HK1.out; omega⟩, ⟨by (with_reducible repeat (first | apply Kd.N_alloc | apply Kd.N_drewN | apply Kd.N_drew)); exact HO_7.out⟩, ⟨by (with_reducible repeat (first | apply Kd.V_alloc | apply Kd.V_drewN | apply Kd.V_drew)); exact HO_146003.out⟩, ⟨by (with_reducible repeat (first | refine blk_drewN ?_ _ | refine blk_drew ?_ | refine blk_alloc ?_ _)); exact BK145.out⟩, ⟨by repeat (first | (with_reducible first | exact HB.out | apply below_alloc | apply pw_below_drewN | apply below_drew1 | refine below_set ?_ GE145.out) | exact HB.out)⟩⟩
          · rw [if_neg c7] at H
            have c7b0 : decide (a1 ≤ ((rd_T63 l0_3 x8_1).f0)) = false := decide_eq_false c7
            clear c7
            have H' := Aside0.mk H
            clear H
            have hcz15_0 : wr.cell? ⟨gb145, 0, none⟩ = some (.int .u64 a0_0) := (blk_cell BK145.out 0).trans rfl
            have hcz15_1 : wr.cell? ⟨gb145, 1, none⟩ = some (.int .u64 a0_1) := (blk_cell BK145.out 1).trans rfl
            have hcz15_2 : wr.cell? ⟨gb145, 2, none⟩ = some (.slice A0_2 l0_2.length c0_2) := (blk_cell BK145.out 2).trans rfl
            have hcz15_3 : wr.cell? ⟨gb145, 3, none⟩ = some (.slice A0_3 l0_3.length c0_3) := (blk_cell BK145.out 3).trans rfl
            have hfz15_0 := blk_frozen BK145.out 0
            have hfz15_1 := blk_frozen BK145.out 1
            have hfz15_2 := blk_frozen BK145.out 2
            have hfz15_3 := blk_frozen BK145.out 3
            have p146 : 0 ≤ (x8_1 : Int) := of_decide_eq_true (by first | (with_reducible assumption) | assumption)
            have q146 : x8_1 < (l0_3.length : Int) := of_decide_eq_true (by first | (with_reducible assumption) | assumption)
            obtain ⟨ad146, A146_2, c146_2, e146, hx146_0, hx146_1, hx146_2, hl146_2, hi146_2⟩ := at_T63 (Kd.V_reads' HO_146003.out).2.2 x8_1 p146 q146
            cases e146
            obtain ⟨ce146, hce146, hMe146, hcc146⟩ := Kd.V_get HO_146003.out z63 x8_1 p146 (by first | exact q146 | exact of_decide_eq_true (by first | (with_reducible assumption) | assumption) | (have e_ := (Kd.V_reads' HO_146003.out).1; omega))
            obtain ⟨ua146_2, uc146_2, rfl, ul146_2, ge146_2⟩ := k63_openF hMe146
            have hv146_2 := hcc146 2 _ rfl
            rw [add_field _ _ 2 (by omega)] at hv146_2
            replace hv146_2 := Option.some.inj (hv146_2.symm.trans hx146_2)
            injection hv146_2 with hva_ hvn_ hvc_
            rw [hva_] at ge146_2
            rw [hvc_] at ul146_2
            have HL146_2 := Aside0.mk (show Kd.V (Kd.int .u8) 5 _ w.heap.size _ _ ((rd_T63 l0_3 x8_1).f2) from Kd.V_mk ul146_2 ge146_2)
            clear hva_ hvn_ hvc_ ge146_2 ul146_2
            clear hcc146 hce146
            have HR146_2 := Aside0.mk hi146_2
            have HC146_2 := Aside0.mk hl146_2
            clear hi146_2 hl146_2
            replace p146 := eq_true p146
            replace q146 := eq_true q146
            go_wp2
            go_roundg k1
            case measure => have := HK1.out; omega
            case rel => exact ⟨(x7_1), (wrap64 (x8_1 + 1)), (by first | rfl | (simp; done) | (simp [*]; done)), H', ⟨by have := HK1.out; omega⟩, ⟨by (with_reducible repeat (first | apply Kd.N_alloc | apply Kd.N_drewN | apply Kd.N_drew)); exact HO_7.out⟩, ⟨by (with_reducible repeat (first | apply Kd.V_alloc | apply Kd.V_drewN | apply Kd.V_drew)); exact HO_146003.out⟩, ⟨by (with_reducible repeat (first | refine blk_drewN ?_ _ | refine blk_drew ?_ | refine blk_alloc ?_ _)); exact BK145.out⟩, ⟨by repeat (first | (with_reducible first | exact HB.out | apply below_alloc | apply pw_below_drewN | apply below_drew1 | refine below_set ?_ GE145.out) | exact HB.out)⟩⟩
        · rw [if_neg c6] at H
          exact absurd H (by simp)
      · rw [if_neg c5] at H
        have c5b0 : decide (x8_1 < (l0_3.length : Int)) = false := decide_eq_false c5
        clear c5
        obtain rfl := Option.some.inj H
        have hcz16_0 : wr.cell? ⟨gb145, 0, none⟩ = some (.int .u64 a0_0) := (blk_cell BK145.out 0).trans rfl
        have hcz16_1 : wr.cell? ⟨gb145, 1, none⟩ = some (.int .u64 a0_1) := (blk_cell BK145.out 1).trans rfl
        have hcz16_2 : wr.cell? ⟨gb145, 2, none⟩ = some (.slice A0_2 l0_2.length c0_2) := (blk_cell BK145.out 2).trans rfl
        have hcz16_3 : wr.cell? ⟨gb145, 3, none⟩ = some (.slice A0_3 l0_3.length c0_3) := (blk_cell BK145.out 3).trans rfl
        have hfz16_0 := blk_frozen BK145.out 0
        have hfz16_1 := blk_frozen BK145.out 1
        have hfz16_2 := blk_frozen BK145.out 2
        have hfz16_3 := blk_frozen BK145.out 3
        go_wp2
        go_ret
        exact ⟨_, by first | rfl | (simp [errW_none, errW_some] <;> rfl) | (simp [*, errW_none, errW_some] <;> rfl), by (with_reducible repeat (first | apply Kd.N_alloc | apply Kd.N_drewN | apply Kd.N_drew)); exact Kd.N_mono HO_7.out (fun _ hk => hk.1), by repeat (first | (with_reducible first | exact HB.out | apply below_alloc | apply pw_below_drewN | apply below_drew1 | refine below_set ?_ GE145.out) | exact HB.out)⟩

end Go.Proofs.Ythkhfhhbldjdlaa.Chp
