/- Printed by this session's wip/drive.py over the translation; some functions by hand. -/
import Derived.Test.YtjjnbcaemognhaaZCapx0
import Derived.Test.YtjjnbcaemognhaaZCapx7
import Derived.Test.YtjjnbcaemognhaaZCapx12
namespace Go.Proofs.Ytjjnbcaemognhaa.Cap
open Go.RowKit Go.Proofs.YtjjnbcaemognhaaW.PrintWords Go.Proofs.YtjjnbcaemognhaaW.PrintLast Go.Proofs.YtjjnbcaemognhaaW.PrintMore
attribute [local go_sem] max2_int min2_int max_two min_two max_three min_three max_four min_four
set_option linter.unusedVariables false
set_option linter.unusedSimpArgs false
def jobberlaw19_lives.f (k : Nat)  : Option (Bool) := (some (([(⟨1, 0, 1, 12, 5, 1⟩ : S42), (⟨2, 0, 1, 10, 5, 2⟩ : S42), (⟨3, 0, 2, 9, 4, 3⟩ : S42), (⟨4, 0, 2, 11, 4, 4⟩ : S42)] : List (S42)) : List (S42))).bind fun y191 => ((call_Price.f y191 0).bind fun bt194 => ((call_Deals.f k y191 bt194.1 bt194.2 1 1).bind fun t196 => (if bt194.1 = 11 then (if bt194.2 = 5 then (if (t196.length : Int) = 2 then (if 0 < (t196.length : Int) then (if ((rd_T44 t196 0).f2) = 4 then (if ((rd_T44 t196 0).f1.f0) = 3 then (if 1 < (t196.length : Int) then (if ((rd_T44 t196 1).f2) = 1 then (some (((rd_T44 t196 1).f0.f0) == 1)) else (some false)) else (none)) else (some false)) else (some false)) else (none)) else (some false)) else (some false)) else (some false))))
theorem jobberlaw19_lives.mono : ∀ k, LeO (jobberlaw19_lives.f k ) (jobberlaw19_lives.f (k + 1) ) := by
  intro  k
  unfold jobberlaw19_lives.f
  repeat' first
      | (with_reducible exact call_Deals.mono _ _ _ _ _ _)
      | (with_reducible exact LeO.refl _)
      | (with_reducible exact LeO.none _)
      | (with_reducible refine LeO.ite ?_ ?_)
      | (with_reducible refine LeO.bind ?_ (fun _ => ?_))
      | exact call_Deals.mono _ _ _ _ _ _
      | exact LeO.none _
      | refine LeO.ite ?_ ?_
      | refine LeO.bind ?_ (fun _ => ?_)
set_option maxHeartbeats 8000000 in
set_option maxRecDepth 100000 in
theorem jobberlaw19_lives.calls (k : Nat)  (r : Bool) (w : World) (h : jobberlaw19_lives.f k  = some r) :
    Calls Try.prog 7 #[] w fun e w' => e = .returned (.bool r) ∧ Below w.heap.size w w' := by
  have hu42 := Try.underlying42
  have HB := Aside0.mk (Below.refl w.heap.size w)
  have H : ((some (([(⟨1, 0, 1, 12, 5, 1⟩ : S42), (⟨2, 0, 1, 10, 5, 2⟩ : S42), (⟨3, 0, 2, 9, 4, 3⟩ : S42), (⟨4, 0, 2, 11, 4, 4⟩ : S42)] : List (S42)) : List (S42))).bind fun y191 => ((call_Price.f y191 0).bind fun bt194 => ((call_Deals.f k y191 bt194.1 bt194.2 1 1).bind fun t196 => (if bt194.1 = 11 then (if bt194.2 = 5 then (if (t196.length : Int) = 2 then (if 0 < (t196.length : Int) then (if ((rd_T44 t196 0).f2) = 4 then (if ((rd_T44 t196 0).f1.f0) = 3 then (if 1 < (t196.length : Int) then (if ((rd_T44 t196 1).f2) = 1 then (some (((rd_T44 t196 1).f0.f0) == 1)) else (some false)) else (none)) else (some false)) else (some false)) else (none)) else (some false)) else (some false)) else (some false))))) = some r := h
  clear h
  obtain ⟨y191, hy191⟩ : ∃ y_ : List (S42), y_ = (([(⟨1, 0, 1, 12, 5, 1⟩ : S42), (⟨2, 0, 1, 10, 5, 2⟩ : S42), (⟨3, 0, 2, 9, 4, 3⟩ : S42), (⟨4, 0, 2, 11, 4, 4⟩ : S42)] : List (S42))) := ⟨_, rfl⟩
  replace H : ((call_Price.f y191 0).bind fun bt194 => ((call_Deals.f k y191 bt194.1 bt194.2 1 1).bind fun t196 => (if bt194.1 = 11 then (if bt194.2 = 5 then (if (t196.length : Int) = 2 then (if 0 < (t196.length : Int) then (if ((rd_T44 t196 0).f2) = 4 then (if ((rd_T44 t196 0).f1.f0) = 3 then (if 1 < (t196.length : Int) then (if ((rd_T44 t196 1).f2) = 1 then (some (((rd_T44 t196 1).f0.f0) == 1)) else (some false)) else (none)) else (some false)) else (some false)) else (none)) else (some false)) else (some false)) else (some false)))) = some r := by first | (rw [hy191]; with_reducible exact H) | (have H2_ := (Option.bind_some _ _).symm.trans H; rw [hy191]; with_reducible exact H2_) | (have H2_ := (Option.bind_some _ _).symm.trans H; with_reducible exact H2_) | with_reducible exact H | (rw [hy191]; exact H) | exact H
  have Ny191 := Aside0.mk hy191
  clear hy191
  replace H := Option.bind_eq_some_iff.mp H
  obtain ⟨⟨t194, t195⟩, A10, H⟩ := H
  replace H : ((call_Deals.f k y191 t194 t195 1 1).bind fun t196 => (if t194 = 11 then (if t195 = 5 then (if (t196.length : Int) = 2 then (if 0 < (t196.length : Int) then (if ((rd_T44 t196 0).f2) = 4 then (if ((rd_T44 t196 0).f1.f0) = 3 then (if 1 < (t196.length : Int) then (if ((rd_T44 t196 1).f2) = 1 then (some (((rd_T44 t196 1).f0.f0) == 1)) else (some false)) else (none)) else (some false)) else (some false)) else (none)) else (some false)) else (some false)) else (some false))) = some r := H
  have A1 := Aside0.mk A10
  clear A10
  replace H := Option.bind_eq_some_iff.mp H
  obtain ⟨t196, A20, H⟩ := H
  replace H : (if t194 = 11 then (if t195 = 5 then (if (t196.length : Int) = 2 then (if 0 < (t196.length : Int) then (if ((rd_T44 t196 0).f2) = 4 then (if ((rd_T44 t196 0).f1.f0) = 3 then (if 1 < (t196.length : Int) then (if ((rd_T44 t196 1).f2) = 1 then (some (((rd_T44 t196 1).f0.f0) == 1)) else (some false)) else (none)) else (some false)) else (some false)) else (none)) else (some false)) else (some false)) else (some false)) = some r := H
  have A2 := Aside0.mk A20
  clear A20
  by_cases c3 : t194 = 11
  · rw [if_pos c3] at H
    have c3b0 : (t194 == 11) = true := beq_iff_eq.mpr c3
    have c3b1 : (t194 != 11) = false := bne_eq_false_iff_eq.mpr c3
    clear c3
    by_cases c4 : t195 = 5
    · rw [if_pos c4] at H
      have c4b0 : (t195 == 5) = true := beq_iff_eq.mpr c4
      have c4b1 : (t195 != 5) = false := bne_eq_false_iff_eq.mpr c4
      clear c4
      by_cases c5 : (t196.length : Int) = 2
      · rw [if_pos c5] at H
        have c5b0 : ((t196.length : Int) == 2) = true := beq_iff_eq.mpr c5
        have c5b1 : ((t196.length : Int) != 2) = false := bne_eq_false_iff_eq.mpr c5
        clear c5
        by_cases c6 : 0 < (t196.length : Int)
        · rw [if_pos c6] at H
          have c6b0 : decide (0 < (t196.length : Int)) = true := decide_eq_true c6
          have c6b1 : decide (0 < t196.length) = true := decide_eq_true (by omega)
          clear c6
          by_cases c7 : ((rd_T44 t196 0).f2) = 4
          · rw [if_pos c7] at H
            have c7b0 : (((rd_T44 t196 0).f2) == 4) = true := beq_iff_eq.mpr c7
            have c7b1 : (((rd_T44 t196 0).f2) != 4) = false := bne_eq_false_iff_eq.mpr c7
            clear c7
            by_cases c8 : ((rd_T44 t196 0).f1.f0) = 3
            · rw [if_pos c8] at H
              have c8b0 : (((rd_T44 t196 0).f1.f0) == 3) = true := beq_iff_eq.mpr c8
              have c8b1 : (((rd_T44 t196 0).f1.f0) != 3) = false := bne_eq_false_iff_eq.mpr c8
              clear c8
              by_cases c9 : 1 < (t196.length : Int)
              · rw [if_pos c9] at H
                have c9b0 : decide (1 < (t196.length : Int)) = true := decide_eq_true c9
                have c9b1 : decide (1 < t196.length) = true := decide_eq_true (by omega)
                clear c9
                by_cases c10 : ((rd_T44 t196 1).f2) = 1
                · rw [if_pos c10] at H
                  have c10b0 : (((rd_T44 t196 1).f2) == 1) = true := beq_iff_eq.mpr c10
                  have c10b1 : (((rd_T44 t196 1).f2) != 1) = false := bne_eq_false_iff_eq.mpr c10
                  clear c10
                  obtain rfl := Option.some.inj H
                  go_enter Try.func7, Try.ntmps7
                  go_wp2_with (first | ((with_reducible refine gate_dst (N := 9) rfl ?_); (try (refine gate_guard (by rfl) ?_; dsimp only)); refine Kd.R_lit k42 _ 42 ?hg (N := 9) ?hd (xs := ([(⟨1, 0, 1, 12, 5, 1⟩ : S42), (⟨2, 0, 1, 10, 5, 2⟩ : S42), (⟨3, 0, 2, 9, 4, 3⟩ : S42), (⟨4, 0, 2, 11, 4, 4⟩ : S42)] : List (S42))) (inner := [.int .u64 1, .int .i64 0, .int .i64 1, .int .i64 12, .int .i64 5, .int .u64 1, .int .u64 2, .int .i64 0, .int .i64 1, .int .i64 10, .int .i64 5, .int .u64 2, .int .u64 3, .int .i64 0, .int .i64 2, .int .i64 9, .int .i64 4, .int .u64 3, .int .u64 4, .int .i64 0, .int .i64 2, .int .i64 11, .int .i64 4, .int .u64 4]) (ok := fun _ => True) (okp := fun _ => True) ?hr ?hp (fun _ hk => hk) trivial (Below.refl _ _) (Nat.le_refl _) (by simp) ?_; (case hd => rfl); (case hg => rfl); (case hr => first | (go_simp; done) | (go_simp; rfl)); (case hp => exact (Reps.c6 (show Kd.M k42 _ _ _ (⟨1, 0, 1, 12, 5, 1⟩ : S42) [.int .u64 1, .int .i64 0, .int .i64 1, .int .i64 12, .int .i64 5, .int .u64 1] from (k42_mkM _ _ _ (⟨1, 0, 1, 12, 5, 1⟩ : S42) )) (Reps.c6 (show Kd.M k42 _ _ _ (⟨2, 0, 1, 10, 5, 2⟩ : S42) [.int .u64 2, .int .i64 0, .int .i64 1, .int .i64 10, .int .i64 5, .int .u64 2] from (k42_mkM _ _ _ (⟨2, 0, 1, 10, 5, 2⟩ : S42) )) (Reps.c6 (show Kd.M k42 _ _ _ (⟨3, 0, 2, 9, 4, 3⟩ : S42) [.int .u64 3, .int .i64 0, .int .i64 2, .int .i64 9, .int .i64 4, .int .u64 3] from (k42_mkM _ _ _ (⟨3, 0, 2, 9, 4, 3⟩ : S42) )) (Reps.c6 (show Kd.M k42 _ _ _ (⟨4, 0, 2, 11, 4, 4⟩ : S42) [.int .u64 4, .int .i64 0, .int .i64 2, .int .i64 11, .int .i64 4, .int .u64 4] from (k42_mkM _ _ _ (⟨4, 0, 2, 11, 4, 4⟩ : S42) )) (Reps.none _ _)))))); intro v192 w11 ho12 hb hg_ hnew_; clear hg_ hnew_; (first | rw [← Ny191.out] at ho12 | (simp only [Int.reduceToNat] at ho12; rw [← Ny191.out] at ho12)); have n0_ := Aside0.mk (Kd.R_lower ho12 (below_size (by repeat (first | (with_reducible first | exact HB.out | apply below_alloc | apply pw_below_drewN | apply below_drew1) | exact HB.out)))); have n1_ := Aside0.mk (below_step (by repeat (first | (with_reducible first | exact HB.out | apply below_alloc | apply pw_below_drewN | apply below_drew1) | exact HB.out)) hb); clear HB; have HO193 := n0_; have HB := n1_; clear n0_ n1_; clear hb ho12; obtain ⟨Ao13, co13, eo13⟩ := Kd.R_slice HO193.out; subst eo13) | ((with_reducible refine gate_callee (f := 8) rfl ?_); refine goesL_ (some 12) rfl rfl Try.func8 (by kernel_rfl) rfl #[.slice Ao13 y191.length co13, .int .i64 0] rfl (by (try simp only [List.map_toArray, List.map_cons, List.map_nil]); first | done | rfl | (simp only [List.length_drop, List.length_take]; rfl)) ?_; (with_reducible refine (call_Price.calls _ _ y191 0 t194 t195 _ ?side1 ?side2 A1.out).mono ?_); (case side1 => repeat (first | exact (Kd.R_reads' HO193.out).2.2 | (with_reducible refine Kd.C_alloc ?_ _) | (with_reducible refine Kd.C_drewN ?_ _) | (with_reducible refine Kd.C_drew ?_))); (case side2 => exact (Kd.R_reads' HO193.out).2.1); rintro e w14 ⟨rfl, hb⟩; refine ⟨_, rfl, ?_⟩; have n0_ := Aside0.mk (Kd.R_below (by (with_reducible repeat (first | apply Kd.R_alloc | apply Kd.R_drewN | apply Kd.R_drew)); exact HO193.out) hb); have n1_ := Aside0.mk (below_step (by repeat (first | (with_reducible first | exact HB.out | apply below_alloc | apply pw_below_drewN | apply below_drew1) | exact HB.out)) hb); clear HO193; clear HB; have HO193 := n0_; have HB := n1_; clear n0_ n1_; (try clear hb); (try clear hb2); (try clear hk); (try clear hi)) | ((with_reducible refine gate_callee (f := 14) rfl ?_); refine goesL_ (some 18) rfl rfl Try.func14 (by kernel_rfl) rfl #[.slice Ao13 y191.length co13, .int .i64 t194, .int .i64 t195, .int .i64 1, .int .i64 1] rfl (by (try simp only [List.map_toArray, List.map_cons, List.map_nil]); first | done | rfl | (simp only [List.length_drop, List.length_take]; rfl)) ?_; (with_reducible refine (call_Deals.calls k _ _ y191 t194 t195 1 1 t196 _ ?side1 ?side2 A2.out).mono ?_); (case side1 => repeat (first | exact (Kd.R_reads' HO193.out).2.2 | (with_reducible refine Kd.C_alloc ?_ _) | (with_reducible refine Kd.C_drewN ?_ _) | (with_reducible refine Kd.C_drew ?_))); (case side2 => exact (Kd.R_reads' HO193.out).2.1); rintro e w15 ⟨v197, rfl, ho0, hb⟩; refine ⟨_, rfl, ?_⟩; have n0_ := Aside0.mk (Kd.R_below (by (with_reducible repeat (first | apply Kd.R_alloc | apply Kd.R_drewN | apply Kd.R_drew)); exact HO193.out) hb); have n1_ := Aside0.mk (Kd.R_lower ho0 (below_size (by repeat (first | (with_reducible first | exact HB.out | apply below_alloc | apply pw_below_drewN | apply below_drew1) | exact HB.out)))); have n2_ := Aside0.mk (below_step (by repeat (first | (with_reducible first | exact HB.out | apply below_alloc | apply pw_below_drewN | apply below_drew1) | exact HB.out)) hb); clear HO193; clear HB; have HO193 := n0_; have HO198 := n1_; have HB := n2_; clear n0_ n1_ n2_; (try clear hb); (try clear hb2); (try clear hk); (try clear hi); (try clear ho0); obtain ⟨Ao16, co16, eo16⟩ := Kd.R_slice HO198.out; subst eo16; have p199 : 0 ≤ (0 : Int) := (by omega); have q199 : 0 < (t196.length : Int) := of_decide_eq_true (by first | (with_reducible assumption) | assumption); obtain ⟨ad199, e199, hx199_0, hx199_1, hx199_2, hx199_3, hx199_4, hx199_5, hx199_6, hx199_7, hx199_8, hx199_9, hx199_10, hx199_11, hx199_12⟩ := at_T44 (Kd.R_reads' HO198.out).2.2 0 p199 q199; cases e199; have qi199 : (0 < t196.length) = True := eq_true (by omega); (try rw [show ((0 : Int)).toNat = 0 from rfl] at hx199_0); (try rw [show 0 * 13 = 0 from rfl] at hx199_0); (try rw [Addr.add_zero'] at hx199_0); (try rw [show ((0 : Int)).toNat = 0 from rfl] at hx199_1); (try rw [show 0 * 13 = 0 from rfl] at hx199_1); (try rw [Addr.add_zero'] at hx199_1); (try rw [show ((0 : Int)).toNat = 0 from rfl] at hx199_2); (try rw [show 0 * 13 = 0 from rfl] at hx199_2); (try rw [Addr.add_zero'] at hx199_2); (try rw [show ((0 : Int)).toNat = 0 from rfl] at hx199_3); (try rw [show 0 * 13 = 0 from rfl] at hx199_3); (try rw [Addr.add_zero'] at hx199_3); (try rw [show ((0 : Int)).toNat = 0 from rfl] at hx199_4); (try rw [show 0 * 13 = 0 from rfl] at hx199_4); (try rw [Addr.add_zero'] at hx199_4); (try rw [show ((0 : Int)).toNat = 0 from rfl] at hx199_5); (try rw [show 0 * 13 = 0 from rfl] at hx199_5); (try rw [Addr.add_zero'] at hx199_5); (try rw [show ((0 : Int)).toNat = 0 from rfl] at hx199_6); (try rw [show 0 * 13 = 0 from rfl] at hx199_6); (try rw [Addr.add_zero'] at hx199_6); (try rw [show ((0 : Int)).toNat = 0 from rfl] at hx199_7); (try rw [show 0 * 13 = 0 from rfl] at hx199_7); (try rw [Addr.add_zero'] at hx199_7); (try rw [show ((0 : Int)).toNat = 0 from rfl] at hx199_8); (try rw [show 0 * 13 = 0 from rfl] at hx199_8); (try rw [Addr.add_zero'] at hx199_8); (try rw [show ((0 : Int)).toNat = 0 from rfl] at hx199_9); (try rw [show 0 * 13 = 0 from rfl] at hx199_9); (try rw [Addr.add_zero'] at hx199_9); (try rw [show ((0 : Int)).toNat = 0 from rfl] at hx199_10); (try rw [show 0 * 13 = 0 from rfl] at hx199_10); (try rw [Addr.add_zero'] at hx199_10); (try rw [show ((0 : Int)).toNat = 0 from rfl] at hx199_11); (try rw [show 0 * 13 = 0 from rfl] at hx199_11); (try rw [Addr.add_zero'] at hx199_11); (try rw [show ((0 : Int)).toNat = 0 from rfl] at hx199_12); (try rw [show 0 * 13 = 0 from rfl] at hx199_12); (try rw [Addr.add_zero'] at hx199_12); replace p199 := eq_true p199; replace q199 := eq_true q199; have p200 : 0 ≤ (0 : Int) := (by omega); have q200 : 0 < (t196.length : Int) := of_decide_eq_true (by first | (with_reducible assumption) | assumption); obtain ⟨ad200, e200, hx200_0, hx200_1, hx200_2, hx200_3, hx200_4, hx200_5, hx200_6, hx200_7, hx200_8, hx200_9, hx200_10, hx200_11, hx200_12⟩ := at_T44 (Kd.R_reads' HO198.out).2.2 0 p200 q200; obtain rfl : ad199 = ad200 := (by injection e200); have qi200 : (0 < t196.length) = True := eq_true (by omega); (try rw [show ((0 : Int)).toNat = 0 from rfl] at hx200_0); (try rw [show 0 * 13 = 0 from rfl] at hx200_0); (try rw [Addr.add_zero'] at hx200_0); (try rw [show ((0 : Int)).toNat = 0 from rfl] at hx200_1); (try rw [show 0 * 13 = 0 from rfl] at hx200_1); (try rw [Addr.add_zero'] at hx200_1); (try rw [show ((0 : Int)).toNat = 0 from rfl] at hx200_2); (try rw [show 0 * 13 = 0 from rfl] at hx200_2); (try rw [Addr.add_zero'] at hx200_2); (try rw [show ((0 : Int)).toNat = 0 from rfl] at hx200_3); (try rw [show 0 * 13 = 0 from rfl] at hx200_3); (try rw [Addr.add_zero'] at hx200_3); (try rw [show ((0 : Int)).toNat = 0 from rfl] at hx200_4); (try rw [show 0 * 13 = 0 from rfl] at hx200_4); (try rw [Addr.add_zero'] at hx200_4); (try rw [show ((0 : Int)).toNat = 0 from rfl] at hx200_5); (try rw [show 0 * 13 = 0 from rfl] at hx200_5); (try rw [Addr.add_zero'] at hx200_5); (try rw [show ((0 : Int)).toNat = 0 from rfl] at hx200_6); (try rw [show 0 * 13 = 0 from rfl] at hx200_6); (try rw [Addr.add_zero'] at hx200_6); (try rw [show ((0 : Int)).toNat = 0 from rfl] at hx200_7); (try rw [show 0 * 13 = 0 from rfl] at hx200_7); (try rw [Addr.add_zero'] at hx200_7); (try rw [show ((0 : Int)).toNat = 0 from rfl] at hx200_8); (try rw [show 0 * 13 = 0 from rfl] at hx200_8); (try rw [Addr.add_zero'] at hx200_8); (try rw [show ((0 : Int)).toNat = 0 from rfl] at hx200_9); (try rw [show 0 * 13 = 0 from rfl] at hx200_9); (try rw [Addr.add_zero'] at hx200_9); (try rw [show ((0 : Int)).toNat = 0 from rfl] at hx200_10); (try rw [show 0 * 13 = 0 from rfl] at hx200_10); (try rw [Addr.add_zero'] at hx200_10); (try rw [show ((0 : Int)).toNat = 0 from rfl] at hx200_11); (try rw [show 0 * 13 = 0 from rfl] at hx200_11); (try rw [Addr.add_zero'] at hx200_11); (try rw [show ((0 : Int)).toNat = 0 from rfl] at hx200_12); (try rw [show 0 * 13 = 0 from rfl] at hx200_12); (try rw [Addr.add_zero'] at hx200_12); replace p200 := eq_true p200; replace q200 := eq_true q200; have p201 : 0 ≤ (1 : Int) := (by omega); have q201 : 1 < (t196.length : Int) := of_decide_eq_true (by first | (with_reducible assumption) | assumption); obtain ⟨ad201, e201, hx201_0, hx201_1, hx201_2, hx201_3, hx201_4, hx201_5, hx201_6, hx201_7, hx201_8, hx201_9, hx201_10, hx201_11, hx201_12⟩ := at_T44 (Kd.R_reads' HO198.out).2.2 1 p201 q201; obtain rfl : ad199 = ad201 := (by injection e201); (try simp only [show (1 : Int).toNat = 1 from rfl, Nat.reduceMul, Nat.reduceEqDiff, Go.Addr.add, ↓reduceIte] at hx201_0); (try simp only [show (1 : Int).toNat = 1 from rfl, Nat.reduceMul, Nat.reduceEqDiff, Go.Addr.add, ↓reduceIte] at hx201_1); (try simp only [show (1 : Int).toNat = 1 from rfl, Nat.reduceMul, Nat.reduceEqDiff, Go.Addr.add, ↓reduceIte] at hx201_2); (try simp only [show (1 : Int).toNat = 1 from rfl, Nat.reduceMul, Nat.reduceEqDiff, Go.Addr.add, ↓reduceIte] at hx201_3); (try simp only [show (1 : Int).toNat = 1 from rfl, Nat.reduceMul, Nat.reduceEqDiff, Go.Addr.add, ↓reduceIte] at hx201_4); (try simp only [show (1 : Int).toNat = 1 from rfl, Nat.reduceMul, Nat.reduceEqDiff, Go.Addr.add, ↓reduceIte] at hx201_5); (try simp only [show (1 : Int).toNat = 1 from rfl, Nat.reduceMul, Nat.reduceEqDiff, Go.Addr.add, ↓reduceIte] at hx201_6); (try simp only [show (1 : Int).toNat = 1 from rfl, Nat.reduceMul, Nat.reduceEqDiff, Go.Addr.add, ↓reduceIte] at hx201_7); (try simp only [show (1 : Int).toNat = 1 from rfl, Nat.reduceMul, Nat.reduceEqDiff, Go.Addr.add, ↓reduceIte] at hx201_8); (try simp only [show (1 : Int).toNat = 1 from rfl, Nat.reduceMul, Nat.reduceEqDiff, Go.Addr.add, ↓reduceIte] at hx201_9); (try simp only [show (1 : Int).toNat = 1 from rfl, Nat.reduceMul, Nat.reduceEqDiff, Go.Addr.add, ↓reduceIte] at hx201_10); (try simp only [show (1 : Int).toNat = 1 from rfl, Nat.reduceMul, Nat.reduceEqDiff, Go.Addr.add, ↓reduceIte] at hx201_11); (try simp only [show (1 : Int).toNat = 1 from rfl, Nat.reduceMul, Nat.reduceEqDiff, Go.Addr.add, ↓reduceIte] at hx201_12); have qi201 : (1 < t196.length) = True := eq_true (by omega); (try rw [show ((1 : Int)).toNat = 1 from rfl] at hx201_0); (try rw [show 1 * 13 = 13 from rfl] at hx201_0); (try rw [show ((1 : Int)).toNat = 1 from rfl] at hx201_1); (try rw [show 1 * 13 = 13 from rfl] at hx201_1); (try rw [show ((1 : Int)).toNat = 1 from rfl] at hx201_2); (try rw [show 1 * 13 = 13 from rfl] at hx201_2); (try rw [show ((1 : Int)).toNat = 1 from rfl] at hx201_3); (try rw [show 1 * 13 = 13 from rfl] at hx201_3); (try rw [show ((1 : Int)).toNat = 1 from rfl] at hx201_4); (try rw [show 1 * 13 = 13 from rfl] at hx201_4); (try rw [show ((1 : Int)).toNat = 1 from rfl] at hx201_5); (try rw [show 1 * 13 = 13 from rfl] at hx201_5); (try rw [show ((1 : Int)).toNat = 1 from rfl] at hx201_6); (try rw [show 1 * 13 = 13 from rfl] at hx201_6); (try rw [show ((1 : Int)).toNat = 1 from rfl] at hx201_7); (try rw [show 1 * 13 = 13 from rfl] at hx201_7); (try rw [show ((1 : Int)).toNat = 1 from rfl] at hx201_8); (try rw [show 1 * 13 = 13 from rfl] at hx201_8); (try rw [show ((1 : Int)).toNat = 1 from rfl] at hx201_9); (try rw [show 1 * 13 = 13 from rfl] at hx201_9); (try rw [show ((1 : Int)).toNat = 1 from rfl] at hx201_10); (try rw [show 1 * 13 = 13 from rfl] at hx201_10); (try rw [show ((1 : Int)).toNat = 1 from rfl] at hx201_11); (try rw [show 1 * 13 = 13 from rfl] at hx201_11); (try rw [show ((1 : Int)).toNat = 1 from rfl] at hx201_12); (try rw [show 1 * 13 = 13 from rfl] at hx201_12); replace p201 := eq_true p201; replace q201 := eq_true q201; have p202 : 0 ≤ (1 : Int) := (by omega); have q202 : 1 < (t196.length : Int) := of_decide_eq_true (by first | (with_reducible assumption) | assumption); obtain ⟨ad202, e202, hx202_0, hx202_1, hx202_2, hx202_3, hx202_4, hx202_5, hx202_6, hx202_7, hx202_8, hx202_9, hx202_10, hx202_11, hx202_12⟩ := at_T44 (Kd.R_reads' HO198.out).2.2 1 p202 q202; obtain rfl : ad199 = ad202 := (by injection e202); (try simp only [show (1 : Int).toNat = 1 from rfl, Nat.reduceMul, Nat.reduceEqDiff, Go.Addr.add, ↓reduceIte] at hx202_0); (try simp only [show (1 : Int).toNat = 1 from rfl, Nat.reduceMul, Nat.reduceEqDiff, Go.Addr.add, ↓reduceIte] at hx202_1); (try simp only [show (1 : Int).toNat = 1 from rfl, Nat.reduceMul, Nat.reduceEqDiff, Go.Addr.add, ↓reduceIte] at hx202_2); (try simp only [show (1 : Int).toNat = 1 from rfl, Nat.reduceMul, Nat.reduceEqDiff, Go.Addr.add, ↓reduceIte] at hx202_3); (try simp only [show (1 : Int).toNat = 1 from rfl, Nat.reduceMul, Nat.reduceEqDiff, Go.Addr.add, ↓reduceIte] at hx202_4); (try simp only [show (1 : Int).toNat = 1 from rfl, Nat.reduceMul, Nat.reduceEqDiff, Go.Addr.add, ↓reduceIte] at hx202_5); (try simp only [show (1 : Int).toNat = 1 from rfl, Nat.reduceMul, Nat.reduceEqDiff, Go.Addr.add, ↓reduceIte] at hx202_6); (try simp only [show (1 : Int).toNat = 1 from rfl, Nat.reduceMul, Nat.reduceEqDiff, Go.Addr.add, ↓reduceIte] at hx202_7); (try simp only [show (1 : Int).toNat = 1 from rfl, Nat.reduceMul, Nat.reduceEqDiff, Go.Addr.add, ↓reduceIte] at hx202_8); (try simp only [show (1 : Int).toNat = 1 from rfl, Nat.reduceMul, Nat.reduceEqDiff, Go.Addr.add, ↓reduceIte] at hx202_9); (try simp only [show (1 : Int).toNat = 1 from rfl, Nat.reduceMul, Nat.reduceEqDiff, Go.Addr.add, ↓reduceIte] at hx202_10); (try simp only [show (1 : Int).toNat = 1 from rfl, Nat.reduceMul, Nat.reduceEqDiff, Go.Addr.add, ↓reduceIte] at hx202_11); (try simp only [show (1 : Int).toNat = 1 from rfl, Nat.reduceMul, Nat.reduceEqDiff, Go.Addr.add, ↓reduceIte] at hx202_12); have qi202 : (1 < t196.length) = True := eq_true (by omega); (try rw [show ((1 : Int)).toNat = 1 from rfl] at hx202_0); (try rw [show 1 * 13 = 13 from rfl] at hx202_0); (try rw [show ((1 : Int)).toNat = 1 from rfl] at hx202_1); (try rw [show 1 * 13 = 13 from rfl] at hx202_1); (try rw [show ((1 : Int)).toNat = 1 from rfl] at hx202_2); (try rw [show 1 * 13 = 13 from rfl] at hx202_2); (try rw [show ((1 : Int)).toNat = 1 from rfl] at hx202_3); (try rw [show 1 * 13 = 13 from rfl] at hx202_3); (try rw [show ((1 : Int)).toNat = 1 from rfl] at hx202_4); (try rw [show 1 * 13 = 13 from rfl] at hx202_4); (try rw [show ((1 : Int)).toNat = 1 from rfl] at hx202_5); (try rw [show 1 * 13 = 13 from rfl] at hx202_5); (try rw [show ((1 : Int)).toNat = 1 from rfl] at hx202_6); (try rw [show 1 * 13 = 13 from rfl] at hx202_6); (try rw [show ((1 : Int)).toNat = 1 from rfl] at hx202_7); (try rw [show 1 * 13 = 13 from rfl] at hx202_7); (try rw [show ((1 : Int)).toNat = 1 from rfl] at hx202_8); (try rw [show 1 * 13 = 13 from rfl] at hx202_8); (try rw [show ((1 : Int)).toNat = 1 from rfl] at hx202_9); (try rw [show 1 * 13 = 13 from rfl] at hx202_9); (try rw [show ((1 : Int)).toNat = 1 from rfl] at hx202_10); (try rw [show 1 * 13 = 13 from rfl] at hx202_10); (try rw [show ((1 : Int)).toNat = 1 from rfl] at hx202_11); (try rw [show 1 * 13 = 13 from rfl] at hx202_11); (try rw [show ((1 : Int)).toNat = 1 from rfl] at hx202_12); (try rw [show 1 * 13 = 13 from rfl] at hx202_12); replace p202 := eq_true p202; replace q202 := eq_true q202))
                  go_ret
                  exact ⟨by first | rfl | (simp [errW_none, errW_some] <;> rfl) | (simp [*, errW_none, errW_some] <;> rfl), by repeat (first | (with_reducible first | exact HB.out | apply below_alloc | apply pw_below_drewN | apply below_drew1) | exact HB.out)⟩
                · rw [if_neg c10] at H
                  have c10b0 : (((rd_T44 t196 1).f2) == 1) = false := beq_eq_false_iff_ne.mpr c10
                  have c10b1 : (((rd_T44 t196 1).f2) != 1) = true := bne_iff_ne.mpr c10
                  obtain rfl := Option.some.inj H
                  go_enter Try.func7, Try.ntmps7
                  go_wp2_with (first | ((with_reducible refine gate_dst (N := 9) rfl ?_); (try (refine gate_guard (by rfl) ?_; dsimp only)); refine Kd.R_lit k42 _ 42 ?hg (N := 9) ?hd (xs := ([(⟨1, 0, 1, 12, 5, 1⟩ : S42), (⟨2, 0, 1, 10, 5, 2⟩ : S42), (⟨3, 0, 2, 9, 4, 3⟩ : S42), (⟨4, 0, 2, 11, 4, 4⟩ : S42)] : List (S42))) (inner := [.int .u64 1, .int .i64 0, .int .i64 1, .int .i64 12, .int .i64 5, .int .u64 1, .int .u64 2, .int .i64 0, .int .i64 1, .int .i64 10, .int .i64 5, .int .u64 2, .int .u64 3, .int .i64 0, .int .i64 2, .int .i64 9, .int .i64 4, .int .u64 3, .int .u64 4, .int .i64 0, .int .i64 2, .int .i64 11, .int .i64 4, .int .u64 4]) (ok := fun _ => True) (okp := fun _ => True) ?hr ?hp (fun _ hk => hk) trivial (Below.refl _ _) (Nat.le_refl _) (by simp) ?_; (case hd => rfl); (case hg => rfl); (case hr => first | (go_simp; done) | (go_simp; rfl)); (case hp => exact (Reps.c6 (show Kd.M k42 _ _ _ (⟨1, 0, 1, 12, 5, 1⟩ : S42) [.int .u64 1, .int .i64 0, .int .i64 1, .int .i64 12, .int .i64 5, .int .u64 1] from (k42_mkM _ _ _ (⟨1, 0, 1, 12, 5, 1⟩ : S42) )) (Reps.c6 (show Kd.M k42 _ _ _ (⟨2, 0, 1, 10, 5, 2⟩ : S42) [.int .u64 2, .int .i64 0, .int .i64 1, .int .i64 10, .int .i64 5, .int .u64 2] from (k42_mkM _ _ _ (⟨2, 0, 1, 10, 5, 2⟩ : S42) )) (Reps.c6 (show Kd.M k42 _ _ _ (⟨3, 0, 2, 9, 4, 3⟩ : S42) [.int .u64 3, .int .i64 0, .int .i64 2, .int .i64 9, .int .i64 4, .int .u64 3] from (k42_mkM _ _ _ (⟨3, 0, 2, 9, 4, 3⟩ : S42) )) (Reps.c6 (show Kd.M k42 _ _ _ (⟨4, 0, 2, 11, 4, 4⟩ : S42) [.int .u64 4, .int .i64 0, .int .i64 2, .int .i64 11, .int .i64 4, .int .u64 4] from (k42_mkM _ _ _ (⟨4, 0, 2, 11, 4, 4⟩ : S42) )) (Reps.none _ _)))))); intro v192 w17 ho18 hb hg_ hnew_; clear hg_ hnew_; (first | rw [← Ny191.out] at ho18 | (simp only [Int.reduceToNat] at ho18; rw [← Ny191.out] at ho18)); have n0_ := Aside0.mk (Kd.R_lower ho18 (below_size (by repeat (first | (with_reducible first | exact HB.out | apply below_alloc | apply pw_below_drewN | apply below_drew1) | exact HB.out)))); have n1_ := Aside0.mk (below_step (by repeat (first | (with_reducible first | exact HB.out | apply below_alloc | apply pw_below_drewN | apply below_drew1) | exact HB.out)) hb); clear HB; have HO193 := n0_; have HB := n1_; clear n0_ n1_; clear hb ho18; obtain ⟨Ao19, co19, eo19⟩ := Kd.R_slice HO193.out; subst eo19) | ((with_reducible refine gate_callee (f := 8) rfl ?_); refine goesL_ (some 12) rfl rfl Try.func8 (by kernel_rfl) rfl #[.slice Ao19 y191.length co19, .int .i64 0] rfl (by (try simp only [List.map_toArray, List.map_cons, List.map_nil]); first | done | rfl | (simp only [List.length_drop, List.length_take]; rfl)) ?_; (with_reducible refine (call_Price.calls _ _ y191 0 t194 t195 _ ?side1 ?side2 A1.out).mono ?_); (case side1 => repeat (first | exact (Kd.R_reads' HO193.out).2.2 | (with_reducible refine Kd.C_alloc ?_ _) | (with_reducible refine Kd.C_drewN ?_ _) | (with_reducible refine Kd.C_drew ?_))); (case side2 => exact (Kd.R_reads' HO193.out).2.1); rintro e w20 ⟨rfl, hb⟩; refine ⟨_, rfl, ?_⟩; have n0_ := Aside0.mk (Kd.R_below (by (with_reducible repeat (first | apply Kd.R_alloc | apply Kd.R_drewN | apply Kd.R_drew)); exact HO193.out) hb); have n1_ := Aside0.mk (below_step (by repeat (first | (with_reducible first | exact HB.out | apply below_alloc | apply pw_below_drewN | apply below_drew1) | exact HB.out)) hb); clear HO193; clear HB; have HO193 := n0_; have HB := n1_; clear n0_ n1_; (try clear hb); (try clear hb2); (try clear hk); (try clear hi)) | ((with_reducible refine gate_callee (f := 14) rfl ?_); refine goesL_ (some 18) rfl rfl Try.func14 (by kernel_rfl) rfl #[.slice Ao19 y191.length co19, .int .i64 t194, .int .i64 t195, .int .i64 1, .int .i64 1] rfl (by (try simp only [List.map_toArray, List.map_cons, List.map_nil]); first | done | rfl | (simp only [List.length_drop, List.length_take]; rfl)) ?_; (with_reducible refine (call_Deals.calls k _ _ y191 t194 t195 1 1 t196 _ ?side1 ?side2 A2.out).mono ?_); (case side1 => repeat (first | exact (Kd.R_reads' HO193.out).2.2 | (with_reducible refine Kd.C_alloc ?_ _) | (with_reducible refine Kd.C_drewN ?_ _) | (with_reducible refine Kd.C_drew ?_))); (case side2 => exact (Kd.R_reads' HO193.out).2.1); rintro e w21 ⟨v197, rfl, ho0, hb⟩; refine ⟨_, rfl, ?_⟩; have n0_ := Aside0.mk (Kd.R_below (by (with_reducible repeat (first | apply Kd.R_alloc | apply Kd.R_drewN | apply Kd.R_drew)); exact HO193.out) hb); have n1_ := Aside0.mk (Kd.R_lower ho0 (below_size (by repeat (first | (with_reducible first | exact HB.out | apply below_alloc | apply pw_below_drewN | apply below_drew1) | exact HB.out)))); have n2_ := Aside0.mk (below_step (by repeat (first | (with_reducible first | exact HB.out | apply below_alloc | apply pw_below_drewN | apply below_drew1) | exact HB.out)) hb); clear HO193; clear HB; have HO193 := n0_; have HO198 := n1_; have HB := n2_; clear n0_ n1_ n2_; (try clear hb); (try clear hb2); (try clear hk); (try clear hi); (try clear ho0); obtain ⟨Ao22, co22, eo22⟩ := Kd.R_slice HO198.out; subst eo22; have p199 : 0 ≤ (0 : Int) := (by omega); have q199 : 0 < (t196.length : Int) := of_decide_eq_true (by first | (with_reducible assumption) | assumption); obtain ⟨ad199, e199, hx199_0, hx199_1, hx199_2, hx199_3, hx199_4, hx199_5, hx199_6, hx199_7, hx199_8, hx199_9, hx199_10, hx199_11, hx199_12⟩ := at_T44 (Kd.R_reads' HO198.out).2.2 0 p199 q199; cases e199; have qi199 : (0 < t196.length) = True := eq_true (by omega); (try rw [show ((0 : Int)).toNat = 0 from rfl] at hx199_0); (try rw [show 0 * 13 = 0 from rfl] at hx199_0); (try rw [Addr.add_zero'] at hx199_0); (try rw [show ((0 : Int)).toNat = 0 from rfl] at hx199_1); (try rw [show 0 * 13 = 0 from rfl] at hx199_1); (try rw [Addr.add_zero'] at hx199_1); (try rw [show ((0 : Int)).toNat = 0 from rfl] at hx199_2); (try rw [show 0 * 13 = 0 from rfl] at hx199_2); (try rw [Addr.add_zero'] at hx199_2); (try rw [show ((0 : Int)).toNat = 0 from rfl] at hx199_3); (try rw [show 0 * 13 = 0 from rfl] at hx199_3); (try rw [Addr.add_zero'] at hx199_3); (try rw [show ((0 : Int)).toNat = 0 from rfl] at hx199_4); (try rw [show 0 * 13 = 0 from rfl] at hx199_4); (try rw [Addr.add_zero'] at hx199_4); (try rw [show ((0 : Int)).toNat = 0 from rfl] at hx199_5); (try rw [show 0 * 13 = 0 from rfl] at hx199_5); (try rw [Addr.add_zero'] at hx199_5); (try rw [show ((0 : Int)).toNat = 0 from rfl] at hx199_6); (try rw [show 0 * 13 = 0 from rfl] at hx199_6); (try rw [Addr.add_zero'] at hx199_6); (try rw [show ((0 : Int)).toNat = 0 from rfl] at hx199_7); (try rw [show 0 * 13 = 0 from rfl] at hx199_7); (try rw [Addr.add_zero'] at hx199_7); (try rw [show ((0 : Int)).toNat = 0 from rfl] at hx199_8); (try rw [show 0 * 13 = 0 from rfl] at hx199_8); (try rw [Addr.add_zero'] at hx199_8); (try rw [show ((0 : Int)).toNat = 0 from rfl] at hx199_9); (try rw [show 0 * 13 = 0 from rfl] at hx199_9); (try rw [Addr.add_zero'] at hx199_9); (try rw [show ((0 : Int)).toNat = 0 from rfl] at hx199_10); (try rw [show 0 * 13 = 0 from rfl] at hx199_10); (try rw [Addr.add_zero'] at hx199_10); (try rw [show ((0 : Int)).toNat = 0 from rfl] at hx199_11); (try rw [show 0 * 13 = 0 from rfl] at hx199_11); (try rw [Addr.add_zero'] at hx199_11); (try rw [show ((0 : Int)).toNat = 0 from rfl] at hx199_12); (try rw [show 0 * 13 = 0 from rfl] at hx199_12); (try rw [Addr.add_zero'] at hx199_12); replace p199 := eq_true p199; replace q199 := eq_true q199; have p200 : 0 ≤ (0 : Int) := (by omega); have q200 : 0 < (t196.length : Int) := of_decide_eq_true (by first | (with_reducible assumption) | assumption); obtain ⟨ad200, e200, hx200_0, hx200_1, hx200_2, hx200_3, hx200_4, hx200_5, hx200_6, hx200_7, hx200_8, hx200_9, hx200_10, hx200_11, hx200_12⟩ := at_T44 (Kd.R_reads' HO198.out).2.2 0 p200 q200; obtain rfl : ad199 = ad200 := (by injection e200); have qi200 : (0 < t196.length) = True := eq_true (by omega); (try rw [show ((0 : Int)).toNat = 0 from rfl] at hx200_0); (try rw [show 0 * 13 = 0 from rfl] at hx200_0); (try rw [Addr.add_zero'] at hx200_0); (try rw [show ((0 : Int)).toNat = 0 from rfl] at hx200_1); (try rw [show 0 * 13 = 0 from rfl] at hx200_1); (try rw [Addr.add_zero'] at hx200_1); (try rw [show ((0 : Int)).toNat = 0 from rfl] at hx200_2); (try rw [show 0 * 13 = 0 from rfl] at hx200_2); (try rw [Addr.add_zero'] at hx200_2); (try rw [show ((0 : Int)).toNat = 0 from rfl] at hx200_3); (try rw [show 0 * 13 = 0 from rfl] at hx200_3); (try rw [Addr.add_zero'] at hx200_3); (try rw [show ((0 : Int)).toNat = 0 from rfl] at hx200_4); (try rw [show 0 * 13 = 0 from rfl] at hx200_4); (try rw [Addr.add_zero'] at hx200_4); (try rw [show ((0 : Int)).toNat = 0 from rfl] at hx200_5); (try rw [show 0 * 13 = 0 from rfl] at hx200_5); (try rw [Addr.add_zero'] at hx200_5); (try rw [show ((0 : Int)).toNat = 0 from rfl] at hx200_6); (try rw [show 0 * 13 = 0 from rfl] at hx200_6); (try rw [Addr.add_zero'] at hx200_6); (try rw [show ((0 : Int)).toNat = 0 from rfl] at hx200_7); (try rw [show 0 * 13 = 0 from rfl] at hx200_7); (try rw [Addr.add_zero'] at hx200_7); (try rw [show ((0 : Int)).toNat = 0 from rfl] at hx200_8); (try rw [show 0 * 13 = 0 from rfl] at hx200_8); (try rw [Addr.add_zero'] at hx200_8); (try rw [show ((0 : Int)).toNat = 0 from rfl] at hx200_9); (try rw [show 0 * 13 = 0 from rfl] at hx200_9); (try rw [Addr.add_zero'] at hx200_9); (try rw [show ((0 : Int)).toNat = 0 from rfl] at hx200_10); (try rw [show 0 * 13 = 0 from rfl] at hx200_10); (try rw [Addr.add_zero'] at hx200_10); (try rw [show ((0 : Int)).toNat = 0 from rfl] at hx200_11); (try rw [show 0 * 13 = 0 from rfl] at hx200_11); (try rw [Addr.add_zero'] at hx200_11); (try rw [show ((0 : Int)).toNat = 0 from rfl] at hx200_12); (try rw [show 0 * 13 = 0 from rfl] at hx200_12); (try rw [Addr.add_zero'] at hx200_12); replace p200 := eq_true p200; replace q200 := eq_true q200; have p201 : 0 ≤ (1 : Int) := (by omega); have q201 : 1 < (t196.length : Int) := of_decide_eq_true (by first | (with_reducible assumption) | assumption); obtain ⟨ad201, e201, hx201_0, hx201_1, hx201_2, hx201_3, hx201_4, hx201_5, hx201_6, hx201_7, hx201_8, hx201_9, hx201_10, hx201_11, hx201_12⟩ := at_T44 (Kd.R_reads' HO198.out).2.2 1 p201 q201; obtain rfl : ad199 = ad201 := (by injection e201); (try simp only [show (1 : Int).toNat = 1 from rfl, Nat.reduceMul, Nat.reduceEqDiff, Go.Addr.add, ↓reduceIte] at hx201_0); (try simp only [show (1 : Int).toNat = 1 from rfl, Nat.reduceMul, Nat.reduceEqDiff, Go.Addr.add, ↓reduceIte] at hx201_1); (try simp only [show (1 : Int).toNat = 1 from rfl, Nat.reduceMul, Nat.reduceEqDiff, Go.Addr.add, ↓reduceIte] at hx201_2); (try simp only [show (1 : Int).toNat = 1 from rfl, Nat.reduceMul, Nat.reduceEqDiff, Go.Addr.add, ↓reduceIte] at hx201_3); (try simp only [show (1 : Int).toNat = 1 from rfl, Nat.reduceMul, Nat.reduceEqDiff, Go.Addr.add, ↓reduceIte] at hx201_4); (try simp only [show (1 : Int).toNat = 1 from rfl, Nat.reduceMul, Nat.reduceEqDiff, Go.Addr.add, ↓reduceIte] at hx201_5); (try simp only [show (1 : Int).toNat = 1 from rfl, Nat.reduceMul, Nat.reduceEqDiff, Go.Addr.add, ↓reduceIte] at hx201_6); (try simp only [show (1 : Int).toNat = 1 from rfl, Nat.reduceMul, Nat.reduceEqDiff, Go.Addr.add, ↓reduceIte] at hx201_7); (try simp only [show (1 : Int).toNat = 1 from rfl, Nat.reduceMul, Nat.reduceEqDiff, Go.Addr.add, ↓reduceIte] at hx201_8); (try simp only [show (1 : Int).toNat = 1 from rfl, Nat.reduceMul, Nat.reduceEqDiff, Go.Addr.add, ↓reduceIte] at hx201_9); (try simp only [show (1 : Int).toNat = 1 from rfl, Nat.reduceMul, Nat.reduceEqDiff, Go.Addr.add, ↓reduceIte] at hx201_10); (try simp only [show (1 : Int).toNat = 1 from rfl, Nat.reduceMul, Nat.reduceEqDiff, Go.Addr.add, ↓reduceIte] at hx201_11); (try simp only [show (1 : Int).toNat = 1 from rfl, Nat.reduceMul, Nat.reduceEqDiff, Go.Addr.add, ↓reduceIte] at hx201_12); have qi201 : (1 < t196.length) = True := eq_true (by omega); (try rw [show ((1 : Int)).toNat = 1 from rfl] at hx201_0); (try rw [show 1 * 13 = 13 from rfl] at hx201_0); (try rw [show ((1 : Int)).toNat = 1 from rfl] at hx201_1); (try rw [show 1 * 13 = 13 from rfl] at hx201_1); (try rw [show ((1 : Int)).toNat = 1 from rfl] at hx201_2); (try rw [show 1 * 13 = 13 from rfl] at hx201_2); (try rw [show ((1 : Int)).toNat = 1 from rfl] at hx201_3); (try rw [show 1 * 13 = 13 from rfl] at hx201_3); (try rw [show ((1 : Int)).toNat = 1 from rfl] at hx201_4); (try rw [show 1 * 13 = 13 from rfl] at hx201_4); (try rw [show ((1 : Int)).toNat = 1 from rfl] at hx201_5); (try rw [show 1 * 13 = 13 from rfl] at hx201_5); (try rw [show ((1 : Int)).toNat = 1 from rfl] at hx201_6); (try rw [show 1 * 13 = 13 from rfl] at hx201_6); (try rw [show ((1 : Int)).toNat = 1 from rfl] at hx201_7); (try rw [show 1 * 13 = 13 from rfl] at hx201_7); (try rw [show ((1 : Int)).toNat = 1 from rfl] at hx201_8); (try rw [show 1 * 13 = 13 from rfl] at hx201_8); (try rw [show ((1 : Int)).toNat = 1 from rfl] at hx201_9); (try rw [show 1 * 13 = 13 from rfl] at hx201_9); (try rw [show ((1 : Int)).toNat = 1 from rfl] at hx201_10); (try rw [show 1 * 13 = 13 from rfl] at hx201_10); (try rw [show ((1 : Int)).toNat = 1 from rfl] at hx201_11); (try rw [show 1 * 13 = 13 from rfl] at hx201_11); (try rw [show ((1 : Int)).toNat = 1 from rfl] at hx201_12); (try rw [show 1 * 13 = 13 from rfl] at hx201_12); replace p201 := eq_true p201; replace q201 := eq_true q201))
                  go_ret
                  exact ⟨by first | rfl | (simp [errW_none, errW_some] <;> rfl) | (simp [*, errW_none, errW_some] <;> rfl), by repeat (first | (with_reducible first | exact HB.out | apply below_alloc | apply pw_below_drewN | apply below_drew1) | exact HB.out)⟩
              · rw [if_neg c9] at H
                exact absurd H (by simp)
            · rw [if_neg c8] at H
              have c8b0 : (((rd_T44 t196 0).f1.f0) == 3) = false := beq_eq_false_iff_ne.mpr c8
              have c8b1 : (((rd_T44 t196 0).f1.f0) != 3) = true := bne_iff_ne.mpr c8
              obtain rfl := Option.some.inj H
              go_enter Try.func7, Try.ntmps7
              go_wp2_with (first | ((with_reducible refine gate_dst (N := 9) rfl ?_); (try (refine gate_guard (by rfl) ?_; dsimp only)); refine Kd.R_lit k42 _ 42 ?hg (N := 9) ?hd (xs := ([(⟨1, 0, 1, 12, 5, 1⟩ : S42), (⟨2, 0, 1, 10, 5, 2⟩ : S42), (⟨3, 0, 2, 9, 4, 3⟩ : S42), (⟨4, 0, 2, 11, 4, 4⟩ : S42)] : List (S42))) (inner := [.int .u64 1, .int .i64 0, .int .i64 1, .int .i64 12, .int .i64 5, .int .u64 1, .int .u64 2, .int .i64 0, .int .i64 1, .int .i64 10, .int .i64 5, .int .u64 2, .int .u64 3, .int .i64 0, .int .i64 2, .int .i64 9, .int .i64 4, .int .u64 3, .int .u64 4, .int .i64 0, .int .i64 2, .int .i64 11, .int .i64 4, .int .u64 4]) (ok := fun _ => True) (okp := fun _ => True) ?hr ?hp (fun _ hk => hk) trivial (Below.refl _ _) (Nat.le_refl _) (by simp) ?_; (case hd => rfl); (case hg => rfl); (case hr => first | (go_simp; done) | (go_simp; rfl)); (case hp => exact (Reps.c6 (show Kd.M k42 _ _ _ (⟨1, 0, 1, 12, 5, 1⟩ : S42) [.int .u64 1, .int .i64 0, .int .i64 1, .int .i64 12, .int .i64 5, .int .u64 1] from (k42_mkM _ _ _ (⟨1, 0, 1, 12, 5, 1⟩ : S42) )) (Reps.c6 (show Kd.M k42 _ _ _ (⟨2, 0, 1, 10, 5, 2⟩ : S42) [.int .u64 2, .int .i64 0, .int .i64 1, .int .i64 10, .int .i64 5, .int .u64 2] from (k42_mkM _ _ _ (⟨2, 0, 1, 10, 5, 2⟩ : S42) )) (Reps.c6 (show Kd.M k42 _ _ _ (⟨3, 0, 2, 9, 4, 3⟩ : S42) [.int .u64 3, .int .i64 0, .int .i64 2, .int .i64 9, .int .i64 4, .int .u64 3] from (k42_mkM _ _ _ (⟨3, 0, 2, 9, 4, 3⟩ : S42) )) (Reps.c6 (show Kd.M k42 _ _ _ (⟨4, 0, 2, 11, 4, 4⟩ : S42) [.int .u64 4, .int .i64 0, .int .i64 2, .int .i64 11, .int .i64 4, .int .u64 4] from (k42_mkM _ _ _ (⟨4, 0, 2, 11, 4, 4⟩ : S42) )) (Reps.none _ _)))))); intro v192 w23 ho24 hb hg_ hnew_; clear hg_ hnew_; (first | rw [← Ny191.out] at ho24 | (simp only [Int.reduceToNat] at ho24; rw [← Ny191.out] at ho24)); have n0_ := Aside0.mk (Kd.R_lower ho24 (below_size (by repeat (first | (with_reducible first | exact HB.out | apply below_alloc | apply pw_below_drewN | apply below_drew1) | exact HB.out)))); have n1_ := Aside0.mk (below_step (by repeat (first | (with_reducible first | exact HB.out | apply below_alloc | apply pw_below_drewN | apply below_drew1) | exact HB.out)) hb); clear HB; have HO193 := n0_; have HB := n1_; clear n0_ n1_; clear hb ho24; obtain ⟨Ao25, co25, eo25⟩ := Kd.R_slice HO193.out; subst eo25) | ((with_reducible refine gate_callee (f := 8) rfl ?_); refine goesL_ (some 12) rfl rfl Try.func8 (by kernel_rfl) rfl #[.slice Ao25 y191.length co25, .int .i64 0] rfl (by (try simp only [List.map_toArray, List.map_cons, List.map_nil]); first | done | rfl | (simp only [List.length_drop, List.length_take]; rfl)) ?_; (with_reducible refine (call_Price.calls _ _ y191 0 t194 t195 _ ?side1 ?side2 A1.out).mono ?_); (case side1 => repeat (first | exact (Kd.R_reads' HO193.out).2.2 | (with_reducible refine Kd.C_alloc ?_ _) | (with_reducible refine Kd.C_drewN ?_ _) | (with_reducible refine Kd.C_drew ?_))); (case side2 => exact (Kd.R_reads' HO193.out).2.1); rintro e w26 ⟨rfl, hb⟩; refine ⟨_, rfl, ?_⟩; have n0_ := Aside0.mk (Kd.R_below (by (with_reducible repeat (first | apply Kd.R_alloc | apply Kd.R_drewN | apply Kd.R_drew)); exact HO193.out) hb); have n1_ := Aside0.mk (below_step (by repeat (first | (with_reducible first | exact HB.out | apply below_alloc | apply pw_below_drewN | apply below_drew1) | exact HB.out)) hb); clear HO193; clear HB; have HO193 := n0_; have HB := n1_; clear n0_ n1_; (try clear hb); (try clear hb2); (try clear hk); (try clear hi)) | ((with_reducible refine gate_callee (f := 14) rfl ?_); refine goesL_ (some 18) rfl rfl Try.func14 (by kernel_rfl) rfl #[.slice Ao25 y191.length co25, .int .i64 t194, .int .i64 t195, .int .i64 1, .int .i64 1] rfl (by (try simp only [List.map_toArray, List.map_cons, List.map_nil]); first | done | rfl | (simp only [List.length_drop, List.length_take]; rfl)) ?_; (with_reducible refine (call_Deals.calls k _ _ y191 t194 t195 1 1 t196 _ ?side1 ?side2 A2.out).mono ?_); (case side1 => repeat (first | exact (Kd.R_reads' HO193.out).2.2 | (with_reducible refine Kd.C_alloc ?_ _) | (with_reducible refine Kd.C_drewN ?_ _) | (with_reducible refine Kd.C_drew ?_))); (case side2 => exact (Kd.R_reads' HO193.out).2.1); rintro e w27 ⟨v197, rfl, ho0, hb⟩; refine ⟨_, rfl, ?_⟩; have n0_ := Aside0.mk (Kd.R_below (by (with_reducible repeat (first | apply Kd.R_alloc | apply Kd.R_drewN | apply Kd.R_drew)); exact HO193.out) hb); have n1_ := Aside0.mk (Kd.R_lower ho0 (below_size (by repeat (first | (with_reducible first | exact HB.out | apply below_alloc | apply pw_below_drewN | apply below_drew1) | exact HB.out)))); have n2_ := Aside0.mk (below_step (by repeat (first | (with_reducible first | exact HB.out | apply below_alloc | apply pw_below_drewN | apply below_drew1) | exact HB.out)) hb); clear HO193; clear HB; have HO193 := n0_; have HO198 := n1_; have HB := n2_; clear n0_ n1_ n2_; (try clear hb); (try clear hb2); (try clear hk); (try clear hi); (try clear ho0); obtain ⟨Ao28, co28, eo28⟩ := Kd.R_slice HO198.out; subst eo28; have p199 : 0 ≤ (0 : Int) := (by omega); have q199 : 0 < (t196.length : Int) := of_decide_eq_true (by first | (with_reducible assumption) | assumption); obtain ⟨ad199, e199, hx199_0, hx199_1, hx199_2, hx199_3, hx199_4, hx199_5, hx199_6, hx199_7, hx199_8, hx199_9, hx199_10, hx199_11, hx199_12⟩ := at_T44 (Kd.R_reads' HO198.out).2.2 0 p199 q199; cases e199; have qi199 : (0 < t196.length) = True := eq_true (by omega); (try rw [show ((0 : Int)).toNat = 0 from rfl] at hx199_0); (try rw [show 0 * 13 = 0 from rfl] at hx199_0); (try rw [Addr.add_zero'] at hx199_0); (try rw [show ((0 : Int)).toNat = 0 from rfl] at hx199_1); (try rw [show 0 * 13 = 0 from rfl] at hx199_1); (try rw [Addr.add_zero'] at hx199_1); (try rw [show ((0 : Int)).toNat = 0 from rfl] at hx199_2); (try rw [show 0 * 13 = 0 from rfl] at hx199_2); (try rw [Addr.add_zero'] at hx199_2); (try rw [show ((0 : Int)).toNat = 0 from rfl] at hx199_3); (try rw [show 0 * 13 = 0 from rfl] at hx199_3); (try rw [Addr.add_zero'] at hx199_3); (try rw [show ((0 : Int)).toNat = 0 from rfl] at hx199_4); (try rw [show 0 * 13 = 0 from rfl] at hx199_4); (try rw [Addr.add_zero'] at hx199_4); (try rw [show ((0 : Int)).toNat = 0 from rfl] at hx199_5); (try rw [show 0 * 13 = 0 from rfl] at hx199_5); (try rw [Addr.add_zero'] at hx199_5); (try rw [show ((0 : Int)).toNat = 0 from rfl] at hx199_6); (try rw [show 0 * 13 = 0 from rfl] at hx199_6); (try rw [Addr.add_zero'] at hx199_6); (try rw [show ((0 : Int)).toNat = 0 from rfl] at hx199_7); (try rw [show 0 * 13 = 0 from rfl] at hx199_7); (try rw [Addr.add_zero'] at hx199_7); (try rw [show ((0 : Int)).toNat = 0 from rfl] at hx199_8); (try rw [show 0 * 13 = 0 from rfl] at hx199_8); (try rw [Addr.add_zero'] at hx199_8); (try rw [show ((0 : Int)).toNat = 0 from rfl] at hx199_9); (try rw [show 0 * 13 = 0 from rfl] at hx199_9); (try rw [Addr.add_zero'] at hx199_9); (try rw [show ((0 : Int)).toNat = 0 from rfl] at hx199_10); (try rw [show 0 * 13 = 0 from rfl] at hx199_10); (try rw [Addr.add_zero'] at hx199_10); (try rw [show ((0 : Int)).toNat = 0 from rfl] at hx199_11); (try rw [show 0 * 13 = 0 from rfl] at hx199_11); (try rw [Addr.add_zero'] at hx199_11); (try rw [show ((0 : Int)).toNat = 0 from rfl] at hx199_12); (try rw [show 0 * 13 = 0 from rfl] at hx199_12); (try rw [Addr.add_zero'] at hx199_12); replace p199 := eq_true p199; replace q199 := eq_true q199; have p200 : 0 ≤ (0 : Int) := (by omega); have q200 : 0 < (t196.length : Int) := of_decide_eq_true (by first | (with_reducible assumption) | assumption); obtain ⟨ad200, e200, hx200_0, hx200_1, hx200_2, hx200_3, hx200_4, hx200_5, hx200_6, hx200_7, hx200_8, hx200_9, hx200_10, hx200_11, hx200_12⟩ := at_T44 (Kd.R_reads' HO198.out).2.2 0 p200 q200; obtain rfl : ad199 = ad200 := (by injection e200); have qi200 : (0 < t196.length) = True := eq_true (by omega); (try rw [show ((0 : Int)).toNat = 0 from rfl] at hx200_0); (try rw [show 0 * 13 = 0 from rfl] at hx200_0); (try rw [Addr.add_zero'] at hx200_0); (try rw [show ((0 : Int)).toNat = 0 from rfl] at hx200_1); (try rw [show 0 * 13 = 0 from rfl] at hx200_1); (try rw [Addr.add_zero'] at hx200_1); (try rw [show ((0 : Int)).toNat = 0 from rfl] at hx200_2); (try rw [show 0 * 13 = 0 from rfl] at hx200_2); (try rw [Addr.add_zero'] at hx200_2); (try rw [show ((0 : Int)).toNat = 0 from rfl] at hx200_3); (try rw [show 0 * 13 = 0 from rfl] at hx200_3); (try rw [Addr.add_zero'] at hx200_3); (try rw [show ((0 : Int)).toNat = 0 from rfl] at hx200_4); (try rw [show 0 * 13 = 0 from rfl] at hx200_4); (try rw [Addr.add_zero'] at hx200_4); (try rw [show ((0 : Int)).toNat = 0 from rfl] at hx200_5); (try rw [show 0 * 13 = 0 from rfl] at hx200_5); (try rw [Addr.add_zero'] at hx200_5); (try rw [show ((0 : Int)).toNat = 0 from rfl] at hx200_6); (try rw [show 0 * 13 = 0 from rfl] at hx200_6); (try rw [Addr.add_zero'] at hx200_6); (try rw [show ((0 : Int)).toNat = 0 from rfl] at hx200_7); (try rw [show 0 * 13 = 0 from rfl] at hx200_7); (try rw [Addr.add_zero'] at hx200_7); (try rw [show ((0 : Int)).toNat = 0 from rfl] at hx200_8); (try rw [show 0 * 13 = 0 from rfl] at hx200_8); (try rw [Addr.add_zero'] at hx200_8); (try rw [show ((0 : Int)).toNat = 0 from rfl] at hx200_9); (try rw [show 0 * 13 = 0 from rfl] at hx200_9); (try rw [Addr.add_zero'] at hx200_9); (try rw [show ((0 : Int)).toNat = 0 from rfl] at hx200_10); (try rw [show 0 * 13 = 0 from rfl] at hx200_10); (try rw [Addr.add_zero'] at hx200_10); (try rw [show ((0 : Int)).toNat = 0 from rfl] at hx200_11); (try rw [show 0 * 13 = 0 from rfl] at hx200_11); (try rw [Addr.add_zero'] at hx200_11); (try rw [show ((0 : Int)).toNat = 0 from rfl] at hx200_12); (try rw [show 0 * 13 = 0 from rfl] at hx200_12); (try rw [Addr.add_zero'] at hx200_12); replace p200 := eq_true p200; replace q200 := eq_true q200))
              go_ret
              exact ⟨by first | rfl | (simp [errW_none, errW_some] <;> rfl) | (simp [*, errW_none, errW_some] <;> rfl), by repeat (first | (with_reducible first | exact HB.out | apply below_alloc | apply pw_below_drewN | apply below_drew1) | exact HB.out)⟩
          · rw [if_neg c7] at H
            have c7b0 : (((rd_T44 t196 0).f2) == 4) = false := beq_eq_false_iff_ne.mpr c7
            have c7b1 : (((rd_T44 t196 0).f2) != 4) = true := bne_iff_ne.mpr c7
            obtain rfl := Option.some.inj H
            go_enter Try.func7, Try.ntmps7
            go_wp2_with (first | ((with_reducible refine gate_dst (N := 9) rfl ?_); (try (refine gate_guard (by rfl) ?_; dsimp only)); refine Kd.R_lit k42 _ 42 ?hg (N := 9) ?hd (xs := ([(⟨1, 0, 1, 12, 5, 1⟩ : S42), (⟨2, 0, 1, 10, 5, 2⟩ : S42), (⟨3, 0, 2, 9, 4, 3⟩ : S42), (⟨4, 0, 2, 11, 4, 4⟩ : S42)] : List (S42))) (inner := [.int .u64 1, .int .i64 0, .int .i64 1, .int .i64 12, .int .i64 5, .int .u64 1, .int .u64 2, .int .i64 0, .int .i64 1, .int .i64 10, .int .i64 5, .int .u64 2, .int .u64 3, .int .i64 0, .int .i64 2, .int .i64 9, .int .i64 4, .int .u64 3, .int .u64 4, .int .i64 0, .int .i64 2, .int .i64 11, .int .i64 4, .int .u64 4]) (ok := fun _ => True) (okp := fun _ => True) ?hr ?hp (fun _ hk => hk) trivial (Below.refl _ _) (Nat.le_refl _) (by simp) ?_; (case hd => rfl); (case hg => rfl); (case hr => first | (go_simp; done) | (go_simp; rfl)); (case hp => exact (Reps.c6 (show Kd.M k42 _ _ _ (⟨1, 0, 1, 12, 5, 1⟩ : S42) [.int .u64 1, .int .i64 0, .int .i64 1, .int .i64 12, .int .i64 5, .int .u64 1] from (k42_mkM _ _ _ (⟨1, 0, 1, 12, 5, 1⟩ : S42) )) (Reps.c6 (show Kd.M k42 _ _ _ (⟨2, 0, 1, 10, 5, 2⟩ : S42) [.int .u64 2, .int .i64 0, .int .i64 1, .int .i64 10, .int .i64 5, .int .u64 2] from (k42_mkM _ _ _ (⟨2, 0, 1, 10, 5, 2⟩ : S42) )) (Reps.c6 (show Kd.M k42 _ _ _ (⟨3, 0, 2, 9, 4, 3⟩ : S42) [.int .u64 3, .int .i64 0, .int .i64 2, .int .i64 9, .int .i64 4, .int .u64 3] from (k42_mkM _ _ _ (⟨3, 0, 2, 9, 4, 3⟩ : S42) )) (Reps.c6 (show Kd.M k42 _ _ _ (⟨4, 0, 2, 11, 4, 4⟩ : S42) [.int .u64 4, .int .i64 0, .int .i64 2, .int .i64 11, .int .i64 4, .int .u64 4] from (k42_mkM _ _ _ (⟨4, 0, 2, 11, 4, 4⟩ : S42) )) (Reps.none _ _)))))); intro v192 w29 ho30 hb hg_ hnew_; clear hg_ hnew_; (first | rw [← Ny191.out] at ho30 | (simp only [Int.reduceToNat] at ho30; rw [← Ny191.out] at ho30)); have n0_ := Aside0.mk (Kd.R_lower ho30 (below_size (by repeat (first | (with_reducible first | exact HB.out | apply below_alloc | apply pw_below_drewN | apply below_drew1) | exact HB.out)))); have n1_ := Aside0.mk (below_step (by repeat (first | (with_reducible first | exact HB.out | apply below_alloc | apply pw_below_drewN | apply below_drew1) | exact HB.out)) hb); clear HB; have HO193 := n0_; have HB := n1_; clear n0_ n1_; clear hb ho30; obtain ⟨Ao31, co31, eo31⟩ := Kd.R_slice HO193.out; subst eo31) | ((with_reducible refine gate_callee (f := 8) rfl ?_); refine goesL_ (some 12) rfl rfl Try.func8 (by kernel_rfl) rfl #[.slice Ao31 y191.length co31, .int .i64 0] rfl (by (try simp only [List.map_toArray, List.map_cons, List.map_nil]); first | done | rfl | (simp only [List.length_drop, List.length_take]; rfl)) ?_; (with_reducible refine (call_Price.calls _ _ y191 0 t194 t195 _ ?side1 ?side2 A1.out).mono ?_); (case side1 => repeat (first | exact (Kd.R_reads' HO193.out).2.2 | (with_reducible refine Kd.C_alloc ?_ _) | (with_reducible refine Kd.C_drewN ?_ _) | (with_reducible refine Kd.C_drew ?_))); (case side2 => exact (Kd.R_reads' HO193.out).2.1); rintro e w32 ⟨rfl, hb⟩; refine ⟨_, rfl, ?_⟩; have n0_ := Aside0.mk (Kd.R_below (by (with_reducible repeat (first | apply Kd.R_alloc | apply Kd.R_drewN | apply Kd.R_drew)); exact HO193.out) hb); have n1_ := Aside0.mk (below_step (by repeat (first | (with_reducible first | exact HB.out | apply below_alloc | apply pw_below_drewN | apply below_drew1) | exact HB.out)) hb); clear HO193; clear HB; have HO193 := n0_; have HB := n1_; clear n0_ n1_; (try clear hb); (try clear hb2); (try clear hk); (try clear hi)) | ((with_reducible refine gate_callee (f := 14) rfl ?_); refine goesL_ (some 18) rfl rfl Try.func14 (by kernel_rfl) rfl #[.slice Ao31 y191.length co31, .int .i64 t194, .int .i64 t195, .int .i64 1, .int .i64 1] rfl (by (try simp only [List.map_toArray, List.map_cons, List.map_nil]); first | done | rfl | (simp only [List.length_drop, List.length_take]; rfl)) ?_; (with_reducible refine (call_Deals.calls k _ _ y191 t194 t195 1 1 t196 _ ?side1 ?side2 A2.out).mono ?_); (case side1 => repeat (first | exact (Kd.R_reads' HO193.out).2.2 | (with_reducible refine Kd.C_alloc ?_ _) | (with_reducible refine Kd.C_drewN ?_ _) | (with_reducible refine Kd.C_drew ?_))); (case side2 => exact (Kd.R_reads' HO193.out).2.1); rintro e w33 ⟨v197, rfl, ho0, hb⟩; refine ⟨_, rfl, ?_⟩; have n0_ := Aside0.mk (Kd.R_below (by (with_reducible repeat (first | apply Kd.R_alloc | apply Kd.R_drewN | apply Kd.R_drew)); exact HO193.out) hb); have n1_ := Aside0.mk (Kd.R_lower ho0 (below_size (by repeat (first | (with_reducible first | exact HB.out | apply below_alloc | apply pw_below_drewN | apply below_drew1) | exact HB.out)))); have n2_ := Aside0.mk (below_step (by repeat (first | (with_reducible first | exact HB.out | apply below_alloc | apply pw_below_drewN | apply below_drew1) | exact HB.out)) hb); clear HO193; clear HB; have HO193 := n0_; have HO198 := n1_; have HB := n2_; clear n0_ n1_ n2_; (try clear hb); (try clear hb2); (try clear hk); (try clear hi); (try clear ho0); obtain ⟨Ao34, co34, eo34⟩ := Kd.R_slice HO198.out; subst eo34; have p199 : 0 ≤ (0 : Int) := (by omega); have q199 : 0 < (t196.length : Int) := of_decide_eq_true (by first | (with_reducible assumption) | assumption); obtain ⟨ad199, e199, hx199_0, hx199_1, hx199_2, hx199_3, hx199_4, hx199_5, hx199_6, hx199_7, hx199_8, hx199_9, hx199_10, hx199_11, hx199_12⟩ := at_T44 (Kd.R_reads' HO198.out).2.2 0 p199 q199; cases e199; have qi199 : (0 < t196.length) = True := eq_true (by omega); (try rw [show ((0 : Int)).toNat = 0 from rfl] at hx199_0); (try rw [show 0 * 13 = 0 from rfl] at hx199_0); (try rw [Addr.add_zero'] at hx199_0); (try rw [show ((0 : Int)).toNat = 0 from rfl] at hx199_1); (try rw [show 0 * 13 = 0 from rfl] at hx199_1); (try rw [Addr.add_zero'] at hx199_1); (try rw [show ((0 : Int)).toNat = 0 from rfl] at hx199_2); (try rw [show 0 * 13 = 0 from rfl] at hx199_2); (try rw [Addr.add_zero'] at hx199_2); (try rw [show ((0 : Int)).toNat = 0 from rfl] at hx199_3); (try rw [show 0 * 13 = 0 from rfl] at hx199_3); (try rw [Addr.add_zero'] at hx199_3); (try rw [show ((0 : Int)).toNat = 0 from rfl] at hx199_4); (try rw [show 0 * 13 = 0 from rfl] at hx199_4); (try rw [Addr.add_zero'] at hx199_4); (try rw [show ((0 : Int)).toNat = 0 from rfl] at hx199_5); (try rw [show 0 * 13 = 0 from rfl] at hx199_5); (try rw [Addr.add_zero'] at hx199_5); (try rw [show ((0 : Int)).toNat = 0 from rfl] at hx199_6); (try rw [show 0 * 13 = 0 from rfl] at hx199_6); (try rw [Addr.add_zero'] at hx199_6); (try rw [show ((0 : Int)).toNat = 0 from rfl] at hx199_7); (try rw [show 0 * 13 = 0 from rfl] at hx199_7); (try rw [Addr.add_zero'] at hx199_7); (try rw [show ((0 : Int)).toNat = 0 from rfl] at hx199_8); (try rw [show 0 * 13 = 0 from rfl] at hx199_8); (try rw [Addr.add_zero'] at hx199_8); (try rw [show ((0 : Int)).toNat = 0 from rfl] at hx199_9); (try rw [show 0 * 13 = 0 from rfl] at hx199_9); (try rw [Addr.add_zero'] at hx199_9); (try rw [show ((0 : Int)).toNat = 0 from rfl] at hx199_10); (try rw [show 0 * 13 = 0 from rfl] at hx199_10); (try rw [Addr.add_zero'] at hx199_10); (try rw [show ((0 : Int)).toNat = 0 from rfl] at hx199_11); (try rw [show 0 * 13 = 0 from rfl] at hx199_11); (try rw [Addr.add_zero'] at hx199_11); (try rw [show ((0 : Int)).toNat = 0 from rfl] at hx199_12); (try rw [show 0 * 13 = 0 from rfl] at hx199_12); (try rw [Addr.add_zero'] at hx199_12); replace p199 := eq_true p199; replace q199 := eq_true q199))
            go_ret
            exact ⟨by first | rfl | (simp [errW_none, errW_some] <;> rfl) | (simp [*, errW_none, errW_some] <;> rfl), by repeat (first | (with_reducible first | exact HB.out | apply below_alloc | apply pw_below_drewN | apply below_drew1) | exact HB.out)⟩
        · rw [if_neg c6] at H
          exact absurd H (by simp)
      · rw [if_neg c5] at H
        have c5b0 : ((t196.length : Int) == 2) = false := beq_eq_false_iff_ne.mpr c5
        have c5b1 : ((t196.length : Int) != 2) = true := bne_iff_ne.mpr c5
        obtain rfl := Option.some.inj H
        go_enter Try.func7, Try.ntmps7
        go_wp2_with (first | ((with_reducible refine gate_dst (N := 9) rfl ?_); (try (refine gate_guard (by rfl) ?_; dsimp only)); refine Kd.R_lit k42 _ 42 ?hg (N := 9) ?hd (xs := ([(⟨1, 0, 1, 12, 5, 1⟩ : S42), (⟨2, 0, 1, 10, 5, 2⟩ : S42), (⟨3, 0, 2, 9, 4, 3⟩ : S42), (⟨4, 0, 2, 11, 4, 4⟩ : S42)] : List (S42))) (inner := [.int .u64 1, .int .i64 0, .int .i64 1, .int .i64 12, .int .i64 5, .int .u64 1, .int .u64 2, .int .i64 0, .int .i64 1, .int .i64 10, .int .i64 5, .int .u64 2, .int .u64 3, .int .i64 0, .int .i64 2, .int .i64 9, .int .i64 4, .int .u64 3, .int .u64 4, .int .i64 0, .int .i64 2, .int .i64 11, .int .i64 4, .int .u64 4]) (ok := fun _ => True) (okp := fun _ => True) ?hr ?hp (fun _ hk => hk) trivial (Below.refl _ _) (Nat.le_refl _) (by simp) ?_; (case hd => rfl); (case hg => rfl); (case hr => first | (go_simp; done) | (go_simp; rfl)); (case hp => exact (Reps.c6 (show Kd.M k42 _ _ _ (⟨1, 0, 1, 12, 5, 1⟩ : S42) [.int .u64 1, .int .i64 0, .int .i64 1, .int .i64 12, .int .i64 5, .int .u64 1] from (k42_mkM _ _ _ (⟨1, 0, 1, 12, 5, 1⟩ : S42) )) (Reps.c6 (show Kd.M k42 _ _ _ (⟨2, 0, 1, 10, 5, 2⟩ : S42) [.int .u64 2, .int .i64 0, .int .i64 1, .int .i64 10, .int .i64 5, .int .u64 2] from (k42_mkM _ _ _ (⟨2, 0, 1, 10, 5, 2⟩ : S42) )) (Reps.c6 (show Kd.M k42 _ _ _ (⟨3, 0, 2, 9, 4, 3⟩ : S42) [.int .u64 3, .int .i64 0, .int .i64 2, .int .i64 9, .int .i64 4, .int .u64 3] from (k42_mkM _ _ _ (⟨3, 0, 2, 9, 4, 3⟩ : S42) )) (Reps.c6 (show Kd.M k42 _ _ _ (⟨4, 0, 2, 11, 4, 4⟩ : S42) [.int .u64 4, .int .i64 0, .int .i64 2, .int .i64 11, .int .i64 4, .int .u64 4] from (k42_mkM _ _ _ (⟨4, 0, 2, 11, 4, 4⟩ : S42) )) (Reps.none _ _)))))); intro v192 w35 ho36 hb hg_ hnew_; clear hg_ hnew_; (first | rw [← Ny191.out] at ho36 | (simp only [Int.reduceToNat] at ho36; rw [← Ny191.out] at ho36)); have n0_ := Aside0.mk (Kd.R_lower ho36 (below_size (by repeat (first | (with_reducible first | exact HB.out | apply below_alloc | apply pw_below_drewN | apply below_drew1) | exact HB.out)))); have n1_ := Aside0.mk (below_step (by repeat (first | (with_reducible first | exact HB.out | apply below_alloc | apply pw_below_drewN | apply below_drew1) | exact HB.out)) hb); clear HB; have HO193 := n0_; have HB := n1_; clear n0_ n1_; clear hb ho36; obtain ⟨Ao37, co37, eo37⟩ := Kd.R_slice HO193.out; subst eo37) | ((with_reducible refine gate_callee (f := 8) rfl ?_); refine goesL_ (some 12) rfl rfl Try.func8 (by kernel_rfl) rfl #[.slice Ao37 y191.length co37, .int .i64 0] rfl (by (try simp only [List.map_toArray, List.map_cons, List.map_nil]); first | done | rfl | (simp only [List.length_drop, List.length_take]; rfl)) ?_; (with_reducible refine (call_Price.calls _ _ y191 0 t194 t195 _ ?side1 ?side2 A1.out).mono ?_); (case side1 => repeat (first | exact (Kd.R_reads' HO193.out).2.2 | (with_reducible refine Kd.C_alloc ?_ _) | (with_reducible refine Kd.C_drewN ?_ _) | (with_reducible refine Kd.C_drew ?_))); (case side2 => exact (Kd.R_reads' HO193.out).2.1); rintro e w38 ⟨rfl, hb⟩; refine ⟨_, rfl, ?_⟩; have n0_ := Aside0.mk (Kd.R_below (by (with_reducible repeat (first | apply Kd.R_alloc | apply Kd.R_drewN | apply Kd.R_drew)); exact HO193.out) hb); have n1_ := Aside0.mk (below_step (by repeat (first | (with_reducible first | exact HB.out | apply below_alloc | apply pw_below_drewN | apply below_drew1) | exact HB.out)) hb); clear HO193; clear HB; have HO193 := n0_; have HB := n1_; clear n0_ n1_; (try clear hb); (try clear hb2); (try clear hk); (try clear hi)) | ((with_reducible refine gate_callee (f := 14) rfl ?_); refine goesL_ (some 18) rfl rfl Try.func14 (by kernel_rfl) rfl #[.slice Ao37 y191.length co37, .int .i64 t194, .int .i64 t195, .int .i64 1, .int .i64 1] rfl (by (try simp only [List.map_toArray, List.map_cons, List.map_nil]); first | done | rfl | (simp only [List.length_drop, List.length_take]; rfl)) ?_; (with_reducible refine (call_Deals.calls k _ _ y191 t194 t195 1 1 t196 _ ?side1 ?side2 A2.out).mono ?_); (case side1 => repeat (first | exact (Kd.R_reads' HO193.out).2.2 | (with_reducible refine Kd.C_alloc ?_ _) | (with_reducible refine Kd.C_drewN ?_ _) | (with_reducible refine Kd.C_drew ?_))); (case side2 => exact (Kd.R_reads' HO193.out).2.1); rintro e w39 ⟨v197, rfl, ho0, hb⟩; refine ⟨_, rfl, ?_⟩; have n0_ := Aside0.mk (Kd.R_below (by (with_reducible repeat (first | apply Kd.R_alloc | apply Kd.R_drewN | apply Kd.R_drew)); exact HO193.out) hb); have n1_ := Aside0.mk (Kd.R_lower ho0 (below_size (by repeat (first | (with_reducible first | exact HB.out | apply below_alloc | apply pw_below_drewN | apply below_drew1) | exact HB.out)))); have n2_ := Aside0.mk (below_step (by repeat (first | (with_reducible first | exact HB.out | apply below_alloc | apply pw_below_drewN | apply below_drew1) | exact HB.out)) hb); clear HO193; clear HB; have HO193 := n0_; have HO198 := n1_; have HB := n2_; clear n0_ n1_ n2_; (try clear hb); (try clear hb2); (try clear hk); (try clear hi); (try clear ho0); obtain ⟨Ao40, co40, eo40⟩ := Kd.R_slice HO198.out; subst eo40))
        go_ret
        exact ⟨by first | rfl | (simp [errW_none, errW_some] <;> rfl) | (simp [*, errW_none, errW_some] <;> rfl), by repeat (first | (with_reducible first | exact HB.out | apply below_alloc | apply pw_below_drewN | apply below_drew1) | exact HB.out)⟩
    · rw [if_neg c4] at H
      have c4b0 : (t195 == 5) = false := beq_eq_false_iff_ne.mpr c4
      have c4b1 : (t195 != 5) = true := bne_iff_ne.mpr c4
      obtain rfl := Option.some.inj H
      go_enter Try.func7, Try.ntmps7
      go_wp2_with (first | ((with_reducible refine gate_dst (N := 9) rfl ?_); (try (refine gate_guard (by rfl) ?_; dsimp only)); refine Kd.R_lit k42 _ 42 ?hg (N := 9) ?hd (xs := ([(⟨1, 0, 1, 12, 5, 1⟩ : S42), (⟨2, 0, 1, 10, 5, 2⟩ : S42), (⟨3, 0, 2, 9, 4, 3⟩ : S42), (⟨4, 0, 2, 11, 4, 4⟩ : S42)] : List (S42))) (inner := [.int .u64 1, .int .i64 0, .int .i64 1, .int .i64 12, .int .i64 5, .int .u64 1, .int .u64 2, .int .i64 0, .int .i64 1, .int .i64 10, .int .i64 5, .int .u64 2, .int .u64 3, .int .i64 0, .int .i64 2, .int .i64 9, .int .i64 4, .int .u64 3, .int .u64 4, .int .i64 0, .int .i64 2, .int .i64 11, .int .i64 4, .int .u64 4]) (ok := fun _ => True) (okp := fun _ => True) ?hr ?hp (fun _ hk => hk) trivial (Below.refl _ _) (Nat.le_refl _) (by simp) ?_; (case hd => rfl); (case hg => rfl); (case hr => first | (go_simp; done) | (go_simp; rfl)); (case hp => exact (Reps.c6 (show Kd.M k42 _ _ _ (⟨1, 0, 1, 12, 5, 1⟩ : S42) [.int .u64 1, .int .i64 0, .int .i64 1, .int .i64 12, .int .i64 5, .int .u64 1] from (k42_mkM _ _ _ (⟨1, 0, 1, 12, 5, 1⟩ : S42) )) (Reps.c6 (show Kd.M k42 _ _ _ (⟨2, 0, 1, 10, 5, 2⟩ : S42) [.int .u64 2, .int .i64 0, .int .i64 1, .int .i64 10, .int .i64 5, .int .u64 2] from (k42_mkM _ _ _ (⟨2, 0, 1, 10, 5, 2⟩ : S42) )) (Reps.c6 (show Kd.M k42 _ _ _ (⟨3, 0, 2, 9, 4, 3⟩ : S42) [.int .u64 3, .int .i64 0, .int .i64 2, .int .i64 9, .int .i64 4, .int .u64 3] from (k42_mkM _ _ _ (⟨3, 0, 2, 9, 4, 3⟩ : S42) )) (Reps.c6 (show Kd.M k42 _ _ _ (⟨4, 0, 2, 11, 4, 4⟩ : S42) [.int .u64 4, .int .i64 0, .int .i64 2, .int .i64 11, .int .i64 4, .int .u64 4] from (k42_mkM _ _ _ (⟨4, 0, 2, 11, 4, 4⟩ : S42) )) (Reps.none _ _)))))); intro v192 w41 ho42 hb hg_ hnew_; clear hg_ hnew_; (first | rw [← Ny191.out] at ho42 | (simp only [Int.reduceToNat] at ho42; rw [← Ny191.out] at ho42)); have n0_ := Aside0.mk (Kd.R_lower ho42 (below_size (by repeat (first | (with_reducible first | exact HB.out | apply below_alloc | apply pw_below_drewN | apply below_drew1) | exact HB.out)))); have n1_ := Aside0.mk (below_step (by repeat (first | (with_reducible first | exact HB.out | apply below_alloc | apply pw_below_drewN | apply below_drew1) | exact HB.out)) hb); clear HB; have HO193 := n0_; have HB := n1_; clear n0_ n1_; clear hb ho42; obtain ⟨Ao43, co43, eo43⟩ := Kd.R_slice HO193.out; subst eo43) | ((with_reducible refine gate_callee (f := 8) rfl ?_); refine goesL_ (some 12) rfl rfl Try.func8 (by kernel_rfl) rfl #[.slice Ao43 y191.length co43, .int .i64 0] rfl (by (try simp only [List.map_toArray, List.map_cons, List.map_nil]); first | done | rfl | (simp only [List.length_drop, List.length_take]; rfl)) ?_; (with_reducible refine (call_Price.calls _ _ y191 0 t194 t195 _ ?side1 ?side2 A1.out).mono ?_); (case side1 => repeat (first | exact (Kd.R_reads' HO193.out).2.2 | (with_reducible refine Kd.C_alloc ?_ _) | (with_reducible refine Kd.C_drewN ?_ _) | (with_reducible refine Kd.C_drew ?_))); (case side2 => exact (Kd.R_reads' HO193.out).2.1); rintro e w44 ⟨rfl, hb⟩; refine ⟨_, rfl, ?_⟩; have n0_ := Aside0.mk (Kd.R_below (by (with_reducible repeat (first | apply Kd.R_alloc | apply Kd.R_drewN | apply Kd.R_drew)); exact HO193.out) hb); have n1_ := Aside0.mk (below_step (by repeat (first | (with_reducible first | exact HB.out | apply below_alloc | apply pw_below_drewN | apply below_drew1) | exact HB.out)) hb); clear HO193; clear HB; have HO193 := n0_; have HB := n1_; clear n0_ n1_; (try clear hb); (try clear hb2); (try clear hk); (try clear hi)) | ((with_reducible refine gate_callee (f := 14) rfl ?_); refine goesL_ (some 18) rfl rfl Try.func14 (by kernel_rfl) rfl #[.slice Ao43 y191.length co43, .int .i64 t194, .int .i64 t195, .int .i64 1, .int .i64 1] rfl (by (try simp only [List.map_toArray, List.map_cons, List.map_nil]); first | done | rfl | (simp only [List.length_drop, List.length_take]; rfl)) ?_; (with_reducible refine (call_Deals.calls k _ _ y191 t194 t195 1 1 t196 _ ?side1 ?side2 A2.out).mono ?_); (case side1 => repeat (first | exact (Kd.R_reads' HO193.out).2.2 | (with_reducible refine Kd.C_alloc ?_ _) | (with_reducible refine Kd.C_drewN ?_ _) | (with_reducible refine Kd.C_drew ?_))); (case side2 => exact (Kd.R_reads' HO193.out).2.1); rintro e w45 ⟨v197, rfl, ho0, hb⟩; refine ⟨_, rfl, ?_⟩; have n0_ := Aside0.mk (Kd.R_below (by (with_reducible repeat (first | apply Kd.R_alloc | apply Kd.R_drewN | apply Kd.R_drew)); exact HO193.out) hb); have n1_ := Aside0.mk (Kd.R_lower ho0 (below_size (by repeat (first | (with_reducible first | exact HB.out | apply below_alloc | apply pw_below_drewN | apply below_drew1) | exact HB.out)))); have n2_ := Aside0.mk (below_step (by repeat (first | (with_reducible first | exact HB.out | apply below_alloc | apply pw_below_drewN | apply below_drew1) | exact HB.out)) hb); clear HO193; clear HB; have HO193 := n0_; have HO198 := n1_; have HB := n2_; clear n0_ n1_ n2_; (try clear hb); (try clear hb2); (try clear hk); (try clear hi); (try clear ho0)))
      go_ret
      exact ⟨by first | rfl | (simp [errW_none, errW_some] <;> rfl) | (simp [*, errW_none, errW_some] <;> rfl), by repeat (first | (with_reducible first | exact HB.out | apply below_alloc | apply pw_below_drewN | apply below_drew1) | exact HB.out)⟩
  · rw [if_neg c3] at H
    have c3b0 : (t194 == 11) = false := beq_eq_false_iff_ne.mpr c3
    have c3b1 : (t194 != 11) = true := bne_iff_ne.mpr c3
    obtain rfl := Option.some.inj H
    go_enter Try.func7, Try.ntmps7
    go_wp2_with (first | ((with_reducible refine gate_dst (N := 9) rfl ?_); (try (refine gate_guard (by rfl) ?_; dsimp only)); refine Kd.R_lit k42 _ 42 ?hg (N := 9) ?hd (xs := ([(⟨1, 0, 1, 12, 5, 1⟩ : S42), (⟨2, 0, 1, 10, 5, 2⟩ : S42), (⟨3, 0, 2, 9, 4, 3⟩ : S42), (⟨4, 0, 2, 11, 4, 4⟩ : S42)] : List (S42))) (inner := [.int .u64 1, .int .i64 0, .int .i64 1, .int .i64 12, .int .i64 5, .int .u64 1, .int .u64 2, .int .i64 0, .int .i64 1, .int .i64 10, .int .i64 5, .int .u64 2, .int .u64 3, .int .i64 0, .int .i64 2, .int .i64 9, .int .i64 4, .int .u64 3, .int .u64 4, .int .i64 0, .int .i64 2, .int .i64 11, .int .i64 4, .int .u64 4]) (ok := fun _ => True) (okp := fun _ => True) ?hr ?hp (fun _ hk => hk) trivial (Below.refl _ _) (Nat.le_refl _) (by simp) ?_; (case hd => rfl); (case hg => rfl); (case hr => first | (go_simp; done) | (go_simp; rfl)); (case hp => exact (Reps.c6 (show Kd.M k42 _ _ _ (⟨1, 0, 1, 12, 5, 1⟩ : S42) [.int .u64 1, .int .i64 0, .int .i64 1, .int .i64 12, .int .i64 5, .int .u64 1] from (k42_mkM _ _ _ (⟨1, 0, 1, 12, 5, 1⟩ : S42) )) (Reps.c6 (show Kd.M k42 _ _ _ (⟨2, 0, 1, 10, 5, 2⟩ : S42) [.int .u64 2, .int .i64 0, .int .i64 1, .int .i64 10, .int .i64 5, .int .u64 2] from (k42_mkM _ _ _ (⟨2, 0, 1, 10, 5, 2⟩ : S42) )) (Reps.c6 (show Kd.M k42 _ _ _ (⟨3, 0, 2, 9, 4, 3⟩ : S42) [.int .u64 3, .int .i64 0, .int .i64 2, .int .i64 9, .int .i64 4, .int .u64 3] from (k42_mkM _ _ _ (⟨3, 0, 2, 9, 4, 3⟩ : S42) )) (Reps.c6 (show Kd.M k42 _ _ _ (⟨4, 0, 2, 11, 4, 4⟩ : S42) [.int .u64 4, .int .i64 0, .int .i64 2, .int .i64 11, .int .i64 4, .int .u64 4] from (k42_mkM _ _ _ (⟨4, 0, 2, 11, 4, 4⟩ : S42) )) (Reps.none _ _)))))); intro v192 w46 ho47 hb hg_ hnew_; clear hg_ hnew_; (first | rw [← Ny191.out] at ho47 | (simp only [Int.reduceToNat] at ho47; rw [← Ny191.out] at ho47)); have n0_ := Aside0.mk (Kd.R_lower ho47 (below_size (by repeat (first | (with_reducible first | exact HB.out | apply below_alloc | apply pw_below_drewN | apply below_drew1) | exact HB.out)))); have n1_ := Aside0.mk (below_step (by repeat (first | (with_reducible first | exact HB.out | apply below_alloc | apply pw_below_drewN | apply below_drew1) | exact HB.out)) hb); clear HB; have HO193 := n0_; have HB := n1_; clear n0_ n1_; clear hb ho47; obtain ⟨Ao48, co48, eo48⟩ := Kd.R_slice HO193.out; subst eo48) | ((with_reducible refine gate_callee (f := 8) rfl ?_); refine goesL_ (some 12) rfl rfl Try.func8 (by kernel_rfl) rfl #[.slice Ao48 y191.length co48, .int .i64 0] rfl (by (try simp only [List.map_toArray, List.map_cons, List.map_nil]); first | done | rfl | (simp only [List.length_drop, List.length_take]; rfl)) ?_; (with_reducible refine (call_Price.calls _ _ y191 0 t194 t195 _ ?side1 ?side2 A1.out).mono ?_); (case side1 => repeat (first | exact (Kd.R_reads' HO193.out).2.2 | (with_reducible refine Kd.C_alloc ?_ _) | (with_reducible refine Kd.C_drewN ?_ _) | (with_reducible refine Kd.C_drew ?_))); (case side2 => exact (Kd.R_reads' HO193.out).2.1); rintro e w49 ⟨rfl, hb⟩; refine ⟨_, rfl, ?_⟩; have n0_ := Aside0.mk (Kd.R_below (by (with_reducible repeat (first | apply Kd.R_alloc | apply Kd.R_drewN | apply Kd.R_drew)); exact HO193.out) hb); have n1_ := Aside0.mk (below_step (by repeat (first | (with_reducible first | exact HB.out | apply below_alloc | apply pw_below_drewN | apply below_drew1) | exact HB.out)) hb); clear HO193; clear HB; have HO193 := n0_; have HB := n1_; clear n0_ n1_; (try clear hb); (try clear hb2); (try clear hk); (try clear hi)) | ((with_reducible refine gate_callee (f := 14) rfl ?_); refine goesL_ (some 18) rfl rfl Try.func14 (by kernel_rfl) rfl #[.slice Ao48 y191.length co48, .int .i64 t194, .int .i64 t195, .int .i64 1, .int .i64 1] rfl (by (try simp only [List.map_toArray, List.map_cons, List.map_nil]); first | done | rfl | (simp only [List.length_drop, List.length_take]; rfl)) ?_; (with_reducible refine (call_Deals.calls k _ _ y191 t194 t195 1 1 t196 _ ?side1 ?side2 A2.out).mono ?_); (case side1 => repeat (first | exact (Kd.R_reads' HO193.out).2.2 | (with_reducible refine Kd.C_alloc ?_ _) | (with_reducible refine Kd.C_drewN ?_ _) | (with_reducible refine Kd.C_drew ?_))); (case side2 => exact (Kd.R_reads' HO193.out).2.1); rintro e w50 ⟨v197, rfl, ho0, hb⟩; refine ⟨_, rfl, ?_⟩; have n0_ := Aside0.mk (Kd.R_below (by (with_reducible repeat (first | apply Kd.R_alloc | apply Kd.R_drewN | apply Kd.R_drew)); exact HO193.out) hb); have n1_ := Aside0.mk (Kd.R_lower ho0 (below_size (by repeat (first | (with_reducible first | exact HB.out | apply below_alloc | apply pw_below_drewN | apply below_drew1) | exact HB.out)))); have n2_ := Aside0.mk (below_step (by repeat (first | (with_reducible first | exact HB.out | apply below_alloc | apply pw_below_drewN | apply below_drew1) | exact HB.out)) hb); clear HO193; clear HB; have HO193 := n0_; have HO198 := n1_; have HB := n2_; clear n0_ n1_ n2_; (try clear hb); (try clear hb2); (try clear hk); (try clear hi); (try clear ho0)))
    go_ret
    exact ⟨by first | rfl | (simp [errW_none, errW_some] <;> rfl) | (simp [*, errW_none, errW_some] <;> rfl), by repeat (first | (with_reducible first | exact HB.out | apply below_alloc | apply pw_below_drewN | apply below_drew1) | exact HB.out)⟩
def jobberref12_Better.f (a0 : Int) (a1 : Int) (a2 : Int) : Option (Bool) := if a0 = 1 then (if a1 > a2 then (some true) else (if a0 = 2 then (some (decide (a1 < a2))) else (some false))) else (if a0 = 2 then (some (decide (a1 < a2))) else (some false))
set_option maxHeartbeats 8000000 in
set_option maxRecDepth 100000 in
theorem jobberref12_Better.calls (a0 : Int) (a1 : Int) (a2 : Int) (r : Bool) (w : World) (h : jobberref12_Better.f a0 a1 a2 = some r) :
    Calls Try.prog 76 #[.int .i64 a0, .int .i64 a1, .int .i64 a2] w fun e w' => e = .returned (.bool r) ∧ Drawn0 w w' := by
  have H : (if a0 = 1 then (if a1 > a2 then (some true) else (if a0 = 2 then (some (decide (a1 < a2))) else (some false))) else (if a0 = 2 then (some (decide (a1 < a2))) else (some false))) = some r := h
  clear h
  by_cases c4 : a0 = 1
  · rw [if_pos c4] at H
    have c4b0 : (a0 == 1) = true := beq_iff_eq.mpr c4
    have c4b1 : (a0 != 1) = false := bne_eq_false_iff_eq.mpr c4
    clear c4
    by_cases c5 : a1 > a2
    · rw [if_pos c5] at H
      have c5b0 : decide (a2 < a1) = true := decide_eq_true c5
      clear c5
      obtain rfl := Option.some.inj H
      go_enter Try.func76, Try.ntmps76
      go_wp2
      go_ret
      exact ⟨by first | rfl | (simp; done) | (simp [*]; done), by repeat (first | exact Drawn0.refl _ | apply Drawn0.step)⟩
    · rw [if_neg c5] at H
      have c5b0 : decide (a2 < a1) = false := decide_eq_false c5
      clear c5
      by_cases c6 : a0 = 2
      · rw [if_pos c6] at H
        have c6b0 : (a0 == 2) = true := beq_iff_eq.mpr c6
        have c6b1 : (a0 != 2) = false := bne_eq_false_iff_eq.mpr c6
        clear c6
        obtain rfl := Option.some.inj H
        go_enter Try.func76, Try.ntmps76
        go_wp2
        go_ret
        exact ⟨by first | rfl | (simp; done) | (simp [*]; done), by repeat (first | exact Drawn0.refl _ | apply Drawn0.step)⟩
      · rw [if_neg c6] at H
        have c6b0 : (a0 == 2) = false := beq_eq_false_iff_ne.mpr c6
        have c6b1 : (a0 != 2) = true := bne_iff_ne.mpr c6
        obtain rfl := Option.some.inj H
        go_enter Try.func76, Try.ntmps76
        go_wp2
        go_ret
        exact ⟨by first | rfl | (simp; done) | (simp [*]; done), by repeat (first | exact Drawn0.refl _ | apply Drawn0.step)⟩
  · rw [if_neg c4] at H
    have c4b0 : (a0 == 1) = false := beq_eq_false_iff_ne.mpr c4
    have c4b1 : (a0 != 1) = true := bne_iff_ne.mpr c4
    by_cases c7 : a0 = 2
    · rw [if_pos c7] at H
      have c7b0 : (a0 == 2) = true := beq_iff_eq.mpr c7
      have c7b1 : (a0 != 2) = false := bne_eq_false_iff_eq.mpr c7
      clear c7
      obtain rfl := Option.some.inj H
      go_enter Try.func76, Try.ntmps76
      go_wp2
      go_ret
      exact ⟨by first | rfl | (simp; done) | (simp [*]; done), by repeat (first | exact Drawn0.refl _ | apply Drawn0.step)⟩
    · rw [if_neg c7] at H
      have c7b0 : (a0 == 2) = false := beq_eq_false_iff_ne.mpr c7
      have c7b1 : (a0 != 2) = true := bne_iff_ne.mpr c7
      obtain rfl := Option.some.inj H
      go_enter Try.func76, Try.ntmps76
      go_wp2
      go_ret
      exact ⟨by first | rfl | (simp; done) | (simp [*]; done), by repeat (first | exact Drawn0.refl _ | apply Drawn0.step)⟩
def jobberref12_Ahead.j0 : Nat → Bool → Int → Int → Int → Int → Int → Int → Int → Int → Int → Int → Int → Int → Option (Bool)
  | 0, _, _, _, _, _, _, _, _, _, _, _, _, _ => none
  | k + 1, x19, x204000, x204001, x204002, x204003, x204004, x204005, x205000, x205001, x205002, x205003, x205004, x205005 => if x19 = true then (some false) else (if x204003 = x205003 then (if x204005 = x205005 then (some (decide (x204000 < x205000))) else (some (decide (x204005 < x205005)))) else ((jobberref12_Better.f x204002 x204003 x205003).bind fun t205 => (some t205)))
def jobberref12_Ahead.f (k : Nat) (a0_0 : Int) (a0_1 : Int) (a0_2 : Int) (a0_3 : Int) (a0_4 : Int) (a0_5 : Int) (a1_0 : Int) (a1_1 : Int) (a1_2 : Int) (a1_3 : Int) (a1_4 : Int) (a1_5 : Int) : Option (Bool) := if a0_2 = a1_2 then (if a0_2 < 1 then (jobberref12_Ahead.j0 k true a0_0 a0_1 a0_2 a0_3 a0_4 a0_5 a1_0 a1_1 a1_2 a1_3 a1_4 a1_5) else (jobberref12_Ahead.j0 k (decide (a0_2 > 2)) a0_0 a0_1 a0_2 a0_3 a0_4 a0_5 a1_0 a1_1 a1_2 a1_3 a1_4 a1_5)) else (jobberref12_Ahead.j0 k true a0_0 a0_1 a0_2 a0_3 a0_4 a0_5 a1_0 a1_1 a1_2 a1_3 a1_4 a1_5)
theorem jobberref12_Ahead.mono_l : ∀ k, (∀ y0 y1 y2 y3 y4 y5 y6 y7 y8 y9 y10 y11 y12, LeO (jobberref12_Ahead.j0 k y0 y1 y2 y3 y4 y5 y6 y7 y8 y9 y10 y11 y12) (jobberref12_Ahead.j0 (k + 1) y0 y1 y2 y3 y4 y5 y6 y7 y8 y9 y10 y11 y12))
  | 0 => fun _ _ _ _ _ _ _ _ _ _ _ _ _ r h => by simp [jobberref12_Ahead.j0] at h
  | k + 1 => by
    have ih0 := jobberref12_Ahead.mono_l k
    · intro y0 y1 y2 y3 y4 y5 y6 y7 y8 y9 y10 y11 y12
      unfold jobberref12_Ahead.j0
      repeat' first
      | (with_reducible exact ih0 _ _ _ _ _ _ _ _ _ _ _ _ _)
      | (with_reducible exact LeO.refl _)
      | (with_reducible exact LeO.none _)
      | (with_reducible refine LeO.ite ?_ ?_)
      | (with_reducible refine LeO.bind ?_ (fun _ => ?_))
      | exact ih0 _ _ _ _ _ _ _ _ _ _ _ _ _
      | exact LeO.none _
      | refine LeO.ite ?_ ?_
      | refine LeO.bind ?_ (fun _ => ?_)
theorem jobberref12_Ahead.mono : ∀ a0 a1 a2 a3 a4 a5 a6 a7 a8 a9 a10 a11 k, LeO (jobberref12_Ahead.f k a0 a1 a2 a3 a4 a5 a6 a7 a8 a9 a10 a11) (jobberref12_Ahead.f (k + 1) a0 a1 a2 a3 a4 a5 a6 a7 a8 a9 a10 a11) := by
  intro a0 a1 a2 a3 a4 a5 a6 a7 a8 a9 a10 a11 k
  have ih0 := jobberref12_Ahead.mono_l k
  unfold jobberref12_Ahead.f
  repeat' first
      | (with_reducible exact ih0 _ _ _ _ _ _ _ _ _ _ _ _ _)
      | (with_reducible exact LeO.refl _)
      | (with_reducible exact LeO.none _)
      | (with_reducible refine LeO.ite ?_ ?_)
      | (with_reducible refine LeO.bind ?_ (fun _ => ?_))
      | exact ih0 _ _ _ _ _ _ _ _ _ _ _ _ _
      | exact LeO.none _
      | refine LeO.ite ?_ ?_
      | refine LeO.bind ?_ (fun _ => ?_)
set_option maxHeartbeats 8000000 in
set_option maxRecDepth 100000 in
theorem jobberref12_Ahead.calls (k : Nat) (a0_0 : Int) (a0_1 : Int) (a0_2 : Int) (a0_3 : Int) (a0_4 : Int) (a0_5 : Int) (a1_0 : Int) (a1_1 : Int) (a1_2 : Int) (a1_3 : Int) (a1_4 : Int) (a1_5 : Int) (r : Bool) (w : World) (h : jobberref12_Ahead.f k a0_0 a0_1 a0_2 a0_3 a0_4 a0_5 a1_0 a1_1 a1_2 a1_3 a1_4 a1_5 = some r) :
    Calls Try.prog 65 #[.agg #[.int .u64 a0_0, .int .i64 a0_1, .int .i64 a0_2, .int .i64 a0_3, .int .i64 a0_4, .int .u64 a0_5], .agg #[.int .u64 a1_0, .int .i64 a1_1, .int .i64 a1_2, .int .i64 a1_3, .int .i64 a1_4, .int .u64 a1_5]] w fun e w' => e = .returned (.bool r) ∧ Below w.heap.size w w' := by
  have hu41 := Try.underlying41
  have HB := Aside0.mk (Below.refl w.heap.size w)
  have H : (if a0_2 = a1_2 then (if a0_2 < 1 then (jobberref12_Ahead.j0 k true a0_0 a0_1 a0_2 a0_3 a0_4 a0_5 a1_0 a1_1 a1_2 a1_3 a1_4 a1_5) else (jobberref12_Ahead.j0 k (decide (a0_2 > 2)) a0_0 a0_1 a0_2 a0_3 a0_4 a0_5 a1_0 a1_1 a1_2 a1_3 a1_4 a1_5)) else (jobberref12_Ahead.j0 k true a0_0 a0_1 a0_2 a0_3 a0_4 a0_5 a1_0 a1_1 a1_2 a1_3 a1_4 a1_5)) = some r := h
  clear h
  have HC3 := Aside0.mk H
  clear H
  go_enter Try.func65, Try.ntmps65
  go_upto_region 1 with (first | ((with_reducible refine gate_dst (N := 2) rfl ?_); refine box_event ?hg (N := 2) ?hd (cs := #[.int .u64 a0_0, .int .i64 a0_1, .int .i64 a0_2, .int .i64 a0_3, .int .i64 a0_4, .int .u64 a0_5]) (t := 41) ?hr ?_; (case hd => rfl); (case hg => rfl); (case hr => first | (go_simp; done) | (go_simp; rfl)); intro gb203 hg w4 hbox hb; have n0_ := Aside0.mk (below_step (by repeat (first | (with_reducible first | exact HB.out | apply below_alloc | apply pw_below_drewN | apply below_drew1) | exact HB.out)) hb); have n1_ := Aside0.mk (hbox); have n2_ := Aside0.mk ((by rw [hg]; exact (below_size (by repeat (first | (with_reducible first | exact HB.out | apply below_alloc | apply pw_below_drewN | apply below_drew1) | exact HB.out))) : w.heap.size ≤ gb203)); have n3_ := Aside0.mk ((by rw [hg]; exact (below_size (by repeat (first | (with_reducible first | exact HB.out | apply below_alloc | apply pw_below_drewN | apply below_drew1) | exact HB.out))) : w.heap.size ≤ gb203)); clear HB; have HB := n0_; have BK203 := n1_; have GW203 := n2_; have GE203 := n3_; clear n0_ n1_ n2_ n3_; clear hb hbox hg) | ((with_reducible refine gate_dst (N := 3) rfl ?_); refine box_event ?hg (N := 3) ?hd (cs := #[.int .u64 a1_0, .int .i64 a1_1, .int .i64 a1_2, .int .i64 a1_3, .int .i64 a1_4, .int .u64 a1_5]) (t := 41) ?hr ?_; (case hd => rfl); (case hg => rfl); (case hr => first | (go_simp; done) | (go_simp; rfl)); intro gb204 hg w5 hbox hb; have n0_ := Aside0.mk (blk_below (g := gb203) (o := .cells #[.int .u64 a0_0, .int .i64 a0_1, .int .i64 a0_2, .int .i64 a0_3, .int .i64 a0_4, .int .u64 a0_5] 41 (0, 0)) (by (with_reducible repeat (first | refine blk_drewN ?_ _ | refine blk_drew ?_ | refine blk_alloc ?_ _)); exact BK203.out) hb); have n1_ := Aside0.mk (below_step (by repeat (first | (with_reducible first | exact HB.out | apply below_alloc | apply pw_below_drewN | apply below_drew1 | refine below_set ?_ GE203.out) | exact HB.out)) hb); have n2_ := Aside0.mk (hbox); have n3_ := Aside0.mk ((by rw [hg]; exact (below_size (by repeat (first | (with_reducible first | exact HB.out | apply below_alloc | apply pw_below_drewN | apply below_drew1 | refine below_set ?_ GE203.out) | exact HB.out))) : w.heap.size ≤ gb204)); have n4_ := Aside0.mk ((by rw [hg]; exact (below_size (by repeat (first | (with_reducible first | exact HB.out | apply below_alloc | apply pw_below_drewN | apply below_drew1 | refine below_set ?_ GE203.out) | exact HB.out))) : w.heap.size ≤ gb204)); have n5_ := Aside0.mk ((by rw [hg]; exact Nat.ne_of_lt (blk_lt (g := gb203) (o := .cells #[.int .u64 a0_0, .int .i64 a0_1, .int .i64 a0_2, .int .i64 a0_3, .int .i64 a0_4, .int .u64 a0_5] 41 (0, 0)) (by (with_reducible repeat (first | refine blk_drewN ?_ _ | refine blk_drew ?_ | refine blk_alloc ?_ _)); exact BK203.out)) : gb203 ≠ gb204)); have n6_ := Aside0.mk ((by rw [hg]; exact Nat.ne_of_gt (blk_lt (g := gb203) (o := .cells #[.int .u64 a0_0, .int .i64 a0_1, .int .i64 a0_2, .int .i64 a0_3, .int .i64 a0_4, .int .u64 a0_5] 41 (0, 0)) (by (with_reducible repeat (first | refine blk_drewN ?_ _ | refine blk_drew ?_ | refine blk_alloc ?_ _)); exact BK203.out)) : gb204 ≠ gb203)); clear BK203; clear HB; have BK203 := n0_; have HB := n1_; have BK204 := n2_; have GW204 := n3_; have GE204 := n4_; have NB203_204 := n5_; have NB204_203 := n6_; clear n0_ n1_ n2_ n3_ n4_ n5_ n6_; clear hb hbox hg))
  (try simp only [Act.put, List.setIfInBounds_toArray, List.set_cons_zero, List.set_cons_succ])
  go_cut [19] (fun v19 wc => ∃ (kq : Nat) (x19_2 : Bool), v19 = .bool x19_2 ∧ Aside0 (jobberref12_Ahead.j0 kq x19_2 a0_0 a0_1 a0_2 a0_3 a0_4 a0_5 a1_0 a1_1 a1_2 a1_3 a1_4 a1_5 = some r) ∧ Aside0 (kq ≤ k) ∧ Aside0 (wc.heap[gb203]? = some (.cells #[.int .u64 a0_0, .int .i64 a0_1, .int .i64 a0_2, .int .i64 a0_3, .int .i64 a0_4, .int .u64 a0_5] 41 (0, 0))) ∧ Aside0 (wc.heap[gb204]? = some (.cells #[.int .u64 a1_0, .int .i64 a1_1, .int .i64 a1_2, .int .i64 a1_3, .int .i64 a1_4, .int .u64 a1_5] 41 (0, 0))) ∧ Aside0 (Below w.heap.size w wc))
  case first =>
    have H := HC3.out
    clear HC3
    by_cases c6 : a0_2 = a1_2
    · rw [if_pos c6] at H
      have c6b0 : (a0_2 == a1_2) = true := beq_iff_eq.mpr c6
      have c6b1 : (a0_2 != a1_2) = false := bne_eq_false_iff_eq.mpr c6
      clear c6
      (first | rw [c6b0] | (simp only [i64_w, i32_w]; rw [c6b0]) | skip)
      by_cases c7 : a0_2 < 1
      · rw [if_pos c7] at H
        have c7b0 : decide (a0_2 < 1) = true := decide_eq_true c7
        clear c7
        have H' := Aside0.mk H
        clear H
        have hnb8 := NB203_204.out
        have hnc8 := NB204_203.out
        have hcz9_0 : w5.cell? ⟨gb203, 0, none⟩ = some (.int .u64 a0_0) := (blk_cell BK203.out 0).trans rfl
        have hcz9_1 : w5.cell? ⟨gb203, 1, none⟩ = some (.int .i64 a0_1) := (blk_cell BK203.out 1).trans rfl
        have hcz9_2 : w5.cell? ⟨gb203, 2, none⟩ = some (.int .i64 a0_2) := (blk_cell BK203.out 2).trans rfl
        have hcz9_3 : w5.cell? ⟨gb203, 3, none⟩ = some (.int .i64 a0_3) := (blk_cell BK203.out 3).trans rfl
        have hcz9_4 : w5.cell? ⟨gb203, 4, none⟩ = some (.int .i64 a0_4) := (blk_cell BK203.out 4).trans rfl
        have hcz9_5 : w5.cell? ⟨gb203, 5, none⟩ = some (.int .u64 a0_5) := (blk_cell BK203.out 5).trans rfl
        have hfz9_0 := blk_frozen BK203.out 0
        have hfz9_1 := blk_frozen BK203.out 1
        have hfz9_2 := blk_frozen BK203.out 2
        have hfz9_3 := blk_frozen BK203.out 3
        have hfz9_4 := blk_frozen BK203.out 4
        have hfz9_5 := blk_frozen BK203.out 5
        have hcz10_0 : w5.cell? ⟨gb204, 0, none⟩ = some (.int .u64 a1_0) := (blk_cell BK204.out 0).trans rfl
        have hcz10_1 : w5.cell? ⟨gb204, 1, none⟩ = some (.int .i64 a1_1) := (blk_cell BK204.out 1).trans rfl
        have hcz10_2 : w5.cell? ⟨gb204, 2, none⟩ = some (.int .i64 a1_2) := (blk_cell BK204.out 2).trans rfl
        have hcz10_3 : w5.cell? ⟨gb204, 3, none⟩ = some (.int .i64 a1_3) := (blk_cell BK204.out 3).trans rfl
        have hcz10_4 : w5.cell? ⟨gb204, 4, none⟩ = some (.int .i64 a1_4) := (blk_cell BK204.out 4).trans rfl
        have hcz10_5 : w5.cell? ⟨gb204, 5, none⟩ = some (.int .u64 a1_5) := (blk_cell BK204.out 5).trans rfl
        have hfz10_0 := blk_frozen BK204.out 0
        have hfz10_1 := blk_frozen BK204.out 1
        have hfz10_2 := blk_frozen BK204.out 2
        have hfz10_3 := blk_frozen BK204.out 3
        have hfz10_4 := blk_frozen BK204.out 4
        have hfz10_5 := blk_frozen BK204.out 5
        go_wp2
        go_meet
        case rel => exact ⟨_, (true), (by first | rfl | (simp; done) | (simp [*]; done)), H', ⟨by first | omega | exact Nat.le_refl _⟩, ⟨by (with_reducible repeat (first | refine blk_drewN ?_ _ | refine blk_drew ?_ | refine blk_alloc ?_ _)); exact BK203.out⟩, ⟨by (with_reducible repeat (first | refine blk_drewN ?_ _ | refine blk_drew ?_ | refine blk_alloc ?_ _)); exact BK204.out⟩, ⟨by repeat (first | (with_reducible first | exact HB.out | apply below_alloc | apply pw_below_drewN | apply below_drew1 | refine below_set ?_ GE203.out | refine below_set ?_ GE204.out) | exact HB.out)⟩⟩
      · rw [if_neg c7] at H
        have c7b0 : decide (a0_2 < 1) = false := decide_eq_false c7
        clear c7
        have H' := Aside0.mk H
        clear H
        have hnb11 := NB203_204.out
        have hnc11 := NB204_203.out
        have hcz12_0 : w5.cell? ⟨gb203, 0, none⟩ = some (.int .u64 a0_0) := (blk_cell BK203.out 0).trans rfl
        have hcz12_1 : w5.cell? ⟨gb203, 1, none⟩ = some (.int .i64 a0_1) := (blk_cell BK203.out 1).trans rfl
        have hcz12_2 : w5.cell? ⟨gb203, 2, none⟩ = some (.int .i64 a0_2) := (blk_cell BK203.out 2).trans rfl
        have hcz12_3 : w5.cell? ⟨gb203, 3, none⟩ = some (.int .i64 a0_3) := (blk_cell BK203.out 3).trans rfl
        have hcz12_4 : w5.cell? ⟨gb203, 4, none⟩ = some (.int .i64 a0_4) := (blk_cell BK203.out 4).trans rfl
        have hcz12_5 : w5.cell? ⟨gb203, 5, none⟩ = some (.int .u64 a0_5) := (blk_cell BK203.out 5).trans rfl
        have hfz12_0 := blk_frozen BK203.out 0
        have hfz12_1 := blk_frozen BK203.out 1
        have hfz12_2 := blk_frozen BK203.out 2
        have hfz12_3 := blk_frozen BK203.out 3
        have hfz12_4 := blk_frozen BK203.out 4
        have hfz12_5 := blk_frozen BK203.out 5
        have hcz13_0 : w5.cell? ⟨gb204, 0, none⟩ = some (.int .u64 a1_0) := (blk_cell BK204.out 0).trans rfl
        have hcz13_1 : w5.cell? ⟨gb204, 1, none⟩ = some (.int .i64 a1_1) := (blk_cell BK204.out 1).trans rfl
        have hcz13_2 : w5.cell? ⟨gb204, 2, none⟩ = some (.int .i64 a1_2) := (blk_cell BK204.out 2).trans rfl
        have hcz13_3 : w5.cell? ⟨gb204, 3, none⟩ = some (.int .i64 a1_3) := (blk_cell BK204.out 3).trans rfl
        have hcz13_4 : w5.cell? ⟨gb204, 4, none⟩ = some (.int .i64 a1_4) := (blk_cell BK204.out 4).trans rfl
        have hcz13_5 : w5.cell? ⟨gb204, 5, none⟩ = some (.int .u64 a1_5) := (blk_cell BK204.out 5).trans rfl
        have hfz13_0 := blk_frozen BK204.out 0
        have hfz13_1 := blk_frozen BK204.out 1
        have hfz13_2 := blk_frozen BK204.out 2
        have hfz13_3 := blk_frozen BK204.out 3
        have hfz13_4 := blk_frozen BK204.out 4
        have hfz13_5 := blk_frozen BK204.out 5
        go_wp2
        go_meet
        case rel => exact ⟨_, (decide (a0_2 > 2)), (by first | rfl | (simp; done) | (simp [*]; done)), H', ⟨by first | omega | exact Nat.le_refl _⟩, ⟨by (with_reducible repeat (first | refine blk_drewN ?_ _ | refine blk_drew ?_ | refine blk_alloc ?_ _)); exact BK203.out⟩, ⟨by (with_reducible repeat (first | refine blk_drewN ?_ _ | refine blk_drew ?_ | refine blk_alloc ?_ _)); exact BK204.out⟩, ⟨by repeat (first | (with_reducible first | exact HB.out | apply below_alloc | apply pw_below_drewN | apply below_drew1 | refine below_set ?_ GE203.out | refine below_set ?_ GE204.out) | exact HB.out)⟩⟩
    · rw [if_neg c6] at H
      have c6b0 : (a0_2 == a1_2) = false := beq_eq_false_iff_ne.mpr c6
      have c6b1 : (a0_2 != a1_2) = true := bne_iff_ne.mpr c6
      (first | rw [c6b0] | (simp only [i64_w, i32_w]; rw [c6b0]) | skip)
      have H' := Aside0.mk H
      clear H
      have hnb14 := NB203_204.out
      have hnc14 := NB204_203.out
      have hcz15_0 : w5.cell? ⟨gb203, 0, none⟩ = some (.int .u64 a0_0) := (blk_cell BK203.out 0).trans rfl
      have hcz15_1 : w5.cell? ⟨gb203, 1, none⟩ = some (.int .i64 a0_1) := (blk_cell BK203.out 1).trans rfl
      have hcz15_2 : w5.cell? ⟨gb203, 2, none⟩ = some (.int .i64 a0_2) := (blk_cell BK203.out 2).trans rfl
      have hcz15_3 : w5.cell? ⟨gb203, 3, none⟩ = some (.int .i64 a0_3) := (blk_cell BK203.out 3).trans rfl
      have hcz15_4 : w5.cell? ⟨gb203, 4, none⟩ = some (.int .i64 a0_4) := (blk_cell BK203.out 4).trans rfl
      have hcz15_5 : w5.cell? ⟨gb203, 5, none⟩ = some (.int .u64 a0_5) := (blk_cell BK203.out 5).trans rfl
      have hfz15_0 := blk_frozen BK203.out 0
      have hfz15_1 := blk_frozen BK203.out 1
      have hfz15_2 := blk_frozen BK203.out 2
      have hfz15_3 := blk_frozen BK203.out 3
      have hfz15_4 := blk_frozen BK203.out 4
      have hfz15_5 := blk_frozen BK203.out 5
      have hcz16_0 : w5.cell? ⟨gb204, 0, none⟩ = some (.int .u64 a1_0) := (blk_cell BK204.out 0).trans rfl
      have hcz16_1 : w5.cell? ⟨gb204, 1, none⟩ = some (.int .i64 a1_1) := (blk_cell BK204.out 1).trans rfl
      have hcz16_2 : w5.cell? ⟨gb204, 2, none⟩ = some (.int .i64 a1_2) := (blk_cell BK204.out 2).trans rfl
      have hcz16_3 : w5.cell? ⟨gb204, 3, none⟩ = some (.int .i64 a1_3) := (blk_cell BK204.out 3).trans rfl
      have hcz16_4 : w5.cell? ⟨gb204, 4, none⟩ = some (.int .i64 a1_4) := (blk_cell BK204.out 4).trans rfl
      have hcz16_5 : w5.cell? ⟨gb204, 5, none⟩ = some (.int .u64 a1_5) := (blk_cell BK204.out 5).trans rfl
      have hfz16_0 := blk_frozen BK204.out 0
      have hfz16_1 := blk_frozen BK204.out 1
      have hfz16_2 := blk_frozen BK204.out 2
      have hfz16_3 := blk_frozen BK204.out 3
      have hfz16_4 := blk_frozen BK204.out 4
      have hfz16_5 := blk_frozen BK204.out 5
      go_wp2
      go_meet
      case rel => exact ⟨_, (true), (by first | rfl | (simp; done) | (simp [*]; done)), H', ⟨by first | omega | exact Nat.le_refl _⟩, ⟨by (with_reducible repeat (first | refine blk_drewN ?_ _ | refine blk_drew ?_ | refine blk_alloc ?_ _)); exact BK203.out⟩, ⟨by (with_reducible repeat (first | refine blk_drewN ?_ _ | refine blk_drew ?_ | refine blk_alloc ?_ _)); exact BK204.out⟩, ⟨by repeat (first | (with_reducible first | exact HB.out | apply below_alloc | apply pw_below_drewN | apply below_drew1 | refine below_set ?_ GE203.out | refine below_set ?_ GE204.out) | exact HB.out)⟩⟩
  case rest =>
    clear HC3
    try clear c1
    try clear p2
    try clear c6
    try clear c6b0
    try clear c6b1
    try clear c7
    try clear c7b0
    try clear c8
    try clear c11
    try clear c14
    try clear hcz10_0
    try clear hcz10_1
    try clear hcz10_2
    try clear hcz10_3
    try clear hcz10_4
    try clear hcz10_5
    try clear hcz12_0
    try clear hcz12_1
    try clear hcz12_2
    try clear hcz12_3
    try clear hcz12_4
    try clear hcz12_5
    try clear hcz13_0
    try clear hcz13_1
    try clear hcz13_2
    try clear hcz13_3
    try clear hcz13_4
    try clear hcz13_5
    try clear hcz15_0
    try clear hcz15_1
    try clear hcz15_2
    try clear hcz15_3
    try clear hcz15_4
    try clear hcz15_5
    try clear hcz16_0
    try clear hcz16_1
    try clear hcz16_2
    try clear hcz16_3
    try clear hcz16_4
    try clear hcz16_5
    try clear hcz9_0
    try clear hcz9_1
    try clear hcz9_2
    try clear hcz9_3
    try clear hcz9_4
    try clear hcz9_5
    try clear hfz10_0
    try clear hfz10_1
    try clear hfz10_2
    try clear hfz10_3
    try clear hfz10_4
    try clear hfz10_5
    try clear hfz12_0
    try clear hfz12_1
    try clear hfz12_2
    try clear hfz12_3
    try clear hfz12_4
    try clear hfz12_5
    try clear hfz13_0
    try clear hfz13_1
    try clear hfz13_2
    try clear hfz13_3
    try clear hfz13_4
    try clear hfz13_5
    try clear hfz15_0
    try clear hfz15_1
    try clear hfz15_2
    try clear hfz15_3
    try clear hfz15_4
    try clear hfz15_5
    try clear hfz16_0
    try clear hfz16_1
    try clear hfz16_2
    try clear hfz16_3
    try clear hfz16_4
    try clear hfz16_5
    try clear hfz9_0
    try clear hfz9_1
    try clear hfz9_2
    try clear hfz9_3
    try clear hfz9_4
    try clear hfz9_5
    obtain ⟨kq, x19_2, rfl, HA, HJ2, BK203, BK204, HB⟩ := hcut
    cases kq with
    | zero => exact absurd HA.out (by simp [jobberref12_Ahead.j0])
    | succ kj2 =>
      have H := HA.out
      clear HA
      simp only [jobberref12_Ahead.j0] at H
      by_cases c17 : x19_2 = true
      · subst c17
        have H1 : (some false) = some r := by rw [if_pos rfl] at H; exact H
        clear H
        have H := H1
        clear H1
        obtain rfl := Option.some.inj H
        go_wp2
        go_ret
        exact ⟨by first | rfl | (simp [errW_none, errW_some] <;> rfl) | (simp [*, errW_none, errW_some] <;> rfl), by repeat (first | (with_reducible first | exact HB.out | apply below_alloc | apply pw_below_drewN | apply below_drew1 | refine below_set ?_ GE203.out | refine below_set ?_ GE204.out) | exact HB.out)⟩
      · replace c17 := Bool.eq_false_iff.mpr c17
        subst c17
        have H1 : (if a0_3 = a1_3 then (if a0_5 = a1_5 then (some (decide (a0_0 < a1_0))) else (some (decide (a0_5 < a1_5)))) else ((jobberref12_Better.f a0_2 a0_3 a1_3).bind fun t205 => (some t205))) = some r := by rw [if_neg (show ¬ (false = true) by decide)] at H; exact H
        clear H
        have H := H1
        clear H1
        by_cases c18 : a0_3 = a1_3
        · rw [if_pos c18] at H
          have c18b0 : (a0_3 == a1_3) = true := beq_iff_eq.mpr c18
          have c18b1 : (a0_3 != a1_3) = false := bne_eq_false_iff_eq.mpr c18
          clear c18
          by_cases c19 : a0_5 = a1_5
          · rw [if_pos c19] at H
            have c19b0 : (a0_5 == a1_5) = true := beq_iff_eq.mpr c19
            have c19b1 : (a0_5 != a1_5) = false := bne_eq_false_iff_eq.mpr c19
            clear c19
            obtain rfl := Option.some.inj H
            have hnb20 := NB203_204.out
            have hnc20 := NB204_203.out
            have hcz21_0 : wc.cell? ⟨gb203, 0, none⟩ = some (.int .u64 a0_0) := (blk_cell BK203.out 0).trans rfl
            have hcz21_1 : wc.cell? ⟨gb203, 1, none⟩ = some (.int .i64 a0_1) := (blk_cell BK203.out 1).trans rfl
            have hcz21_2 : wc.cell? ⟨gb203, 2, none⟩ = some (.int .i64 a0_2) := (blk_cell BK203.out 2).trans rfl
            have hcz21_3 : wc.cell? ⟨gb203, 3, none⟩ = some (.int .i64 a0_3) := (blk_cell BK203.out 3).trans rfl
            have hcz21_4 : wc.cell? ⟨gb203, 4, none⟩ = some (.int .i64 a0_4) := (blk_cell BK203.out 4).trans rfl
            have hcz21_5 : wc.cell? ⟨gb203, 5, none⟩ = some (.int .u64 a0_5) := (blk_cell BK203.out 5).trans rfl
            have hfz21_0 := blk_frozen BK203.out 0
            have hfz21_1 := blk_frozen BK203.out 1
            have hfz21_2 := blk_frozen BK203.out 2
            have hfz21_3 := blk_frozen BK203.out 3
            have hfz21_4 := blk_frozen BK203.out 4
            have hfz21_5 := blk_frozen BK203.out 5
            have hcz22_0 : wc.cell? ⟨gb204, 0, none⟩ = some (.int .u64 a1_0) := (blk_cell BK204.out 0).trans rfl
            have hcz22_1 : wc.cell? ⟨gb204, 1, none⟩ = some (.int .i64 a1_1) := (blk_cell BK204.out 1).trans rfl
            have hcz22_2 : wc.cell? ⟨gb204, 2, none⟩ = some (.int .i64 a1_2) := (blk_cell BK204.out 2).trans rfl
            have hcz22_3 : wc.cell? ⟨gb204, 3, none⟩ = some (.int .i64 a1_3) := (blk_cell BK204.out 3).trans rfl
            have hcz22_4 : wc.cell? ⟨gb204, 4, none⟩ = some (.int .i64 a1_4) := (blk_cell BK204.out 4).trans rfl
            have hcz22_5 : wc.cell? ⟨gb204, 5, none⟩ = some (.int .u64 a1_5) := (blk_cell BK204.out 5).trans rfl
            have hfz22_0 := blk_frozen BK204.out 0
            have hfz22_1 := blk_frozen BK204.out 1
            have hfz22_2 := blk_frozen BK204.out 2
            have hfz22_3 := blk_frozen BK204.out 3
            have hfz22_4 := blk_frozen BK204.out 4
            have hfz22_5 := blk_frozen BK204.out 5
            go_wp2
            go_ret
            exact ⟨by first | rfl | (simp [errW_none, errW_some] <;> rfl) | (simp [*, errW_none, errW_some] <;> rfl), by repeat (first | (with_reducible first | exact HB.out | apply below_alloc | apply pw_below_drewN | apply below_drew1 | refine below_set ?_ GE203.out | refine below_set ?_ GE204.out) | exact HB.out)⟩
          · rw [if_neg c19] at H
            have c19b0 : (a0_5 == a1_5) = false := beq_eq_false_iff_ne.mpr c19
            have c19b1 : (a0_5 != a1_5) = true := bne_iff_ne.mpr c19
            obtain rfl := Option.some.inj H
            have hnb23 := NB203_204.out
            have hnc23 := NB204_203.out
            have hcz24_0 : wc.cell? ⟨gb203, 0, none⟩ = some (.int .u64 a0_0) := (blk_cell BK203.out 0).trans rfl
            have hcz24_1 : wc.cell? ⟨gb203, 1, none⟩ = some (.int .i64 a0_1) := (blk_cell BK203.out 1).trans rfl
            have hcz24_2 : wc.cell? ⟨gb203, 2, none⟩ = some (.int .i64 a0_2) := (blk_cell BK203.out 2).trans rfl
            have hcz24_3 : wc.cell? ⟨gb203, 3, none⟩ = some (.int .i64 a0_3) := (blk_cell BK203.out 3).trans rfl
            have hcz24_4 : wc.cell? ⟨gb203, 4, none⟩ = some (.int .i64 a0_4) := (blk_cell BK203.out 4).trans rfl
            have hcz24_5 : wc.cell? ⟨gb203, 5, none⟩ = some (.int .u64 a0_5) := (blk_cell BK203.out 5).trans rfl
            have hfz24_0 := blk_frozen BK203.out 0
            have hfz24_1 := blk_frozen BK203.out 1
            have hfz24_2 := blk_frozen BK203.out 2
            have hfz24_3 := blk_frozen BK203.out 3
            have hfz24_4 := blk_frozen BK203.out 4
            have hfz24_5 := blk_frozen BK203.out 5
            have hcz25_0 : wc.cell? ⟨gb204, 0, none⟩ = some (.int .u64 a1_0) := (blk_cell BK204.out 0).trans rfl
            have hcz25_1 : wc.cell? ⟨gb204, 1, none⟩ = some (.int .i64 a1_1) := (blk_cell BK204.out 1).trans rfl
            have hcz25_2 : wc.cell? ⟨gb204, 2, none⟩ = some (.int .i64 a1_2) := (blk_cell BK204.out 2).trans rfl
            have hcz25_3 : wc.cell? ⟨gb204, 3, none⟩ = some (.int .i64 a1_3) := (blk_cell BK204.out 3).trans rfl
            have hcz25_4 : wc.cell? ⟨gb204, 4, none⟩ = some (.int .i64 a1_4) := (blk_cell BK204.out 4).trans rfl
            have hcz25_5 : wc.cell? ⟨gb204, 5, none⟩ = some (.int .u64 a1_5) := (blk_cell BK204.out 5).trans rfl
            have hfz25_0 := blk_frozen BK204.out 0
            have hfz25_1 := blk_frozen BK204.out 1
            have hfz25_2 := blk_frozen BK204.out 2
            have hfz25_3 := blk_frozen BK204.out 3
            have hfz25_4 := blk_frozen BK204.out 4
            have hfz25_5 := blk_frozen BK204.out 5
            go_wp2
            go_ret
            exact ⟨by first | rfl | (simp [errW_none, errW_some] <;> rfl) | (simp [*, errW_none, errW_some] <;> rfl), by repeat (first | (with_reducible first | exact HB.out | apply below_alloc | apply pw_below_drewN | apply below_drew1 | refine below_set ?_ GE203.out | refine below_set ?_ GE204.out) | exact HB.out)⟩
        · rw [if_neg c18] at H
          have c18b0 : (a0_3 == a1_3) = false := beq_eq_false_iff_ne.mpr c18
          have c18b1 : (a0_3 != a1_3) = true := bne_iff_ne.mpr c18
          replace H := Option.bind_eq_some_iff.mp H
          obtain ⟨t205, A260, H⟩ := H
          replace H : (some t205) = some r := H
          have A26 := Aside0.mk A260
          clear A260
          obtain rfl := Option.some.inj H
          have hnb27 := NB203_204.out
          have hnc27 := NB204_203.out
          have hcz28_0 : wc.cell? ⟨gb203, 0, none⟩ = some (.int .u64 a0_0) := (blk_cell BK203.out 0).trans rfl
          have hcz28_1 : wc.cell? ⟨gb203, 1, none⟩ = some (.int .i64 a0_1) := (blk_cell BK203.out 1).trans rfl
          have hcz28_2 : wc.cell? ⟨gb203, 2, none⟩ = some (.int .i64 a0_2) := (blk_cell BK203.out 2).trans rfl
          have hcz28_3 : wc.cell? ⟨gb203, 3, none⟩ = some (.int .i64 a0_3) := (blk_cell BK203.out 3).trans rfl
          have hcz28_4 : wc.cell? ⟨gb203, 4, none⟩ = some (.int .i64 a0_4) := (blk_cell BK203.out 4).trans rfl
          have hcz28_5 : wc.cell? ⟨gb203, 5, none⟩ = some (.int .u64 a0_5) := (blk_cell BK203.out 5).trans rfl
          have hfz28_0 := blk_frozen BK203.out 0
          have hfz28_1 := blk_frozen BK203.out 1
          have hfz28_2 := blk_frozen BK203.out 2
          have hfz28_3 := blk_frozen BK203.out 3
          have hfz28_4 := blk_frozen BK203.out 4
          have hfz28_5 := blk_frozen BK203.out 5
          have hcz29_0 : wc.cell? ⟨gb204, 0, none⟩ = some (.int .u64 a1_0) := (blk_cell BK204.out 0).trans rfl
          have hcz29_1 : wc.cell? ⟨gb204, 1, none⟩ = some (.int .i64 a1_1) := (blk_cell BK204.out 1).trans rfl
          have hcz29_2 : wc.cell? ⟨gb204, 2, none⟩ = some (.int .i64 a1_2) := (blk_cell BK204.out 2).trans rfl
          have hcz29_3 : wc.cell? ⟨gb204, 3, none⟩ = some (.int .i64 a1_3) := (blk_cell BK204.out 3).trans rfl
          have hcz29_4 : wc.cell? ⟨gb204, 4, none⟩ = some (.int .i64 a1_4) := (blk_cell BK204.out 4).trans rfl
          have hcz29_5 : wc.cell? ⟨gb204, 5, none⟩ = some (.int .u64 a1_5) := (blk_cell BK204.out 5).trans rfl
          have hfz29_0 := blk_frozen BK204.out 0
          have hfz29_1 := blk_frozen BK204.out 1
          have hfz29_2 := blk_frozen BK204.out 2
          have hfz29_3 := blk_frozen BK204.out 3
          have hfz29_4 := blk_frozen BK204.out 4
          have hfz29_5 := blk_frozen BK204.out 5
          go_wp2_with (first | ((with_reducible refine gate_callee (f := 76) rfl ?_); refine goesL_ (some 31) rfl rfl Try.func76 (by kernel_rfl) rfl #[.int .i64 a0_2, .int .i64 a0_3, .int .i64 a1_3] rfl (by (try simp only [List.map_toArray, List.map_cons, List.map_nil]); first | done | rfl | (simp only [List.length_drop, List.length_take]; rfl)) ?_; (with_reducible refine (jobberref12_Better.calls a0_2 a0_3 a1_3 t205 _ A26.out).mono ?_); rintro e w' ⟨rfl, ⟨nd, rfl⟩⟩; refine ⟨_, rfl, ?_⟩))
          go_ret
          exact ⟨by first | rfl | (simp [errW_none, errW_some] <;> rfl) | (simp [*, errW_none, errW_some] <;> rfl), by repeat (first | (with_reducible first | exact HB.out | apply below_alloc | apply pw_below_drewN | apply below_drew1 | refine below_set ?_ GE203.out | refine below_set ?_ GE204.out) | exact HB.out)⟩
end Go.Proofs.Ytjjnbcaemognhaa.Cap
