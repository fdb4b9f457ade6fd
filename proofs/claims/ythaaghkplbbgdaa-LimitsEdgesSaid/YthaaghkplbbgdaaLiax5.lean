/- Printed by this session's wip/drive.py over the translation; some functions by hand. -/
import Derived.Test.YthaaghkplbbgdaaLiax0
import Derived.Test.YthaaghkplbbgdaaLiax1
import Derived.Test.YthaaghkplbbgdaaLiax2
import Derived.Test.YthaaghkplbbgdaaLiax3
import Derived.Test.YthaaghkplbbgdaaLiax4
namespace Go.Proofs.Ythaaghkplbbgdaa.Lia
open Go.RowKit Go.Proofs.YthaaghkplbbgdaaW.PrintWords Go.Proofs.YthaaghkplbbgdaaW.PrintLast Go.Proofs.YthaaghkplbbgdaaW.PrintMore
attribute [local go_sem] max2_int min2_int max_two min_two max_three min_three max_four min_four   -- for this text's walks alone
set_option linter.unusedVariables false
set_option linter.unusedSimpArgs false

/-! ### coin_Div: function 45 -/
def coin_Div.j0 : Nat → Int → Int → Int → Int → Bool → Option (Int × Int)
  | 0, _, _, _, _, _ => none
  | k + 1, x0, x1, x2, x3, x15 => if x15 = true then (some (0, 2)) else (if x2 = 0 then (some (0, 11)) else ((coin_times.f x0 x1).bind fun bt110 => ((coin_size.f x2).bind fun t113 => (if bt110.1 ≥ t113 then (some (0, 10)) else ((bits_Div64.f bt110.1 bt110.2.1 t113).bind fun bt115 => ((coin_away.f x3 (bt110.2.2 != (decide (x2 < 0))) bt115.2 t113 bt115.1).bind fun t117 => (if t117 = true then (if (IntKind.u64.wrap (bt115.1 + 1)) = 0 then (some (0, 10)) else ((coin_signed.f k (IntKind.u64.wrap (bt115.1 + 1)) (bt110.2.2 != (decide (x2 < 0)))).bind fun bt118 => (some (bt118.1, bt118.2)))) else ((coin_signed.f k bt115.1 (bt110.2.2 != (decide (x2 < 0)))).bind fun bt120 => (some (bt120.1, bt120.2))))))))))
def coin_Div.f (k : Nat) (a0 : Int) (a1 : Int) (a2 : Int) (a3 : Int) : Option (Int × Int) := if a3 < 1 then (coin_Div.j0 k a0 a1 a2 a3 true) else (coin_Div.j0 k a0 a1 a2 a3 (decide (a3 > 3)))
theorem coin_Div.mono_l : ∀ k, (∀ y0 y1 y2 y3 y4, LeO (coin_Div.j0 k y0 y1 y2 y3 y4) (coin_Div.j0 (k + 1) y0 y1 y2 y3 y4))
  | 0 => fun _ _ _ _ _ r h => by simp [coin_Div.j0] at h
  | k + 1 => by
    have ih0 := coin_Div.mono_l k
    · intro y0 y1 y2 y3 y4
      unfold coin_Div.j0
      repeat' first
      | (with_reducible exact ih0 _ _ _ _ _)
      | (with_reducible exact coin_signed.mono _ _ _)
      | (with_reducible exact LeO.refl _)
      | (with_reducible exact LeO.none _)
      | (with_reducible refine LeO.ite ?_ ?_)
      | (with_reducible refine LeO.bind ?_ (fun _ => ?_))
      | exact ih0 _ _ _ _ _
      | exact coin_signed.mono _ _ _
      | exact LeO.none _
      | refine LeO.ite ?_ ?_
      | refine LeO.bind ?_ (fun _ => ?_)
theorem coin_Div.mono : ∀ a0 a1 a2 a3 k, LeO (coin_Div.f k a0 a1 a2 a3) (coin_Div.f (k + 1) a0 a1 a2 a3) := by
  intro a0 a1 a2 a3 k
  have ih0 := coin_Div.mono_l k
  unfold coin_Div.f
  repeat' first
      | (with_reducible exact ih0 _ _ _ _ _)
      | (with_reducible exact coin_signed.mono _ _ _)
      | (with_reducible exact LeO.refl _)
      | (with_reducible exact LeO.none _)
      | (with_reducible refine LeO.ite ?_ ?_)
      | (with_reducible refine LeO.bind ?_ (fun _ => ?_))
      | exact ih0 _ _ _ _ _
      | exact coin_signed.mono _ _ _
      | exact LeO.none _
      | refine LeO.ite ?_ ?_
      | refine LeO.bind ?_ (fun _ => ?_)
set_option maxHeartbeats 8000000 in
set_option maxRecDepth 100000 in
theorem coin_Div.calls (k : Nat) (a0 : Int) (a1 : Int) (a2 : Int) (a3 : Int) (r1 : Int) (r2 : Int) (w : World) (h : coin_Div.f k a0 a1 a2 a3 = some (r1, r2)) :
    Calls Try.prog 45 #[.int .i64 a0, .int .i64 a1, .int .i64 a2, .int .i64 a3] w fun e w' => e = .returned (.tuple #[.int .i64 r1, .int .i64 r2]) ∧ Below w.heap.size w w' := by
  have hu79 := Try.underlying79
  have HB := Aside0.mk (Below.refl w.heap.size w)
  have H : (if a3 < 1 then (coin_Div.j0 k a0 a1 a2 a3 true) else (coin_Div.j0 k a0 a1 a2 a3 (decide (a3 > 3)))) = some (r1, r2) := h
  clear h
  have HC5 := Aside0.mk H
  clear H
  go_enter Try.func45, Try.ntmps45
  go_upto_region 1 with (fail)
  go_cut [15] (fun v15 wc => ∃ (kq : Nat) (x15_4 : Bool), v15 = .bool x15_4 ∧ Aside0 (coin_Div.j0 kq a0 a1 a2 a3 x15_4 = some (r1, r2)) ∧ Aside0 (kq ≤ k) ∧ Aside0 (Below w.heap.size w wc))
  case first =>
    have H := HC5.out
    clear HC5
    by_cases c6 : a3 < 1
    · rw [if_pos c6] at H
      have c6b0 : decide (a3 < 1) = true := decide_eq_true c6
      clear c6
      (first | rw [c6b0] | (simp only [i64_w, i32_w]; rw [c6b0]) | skip)
      have H' := Aside0.mk H
      clear H
      go_wp2
      go_meet
      case rel => exact ⟨_, (true), (by first | rfl | (simp; done) | (simp [*]; done)), H', ⟨by first | omega | exact Nat.le_refl _⟩, ⟨by repeat (first | (with_reducible first | exact HB.out | apply below_alloc | apply pw_below_drewN | apply below_drew1) | exact HB.out)⟩⟩
    · rw [if_neg c6] at H
      have c6b0 : decide (a3 < 1) = false := decide_eq_false c6
      clear c6
      (first | rw [c6b0] | (simp only [i64_w, i32_w]; rw [c6b0]) | skip)
      have H' := Aside0.mk H
      clear H
      go_wp2
      go_meet
      case rel => exact ⟨_, (decide (a3 > 3)), (by first | rfl | (simp; done) | (simp [*]; done)), H', ⟨by first | omega | exact Nat.le_refl _⟩, ⟨by repeat (first | (with_reducible first | exact HB.out | apply below_alloc | apply pw_below_drewN | apply below_drew1) | exact HB.out)⟩⟩
  case rest =>
    clear HC5
    try clear p2
    try clear c4
    try clear c6
    try clear c6b0
    obtain ⟨kq, x15_4, rfl, HA, HJ4, HB⟩ := hcut
    cases kq with
    | zero => exact absurd HA.out (by simp [coin_Div.j0])
    | succ kj4 =>
      have H := HA.out
      clear HA
      simp only [coin_Div.j0] at H
      by_cases c7 : x15_4 = true
      · subst c7
        have H1 : (some (0, 2)) = some (r1, r2) := by rw [if_pos rfl] at H; exact H
        clear H
        have H := H1
        clear H1
        simp only [Option.some.injEq, Prod.mk.injEq] at H
        obtain ⟨rfl, rfl⟩ := H
        go_wp2
        go_ret2
        exact ⟨by first | rfl | (simp [errW_none, errW_some] <;> rfl) | (simp [*, errW_none, errW_some] <;> rfl), by repeat (first | (with_reducible first | exact HB.out | apply below_alloc | apply pw_below_drewN | apply below_drew1) | exact HB.out)⟩
      · replace c7 := Bool.eq_false_iff.mpr c7
        subst c7
        have H1 : (if a2 = 0 then (some (0, 11)) else ((coin_times.f a0 a1).bind fun bt110 => ((coin_size.f a2).bind fun t113 => (if bt110.1 ≥ t113 then (some (0, 10)) else ((bits_Div64.f bt110.1 bt110.2.1 t113).bind fun bt115 => ((coin_away.f a3 (bt110.2.2 != (decide (a2 < 0))) bt115.2 t113 bt115.1).bind fun t117 => (if t117 = true then (if (IntKind.u64.wrap (bt115.1 + 1)) = 0 then (some (0, 10)) else ((coin_signed.f kj4 (IntKind.u64.wrap (bt115.1 + 1)) (bt110.2.2 != (decide (a2 < 0)))).bind fun bt118 => (some (bt118.1, bt118.2)))) else ((coin_signed.f kj4 bt115.1 (bt110.2.2 != (decide (a2 < 0)))).bind fun bt120 => (some (bt120.1, bt120.2)))))))))) = some (r1, r2) := by rw [if_neg (show ¬ (false = true) by decide)] at H; exact H
        clear H
        have H := H1
        clear H1
        by_cases c8 : a2 = 0
        · rw [if_pos c8] at H
          have c8b0 : (a2 == 0) = true := beq_iff_eq.mpr c8
          have c8b1 : (a2 != 0) = false := bne_eq_false_iff_eq.mpr c8
          clear c8
          simp only [Option.some.injEq, Prod.mk.injEq] at H
          obtain ⟨rfl, rfl⟩ := H
          go_wp2
          go_ret2
          exact ⟨by first | rfl | (simp [errW_none, errW_some] <;> rfl) | (simp [*, errW_none, errW_some] <;> rfl), by repeat (first | (with_reducible first | exact HB.out | apply below_alloc | apply pw_below_drewN | apply below_drew1) | exact HB.out)⟩
        · rw [if_neg c8] at H
          have c8b0 : (a2 == 0) = false := beq_eq_false_iff_ne.mpr c8
          have c8b1 : (a2 != 0) = true := bne_iff_ne.mpr c8
          replace H := Option.bind_eq_some_iff.mp H
          obtain ⟨⟨t110, t111, t112⟩, A90, H⟩ := H
          replace H : ((coin_size.f a2).bind fun t113 => (if t110 ≥ t113 then (some (0, 10)) else ((bits_Div64.f t110 t111 t113).bind fun bt115 => ((coin_away.f a3 (t112 != (decide (a2 < 0))) bt115.2 t113 bt115.1).bind fun t117 => (if t117 = true then (if (IntKind.u64.wrap (bt115.1 + 1)) = 0 then (some (0, 10)) else ((coin_signed.f kj4 (IntKind.u64.wrap (bt115.1 + 1)) (t112 != (decide (a2 < 0)))).bind fun bt118 => (some (bt118.1, bt118.2)))) else ((coin_signed.f kj4 bt115.1 (t112 != (decide (a2 < 0)))).bind fun bt120 => (some (bt120.1, bt120.2)))))))) = some (r1, r2) := H
          have A9 := Aside0.mk A90
          clear A90
          replace H := Option.bind_eq_some_iff.mp H
          obtain ⟨t113, A100, H⟩ := H
          replace H : (if t110 ≥ t113 then (some (0, 10)) else ((bits_Div64.f t110 t111 t113).bind fun bt115 => ((coin_away.f a3 (t112 != (decide (a2 < 0))) bt115.2 t113 bt115.1).bind fun t117 => (if t117 = true then (if (IntKind.u64.wrap (bt115.1 + 1)) = 0 then (some (0, 10)) else ((coin_signed.f kj4 (IntKind.u64.wrap (bt115.1 + 1)) (t112 != (decide (a2 < 0)))).bind fun bt118 => (some (bt118.1, bt118.2)))) else ((coin_signed.f kj4 bt115.1 (t112 != (decide (a2 < 0)))).bind fun bt120 => (some (bt120.1, bt120.2))))))) = some (r1, r2) := H
          have A10 := Aside0.mk A100
          clear A100
          by_cases c11 : t110 ≥ t113
          · rw [if_pos c11] at H
            have c11b0 : decide (t113 ≤ t110) = true := decide_eq_true c11
            clear c11
            simp only [Option.some.injEq, Prod.mk.injEq] at H
            obtain ⟨rfl, rfl⟩ := H
            go_wp2_with (first | ((with_reducible refine gate_callee (f := 52) rfl ?_); refine goesL_ (some 27) rfl rfl Try.func52 (by kernel_rfl) rfl #[.int .i64 a0, .int .i64 a1] rfl (by (try simp only [List.map_toArray, List.map_cons, List.map_nil]); first | done | rfl | (simp only [List.length_drop, List.length_take]; rfl)) ?_; (with_reducible refine (coin_times.calls a0 a1 t110 t111 t112 _ A9.out).mono ?_); rintro e w12 ⟨rfl, hb⟩; refine ⟨_, rfl, ?_⟩; have n0_ := Aside0.mk (below_step (by repeat (first | (with_reducible first | exact HB.out | apply below_alloc | apply pw_below_drewN | apply below_drew1) | exact HB.out)) hb); clear HB; have HB := n0_; clear n0_; (try clear hb); (try clear hb2); (try clear hk); (try clear hi)) | ((with_reducible refine gate_callee (f := 58) rfl ?_); refine goesL_ (some 29) rfl rfl Try.func58 (by kernel_rfl) rfl #[.int .i64 a2] rfl (by (try simp only [List.map_toArray, List.map_cons, List.map_nil]); first | done | rfl | (simp only [List.length_drop, List.length_take]; rfl)) ?_; (with_reducible refine (coin_size.calls a2 t113 _ A10.out).mono ?_); rintro e w' ⟨rfl, ⟨nd, rfl⟩⟩; refine ⟨_, rfl, ?_⟩; (try (rw [drewN_self w12]; generalize hq_ : World.drewN w12 _ = w12; have n0_ : Aside0 (Below w.heap.size w w12) := ⟨by rw [← hq_]; exact (by repeat (first | (with_reducible first | exact HB.out | apply below_alloc | apply pw_below_drewN | apply below_drew1) | exact HB.out))⟩; clear HB hq_; have HB := n0_; clear n0_))) | ((with_reducible refine gate_dst (N := 10) rfl ?_); refine box_event ?hg (N := 10) ?hd (cs := #[.int .u64 0, .int .u64 0, .bool false]) (t := 79) ?hr ?_; (case hd => rfl); (case hg => rfl); (case hr => first | (go_simp; done) | (go_simp; rfl)); intro gb114 hg w13 hbox hb; have n0_ := Aside0.mk (below_step (by repeat (first | (with_reducible first | exact HB.out | apply below_alloc | apply pw_below_drewN | apply below_drew1) | exact HB.out)) hb); have n1_ := Aside0.mk (hbox); have n2_ := Aside0.mk ((by rw [hg]; exact (below_size (by repeat (first | (with_reducible first | exact HB.out | apply below_alloc | apply pw_below_drewN | apply below_drew1) | exact HB.out))) : w.heap.size ≤ gb114)); have n3_ := Aside0.mk ((by rw [hg]; exact (below_size (by repeat (first | (with_reducible first | exact HB.out | apply below_alloc | apply pw_below_drewN | apply below_drew1) | exact HB.out))) : w.heap.size ≤ gb114)); clear HB; have HB := n0_; have BK114 := n1_; have GW114 := n2_; have GE114 := n3_; clear n0_ n1_ n2_ n3_; clear hb hbox hg; have hcz14_0 : w13.cell? ⟨gb114, 0, none⟩ = some (.int .u64 0) := (blk_cell BK114.out 0).trans rfl; have hcz14_1 : w13.cell? ⟨gb114, 1, none⟩ = some (.int .u64 0) := (blk_cell BK114.out 1).trans rfl; have hcz14_2 : w13.cell? ⟨gb114, 2, none⟩ = some (.bool false) := (blk_cell BK114.out 2).trans rfl; have hfz14_0 := blk_frozen BK114.out 0; have hfz14_1 := blk_frozen BK114.out 1; have hfz14_2 := blk_frozen BK114.out 2))
            go_ret2
            exact ⟨by first | rfl | (simp [errW_none, errW_some] <;> rfl) | (simp [*, errW_none, errW_some] <;> rfl), by repeat (first | (with_reducible first | exact HB.out | apply below_alloc | apply pw_below_drewN | apply below_drew1 | refine below_set ?_ GE114.out) | exact HB.out)⟩
          · rw [if_neg c11] at H
            have c11b0 : decide (t113 ≤ t110) = false := decide_eq_false c11
            clear c11
            replace H := Option.bind_eq_some_iff.mp H
            obtain ⟨⟨t115, t116⟩, A150, H⟩ := H
            replace H : ((coin_away.f a3 (t112 != (decide (a2 < 0))) t116 t113 t115).bind fun t117 => (if t117 = true then (if (IntKind.u64.wrap (t115 + 1)) = 0 then (some (0, 10)) else ((coin_signed.f kj4 (IntKind.u64.wrap (t115 + 1)) (t112 != (decide (a2 < 0)))).bind fun bt118 => (some (bt118.1, bt118.2)))) else ((coin_signed.f kj4 t115 (t112 != (decide (a2 < 0)))).bind fun bt120 => (some (bt120.1, bt120.2))))) = some (r1, r2) := H
            have A15 := Aside0.mk A150
            clear A150
            replace H := Option.bind_eq_some_iff.mp H
            obtain ⟨t117, A160, H⟩ := H
            replace H : (if t117 = true then (if (IntKind.u64.wrap (t115 + 1)) = 0 then (some (0, 10)) else ((coin_signed.f kj4 (IntKind.u64.wrap (t115 + 1)) (t112 != (decide (a2 < 0)))).bind fun bt118 => (some (bt118.1, bt118.2)))) else ((coin_signed.f kj4 t115 (t112 != (decide (a2 < 0)))).bind fun bt120 => (some (bt120.1, bt120.2)))) = some (r1, r2) := H
            have A16 := Aside0.mk A160
            clear A160
            by_cases c17 : t117 = true
            · subst c17
              have H1 : (if (IntKind.u64.wrap (t115 + 1)) = 0 then (some (0, 10)) else ((coin_signed.f kj4 (IntKind.u64.wrap (t115 + 1)) (t112 != (decide (a2 < 0)))).bind fun bt118 => (some (bt118.1, bt118.2)))) = some (r1, r2) := by rw [if_pos rfl] at H; exact H
              clear H
              have H := H1
              clear H1
              by_cases c18 : (IntKind.u64.wrap (t115 + 1)) = 0
              · rw [if_pos c18] at H
                have c18b0 : ((IntKind.u64.wrap (t115 + 1)) == 0) = true := beq_iff_eq.mpr c18
                have c18b1 : ((IntKind.u64.wrap (t115 + 1)) != 0) = false := bne_eq_false_iff_eq.mpr c18
                clear c18
                simp only [Option.some.injEq, Prod.mk.injEq] at H
                obtain ⟨rfl, rfl⟩ := H
                go_wp2_with (first | ((with_reducible refine gate_callee (f := 52) rfl ?_); refine goesL_ (some 27) rfl rfl Try.func52 (by kernel_rfl) rfl #[.int .i64 a0, .int .i64 a1] rfl (by (try simp only [List.map_toArray, List.map_cons, List.map_nil]); first | done | rfl | (simp only [List.length_drop, List.length_take]; rfl)) ?_; (with_reducible refine (coin_times.calls a0 a1 t110 t111 t112 _ A9.out).mono ?_); rintro e w19 ⟨rfl, hb⟩; refine ⟨_, rfl, ?_⟩; have n0_ := Aside0.mk (below_step (by repeat (first | (with_reducible first | exact HB.out | apply below_alloc | apply pw_below_drewN | apply below_drew1) | exact HB.out)) hb); clear HB; have HB := n0_; clear n0_; (try clear hb); (try clear hb2); (try clear hk); (try clear hi)) | ((with_reducible refine gate_callee (f := 58) rfl ?_); refine goesL_ (some 29) rfl rfl Try.func58 (by kernel_rfl) rfl #[.int .i64 a2] rfl (by (try simp only [List.map_toArray, List.map_cons, List.map_nil]); first | done | rfl | (simp only [List.length_drop, List.length_take]; rfl)) ?_; (with_reducible refine (coin_size.calls a2 t113 _ A10.out).mono ?_); rintro e w' ⟨rfl, ⟨nd, rfl⟩⟩; refine ⟨_, rfl, ?_⟩; (try (rw [drewN_self w19]; generalize hq_ : World.drewN w19 _ = w19; have n0_ : Aside0 (Below w.heap.size w w19) := ⟨by rw [← hq_]; exact (by repeat (first | (with_reducible first | exact HB.out | apply below_alloc | apply pw_below_drewN | apply below_drew1) | exact HB.out))⟩; clear HB hq_; have HB := n0_; clear n0_))) | ((with_reducible refine gate_dst (N := 10) rfl ?_); refine box_event ?hg (N := 10) ?hd (cs := #[.int .u64 0, .int .u64 0, .bool false]) (t := 79) ?hr ?_; (case hd => rfl); (case hg => rfl); (case hr => first | (go_simp; done) | (go_simp; rfl)); intro gb114 hg w20 hbox hb; have n0_ := Aside0.mk (below_step (by repeat (first | (with_reducible first | exact HB.out | apply below_alloc | apply pw_below_drewN | apply below_drew1) | exact HB.out)) hb); have n1_ := Aside0.mk (hbox); have n2_ := Aside0.mk ((by rw [hg]; exact (below_size (by repeat (first | (with_reducible first | exact HB.out | apply below_alloc | apply pw_below_drewN | apply below_drew1) | exact HB.out))) : w.heap.size ≤ gb114)); have n3_ := Aside0.mk ((by rw [hg]; exact (below_size (by repeat (first | (with_reducible first | exact HB.out | apply below_alloc | apply pw_below_drewN | apply below_drew1) | exact HB.out))) : w.heap.size ≤ gb114)); clear HB; have HB := n0_; have BK114 := n1_; have GW114 := n2_; have GE114 := n3_; clear n0_ n1_ n2_ n3_; clear hb hbox hg; have hcz21_0 : w20.cell? ⟨gb114, 0, none⟩ = some (.int .u64 0) := (blk_cell BK114.out 0).trans rfl; have hcz21_1 : w20.cell? ⟨gb114, 1, none⟩ = some (.int .u64 0) := (blk_cell BK114.out 1).trans rfl; have hcz21_2 : w20.cell? ⟨gb114, 2, none⟩ = some (.bool false) := (blk_cell BK114.out 2).trans rfl; have hfz21_0 := blk_frozen BK114.out 0; have hfz21_1 := blk_frozen BK114.out 1; have hfz21_2 := blk_frozen BK114.out 2) | ((with_reducible refine gate_callee (f := 59) rfl ?_); refine goesL_ (some 40) rfl rfl Try.func59 (by kernel_rfl) rfl #[.int .u64 t110, .int .u64 t111, .int .u64 t113] rfl (by (try simp only [List.map_toArray, List.map_cons, List.map_nil]); first | done | rfl | (simp only [List.length_drop, List.length_take]; rfl)) ?_; (with_reducible refine (bits_Div64.calls t110 t111 t113 t115 t116 _ A15.out).mono ?_); rintro e w22 ⟨rfl, hb⟩; refine ⟨_, rfl, ?_⟩; have n0_ := Aside0.mk (blk_below (g := gb114) (o := .cells #[.int .u64 t110, .int .u64 t111, .bool t112] 79 (0, 0)) (by (with_reducible repeat (first | refine blk_drewN ?_ _ | refine blk_drew ?_ | refine blk_alloc ?_ _)); refine blk_put (cs := #[.int .u64 t110, .int .u64 t111, .bool false]) ?_ 2 _ rfl; (with_reducible repeat (first | refine blk_drewN ?_ _ | refine blk_drew ?_ | refine blk_alloc ?_ _)); refine blk_put (cs := #[.int .u64 t110, .int .u64 0, .bool false]) ?_ 1 _ rfl; (with_reducible repeat (first | refine blk_drewN ?_ _ | refine blk_drew ?_ | refine blk_alloc ?_ _)); refine blk_put (cs := #[.int .u64 0, .int .u64 0, .bool false]) ?_ 0 _ rfl; (with_reducible repeat (first | refine blk_drewN ?_ _ | refine blk_drew ?_ | refine blk_alloc ?_ _)); exact BK114.out) hb); have n1_ := Aside0.mk (below_step (by repeat (first | (with_reducible first | exact HB.out | apply below_alloc | apply pw_below_drewN | apply below_drew1 | refine below_set ?_ GE114.out) | exact HB.out)) hb); clear BK114; clear HB; have BK114 := n0_; have HB := n1_; clear n0_ n1_; (try clear hb); (try clear hb2); (try clear hk); (try clear hi); have hcz23_0 : w22.cell? ⟨gb114, 0, none⟩ = some (.int .u64 t110) := (blk_cell BK114.out 0).trans rfl; have hcz23_1 : w22.cell? ⟨gb114, 1, none⟩ = some (.int .u64 t111) := (blk_cell BK114.out 1).trans rfl; have hcz23_2 : w22.cell? ⟨gb114, 2, none⟩ = some (.bool t112) := (blk_cell BK114.out 2).trans rfl; have hfz23_0 := blk_frozen BK114.out 0; have hfz23_1 := blk_frozen BK114.out 1; have hfz23_2 := blk_frozen BK114.out 2) | ((with_reducible refine gate_callee (f := 60) rfl ?_); refine goesL_ (some 53) rfl rfl Try.func60 (by kernel_rfl) rfl #[.int .i64 a3, .bool (t112 != (decide (a2 < 0))), .int .u64 t116, .int .u64 t113, .int .u64 t115] rfl (by (try simp only [List.map_toArray, List.map_cons, List.map_nil]); first | done | rfl | (simp only [List.length_drop, List.length_take]; rfl)) ?_; (with_reducible refine (coin_away.calls a3 (t112 != (decide (a2 < 0))) t116 t113 t115 true _ A16.out).mono ?_); rintro e w24 ⟨rfl, hb⟩; refine ⟨_, rfl, ?_⟩; have n0_ := Aside0.mk (blk_below (g := gb114) (o := .cells #[.int .u64 t110, .int .u64 t111, .bool t112] 79 (0, 0)) (by (with_reducible repeat (first | refine blk_drewN ?_ _ | refine blk_drew ?_ | refine blk_alloc ?_ _)); exact BK114.out) hb); have n1_ := Aside0.mk (below_step (by repeat (first | (with_reducible first | exact HB.out | apply below_alloc | apply pw_below_drewN | apply below_drew1 | refine below_set ?_ GE114.out) | exact HB.out)) hb); clear BK114; clear HB; have BK114 := n0_; have HB := n1_; clear n0_ n1_; (try clear hb); (try clear hb2); (try clear hk); (try clear hi)))
                go_ret2
                exact ⟨by first | rfl | (simp [errW_none, errW_some] <;> rfl) | (simp [*, errW_none, errW_some] <;> rfl), by repeat (first | (with_reducible first | exact HB.out | apply below_alloc | apply pw_below_drewN | apply below_drew1 | refine below_set ?_ GE114.out) | exact HB.out)⟩
              · rw [if_neg c18] at H
                have c18b0 : ((IntKind.u64.wrap (t115 + 1)) == 0) = false := beq_eq_false_iff_ne.mpr c18
                have c18b1 : ((IntKind.u64.wrap (t115 + 1)) != 0) = true := bne_iff_ne.mpr c18
                replace H := Option.bind_eq_some_iff.mp H
                obtain ⟨⟨t118, t119⟩, A250, H⟩ := H
                replace H : (some (t118, t119)) = some (r1, r2) := H
                have A25 := Aside0.mk A250
                clear A250
                simp only [Option.some.injEq, Prod.mk.injEq] at H
                obtain ⟨rfl, rfl⟩ := H
                go_wp2_with (first | ((with_reducible refine gate_callee (f := 52) rfl ?_); refine goesL_ (some 27) rfl rfl Try.func52 (by kernel_rfl) rfl #[.int .i64 a0, .int .i64 a1] rfl (by (try simp only [List.map_toArray, List.map_cons, List.map_nil]); first | done | rfl | (simp only [List.length_drop, List.length_take]; rfl)) ?_; (with_reducible refine (coin_times.calls a0 a1 t110 t111 t112 _ A9.out).mono ?_); rintro e w26 ⟨rfl, hb⟩; refine ⟨_, rfl, ?_⟩; have n0_ := Aside0.mk (below_step (by repeat (first | (with_reducible first | exact HB.out | apply below_alloc | apply pw_below_drewN | apply below_drew1) | exact HB.out)) hb); clear HB; have HB := n0_; clear n0_; (try clear hb); (try clear hb2); (try clear hk); (try clear hi)) | ((with_reducible refine gate_callee (f := 58) rfl ?_); refine goesL_ (some 29) rfl rfl Try.func58 (by kernel_rfl) rfl #[.int .i64 a2] rfl (by (try simp only [List.map_toArray, List.map_cons, List.map_nil]); first | done | rfl | (simp only [List.length_drop, List.length_take]; rfl)) ?_; (with_reducible refine (coin_size.calls a2 t113 _ A10.out).mono ?_); rintro e w' ⟨rfl, ⟨nd, rfl⟩⟩; refine ⟨_, rfl, ?_⟩; (try (rw [drewN_self w26]; generalize hq_ : World.drewN w26 _ = w26; have n0_ : Aside0 (Below w.heap.size w w26) := ⟨by rw [← hq_]; exact (by repeat (first | (with_reducible first | exact HB.out | apply below_alloc | apply pw_below_drewN | apply below_drew1) | exact HB.out))⟩; clear HB hq_; have HB := n0_; clear n0_))) | ((with_reducible refine gate_dst (N := 10) rfl ?_); refine box_event ?hg (N := 10) ?hd (cs := #[.int .u64 0, .int .u64 0, .bool false]) (t := 79) ?hr ?_; (case hd => rfl); (case hg => rfl); (case hr => first | (go_simp; done) | (go_simp; rfl)); intro gb114 hg w27 hbox hb; have n0_ := Aside0.mk (below_step (by repeat (first | (with_reducible first | exact HB.out | apply below_alloc | apply pw_below_drewN | apply below_drew1) | exact HB.out)) hb); have n1_ := Aside0.mk (hbox); have n2_ := Aside0.mk ((by rw [hg]; exact (below_size (by repeat (first | (with_reducible first | exact HB.out | apply below_alloc | apply pw_below_drewN | apply below_drew1) | exact HB.out))) : w.heap.size ≤ gb114)); have n3_ := Aside0.mk ((by rw [hg]; exact (below_size (by repeat (first | (with_reducible first | exact HB.out | apply below_alloc | apply pw_below_drewN | apply below_drew1) | exact HB.out))) : w.heap.size ≤ gb114)); clear HB; have HB := n0_; have BK114 := n1_; have GW114 := n2_; have GE114 := n3_; clear n0_ n1_ n2_ n3_; clear hb hbox hg; have hcz28_0 : w27.cell? ⟨gb114, 0, none⟩ = some (.int .u64 0) := (blk_cell BK114.out 0).trans rfl; have hcz28_1 : w27.cell? ⟨gb114, 1, none⟩ = some (.int .u64 0) := (blk_cell BK114.out 1).trans rfl; have hcz28_2 : w27.cell? ⟨gb114, 2, none⟩ = some (.bool false) := (blk_cell BK114.out 2).trans rfl; have hfz28_0 := blk_frozen BK114.out 0; have hfz28_1 := blk_frozen BK114.out 1; have hfz28_2 := blk_frozen BK114.out 2) | ((with_reducible refine gate_callee (f := 59) rfl ?_); refine goesL_ (some 40) rfl rfl Try.func59 (by kernel_rfl) rfl #[.int .u64 t110, .int .u64 t111, .int .u64 t113] rfl (by (try simp only [List.map_toArray, List.map_cons, List.map_nil]); first | done | rfl | (simp only [List.length_drop, List.length_take]; rfl)) ?_; (with_reducible refine (bits_Div64.calls t110 t111 t113 t115 t116 _ A15.out).mono ?_); rintro e w29 ⟨rfl, hb⟩; refine ⟨_, rfl, ?_⟩; have n0_ := Aside0.mk (blk_below (g := gb114) (o := .cells #[.int .u64 t110, .int .u64 t111, .bool t112] 79 (0, 0)) (by (with_reducible repeat (first | refine blk_drewN ?_ _ | refine blk_drew ?_ | refine blk_alloc ?_ _)); refine blk_put (cs := #[.int .u64 t110, .int .u64 t111, .bool false]) ?_ 2 _ rfl; (with_reducible repeat (first | refine blk_drewN ?_ _ | refine blk_drew ?_ | refine blk_alloc ?_ _)); refine blk_put (cs := #[.int .u64 t110, .int .u64 0, .bool false]) ?_ 1 _ rfl; (with_reducible repeat (first | refine blk_drewN ?_ _ | refine blk_drew ?_ | refine blk_alloc ?_ _)); refine blk_put (cs := #[.int .u64 0, .int .u64 0, .bool false]) ?_ 0 _ rfl; (with_reducible repeat (first | refine blk_drewN ?_ _ | refine blk_drew ?_ | refine blk_alloc ?_ _)); exact BK114.out) hb); have n1_ := Aside0.mk (below_step (by repeat (first | (with_reducible first | exact HB.out | apply below_alloc | apply pw_below_drewN | apply below_drew1 | refine below_set ?_ GE114.out) | exact HB.out)) hb); clear BK114; clear HB; have BK114 := n0_; have HB := n1_; clear n0_ n1_; (try clear hb); (try clear hb2); (try clear hk); (try clear hi); have hcz30_0 : w29.cell? ⟨gb114, 0, none⟩ = some (.int .u64 t110) := (blk_cell BK114.out 0).trans rfl; have hcz30_1 : w29.cell? ⟨gb114, 1, none⟩ = some (.int .u64 t111) := (blk_cell BK114.out 1).trans rfl; have hcz30_2 : w29.cell? ⟨gb114, 2, none⟩ = some (.bool t112) := (blk_cell BK114.out 2).trans rfl; have hfz30_0 := blk_frozen BK114.out 0; have hfz30_1 := blk_frozen BK114.out 1; have hfz30_2 := blk_frozen BK114.out 2) | ((with_reducible refine gate_callee (f := 60) rfl ?_); refine goesL_ (some 53) rfl rfl Try.func60 (by kernel_rfl) rfl #[.int .i64 a3, .bool (t112 != (decide (a2 < 0))), .int .u64 t116, .int .u64 t113, .int .u64 t115] rfl (by (try simp only [List.map_toArray, List.map_cons, List.map_nil]); first | done | rfl | (simp only [List.length_drop, List.length_take]; rfl)) ?_; (with_reducible refine (coin_away.calls a3 (t112 != (decide (a2 < 0))) t116 t113 t115 true _ A16.out).mono ?_); rintro e w31 ⟨rfl, hb⟩; refine ⟨_, rfl, ?_⟩; have n0_ := Aside0.mk (blk_below (g := gb114) (o := .cells #[.int .u64 t110, .int .u64 t111, .bool t112] 79 (0, 0)) (by (with_reducible repeat (first | refine blk_drewN ?_ _ | refine blk_drew ?_ | refine blk_alloc ?_ _)); exact BK114.out) hb); have n1_ := Aside0.mk (below_step (by repeat (first | (with_reducible first | exact HB.out | apply below_alloc | apply pw_below_drewN | apply below_drew1 | refine below_set ?_ GE114.out) | exact HB.out)) hb); clear BK114; clear HB; have BK114 := n0_; have HB := n1_; clear n0_ n1_; (try clear hb); (try clear hb2); (try clear hk); (try clear hi)) | ((with_reducible refine gate_callee (f := 61) rfl ?_); refine goesL_ (some 60) rfl rfl Try.func61 (by kernel_rfl) rfl #[.int .u64 (IntKind.u64.wrap (t115 + 1)), .bool (t112 != (decide (a2 < 0)))] rfl (by (try simp only [List.map_toArray, List.map_cons, List.map_nil]); first | done | rfl | (simp only [List.length_drop, List.length_take]; rfl)) ?_; (with_reducible refine (coin_signed.calls kj4 (IntKind.u64.wrap (t115 + 1)) (t112 != (decide (a2 < 0))) t118 t119 _ A25.out).mono ?_); rintro e w' ⟨rfl, ⟨nd, rfl⟩⟩; refine ⟨_, rfl, ?_⟩))
                go_ret2
                exact ⟨by first | rfl | (simp [errW_none, errW_some] <;> rfl) | (simp [*, errW_none, errW_some] <;> rfl), by repeat (first | (with_reducible first | exact HB.out | apply below_alloc | apply pw_below_drewN | apply below_drew1 | refine below_set ?_ GE114.out) | exact HB.out)⟩
            · replace c17 := Bool.eq_false_iff.mpr c17
              subst c17
              have H1 : ((coin_signed.f kj4 t115 (t112 != (decide (a2 < 0)))).bind fun bt120 => (some (bt120.1, bt120.2))) = some (r1, r2) := by rw [if_neg (show ¬ (false = true) by decide)] at H; exact H
              clear H
              have H := H1
              clear H1
              replace H := Option.bind_eq_some_iff.mp H
              obtain ⟨⟨t120, t121⟩, A320, H⟩ := H
              replace H : (some (t120, t121)) = some (r1, r2) := H
              have A32 := Aside0.mk A320
              clear A320
              simp only [Option.some.injEq, Prod.mk.injEq] at H
              obtain ⟨rfl, rfl⟩ := H
              go_wp2_with (first | ((with_reducible refine gate_callee (f := 52) rfl ?_); refine goesL_ (some 27) rfl rfl Try.func52 (by kernel_rfl) rfl #[.int .i64 a0, .int .i64 a1] rfl (by (try simp only [List.map_toArray, List.map_cons, List.map_nil]); first | done | rfl | (simp only [List.length_drop, List.length_take]; rfl)) ?_; (with_reducible refine (coin_times.calls a0 a1 t110 t111 t112 _ A9.out).mono ?_); rintro e w33 ⟨rfl, hb⟩; refine ⟨_, rfl, ?_⟩; have n0_ := Aside0.mk (below_step (by repeat (first | (with_reducible first | exact HB.out | apply below_alloc | apply pw_below_drewN | apply below_drew1) | exact HB.out)) hb); clear HB; have HB := n0_; clear n0_; (try clear hb); (try clear hb2); (try clear hk); (try clear hi)) | ((with_reducible refine gate_callee (f := 58) rfl ?_); refine goesL_ (some 29) rfl rfl Try.func58 (by kernel_rfl) rfl #[.int .i64 a2] rfl (by (try simp only [List.map_toArray, List.map_cons, List.map_nil]); first | done | rfl | (simp only [List.length_drop, List.length_take]; rfl)) ?_; (with_reducible refine (coin_size.calls a2 t113 _ A10.out).mono ?_); rintro e w' ⟨rfl, ⟨nd, rfl⟩⟩; refine ⟨_, rfl, ?_⟩; (try (rw [drewN_self w33]; generalize hq_ : World.drewN w33 _ = w33; have n0_ : Aside0 (Below w.heap.size w w33) := ⟨by rw [← hq_]; exact (by repeat (first | (with_reducible first | exact HB.out | apply below_alloc | apply pw_below_drewN | apply below_drew1) | exact HB.out))⟩; clear HB hq_; have HB := n0_; clear n0_))) | ((with_reducible refine gate_dst (N := 10) rfl ?_); refine box_event ?hg (N := 10) ?hd (cs := #[.int .u64 0, .int .u64 0, .bool false]) (t := 79) ?hr ?_; (case hd => rfl); (case hg => rfl); (case hr => first | (go_simp; done) | (go_simp; rfl)); intro gb114 hg w34 hbox hb; have n0_ := Aside0.mk (below_step (by repeat (first | (with_reducible first | exact HB.out | apply below_alloc | apply pw_below_drewN | apply below_drew1) | exact HB.out)) hb); have n1_ := Aside0.mk (hbox); have n2_ := Aside0.mk ((by rw [hg]; exact (below_size (by repeat (first | (with_reducible first | exact HB.out | apply below_alloc | apply pw_below_drewN | apply below_drew1) | exact HB.out))) : w.heap.size ≤ gb114)); have n3_ := Aside0.mk ((by rw [hg]; exact (below_size (by repeat (first | (with_reducible first | exact HB.out | apply below_alloc | apply pw_below_drewN | apply below_drew1) | exact HB.out))) : w.heap.size ≤ gb114)); clear HB; have HB := n0_; have BK114 := n1_; have GW114 := n2_; have GE114 := n3_; clear n0_ n1_ n2_ n3_; clear hb hbox hg; have hcz35_0 : w34.cell? ⟨gb114, 0, none⟩ = some (.int .u64 0) := (blk_cell BK114.out 0).trans rfl; have hcz35_1 : w34.cell? ⟨gb114, 1, none⟩ = some (.int .u64 0) := (blk_cell BK114.out 1).trans rfl; have hcz35_2 : w34.cell? ⟨gb114, 2, none⟩ = some (.bool false) := (blk_cell BK114.out 2).trans rfl; have hfz35_0 := blk_frozen BK114.out 0; have hfz35_1 := blk_frozen BK114.out 1; have hfz35_2 := blk_frozen BK114.out 2) | ((with_reducible refine gate_callee (f := 59) rfl ?_); refine goesL_ (some 40) rfl rfl Try.func59 (by kernel_rfl) rfl #[.int .u64 t110, .int .u64 t111, .int .u64 t113] rfl (by (try simp only [List.map_toArray, List.map_cons, List.map_nil]); first | done | rfl | (simp only [List.length_drop, List.length_take]; rfl)) ?_; (with_reducible refine (bits_Div64.calls t110 t111 t113 t115 t116 _ A15.out).mono ?_); rintro e w36 ⟨rfl, hb⟩; refine ⟨_, rfl, ?_⟩; have n0_ := Aside0.mk (blk_below (g := gb114) (o := .cells #[.int .u64 t110, .int .u64 t111, .bool t112] 79 (0, 0)) (by (with_reducible repeat (first | refine blk_drewN ?_ _ | refine blk_drew ?_ | refine blk_alloc ?_ _)); refine blk_put (cs := #[.int .u64 t110, .int .u64 t111, .bool false]) ?_ 2 _ rfl; (with_reducible repeat (first | refine blk_drewN ?_ _ | refine blk_drew ?_ | refine blk_alloc ?_ _)); refine blk_put (cs := #[.int .u64 t110, .int .u64 0, .bool false]) ?_ 1 _ rfl; (with_reducible repeat (first | refine blk_drewN ?_ _ | refine blk_drew ?_ | refine blk_alloc ?_ _)); refine blk_put (cs := #[.int .u64 0, .int .u64 0, .bool false]) ?_ 0 _ rfl; (with_reducible repeat (first | refine blk_drewN ?_ _ | refine blk_drew ?_ | refine blk_alloc ?_ _)); exact BK114.out) hb); have n1_ := Aside0.mk (below_step (by repeat (first | (with_reducible first | exact HB.out | apply below_alloc | apply pw_below_drewN | apply below_drew1 | refine below_set ?_ GE114.out) | exact HB.out)) hb); clear BK114; clear HB; have BK114 := n0_; have HB := n1_; clear n0_ n1_; (try clear hb); (try clear hb2); (try clear hk); (try clear hi); have hcz37_0 : w36.cell? ⟨gb114, 0, none⟩ = some (.int .u64 t110) := (blk_cell BK114.out 0).trans rfl; have hcz37_1 : w36.cell? ⟨gb114, 1, none⟩ = some (.int .u64 t111) := (blk_cell BK114.out 1).trans rfl; have hcz37_2 : w36.cell? ⟨gb114, 2, none⟩ = some (.bool t112) := (blk_cell BK114.out 2).trans rfl; have hfz37_0 := blk_frozen BK114.out 0; have hfz37_1 := blk_frozen BK114.out 1; have hfz37_2 := blk_frozen BK114.out 2) | ((with_reducible refine gate_callee (f := 60) rfl ?_); refine goesL_ (some 53) rfl rfl Try.func60 (by kernel_rfl) rfl #[.int .i64 a3, .bool (t112 != (decide (a2 < 0))), .int .u64 t116, .int .u64 t113, .int .u64 t115] rfl (by (try simp only [List.map_toArray, List.map_cons, List.map_nil]); first | done | rfl | (simp only [List.length_drop, List.length_take]; rfl)) ?_; (with_reducible refine (coin_away.calls a3 (t112 != (decide (a2 < 0))) t116 t113 t115 false _ A16.out).mono ?_); rintro e w38 ⟨rfl, hb⟩; refine ⟨_, rfl, ?_⟩; have n0_ := Aside0.mk (blk_below (g := gb114) (o := .cells #[.int .u64 t110, .int .u64 t111, .bool t112] 79 (0, 0)) (by (with_reducible repeat (first | refine blk_drewN ?_ _ | refine blk_drew ?_ | refine blk_alloc ?_ _)); exact BK114.out) hb); have n1_ := Aside0.mk (below_step (by repeat (first | (with_reducible first | exact HB.out | apply below_alloc | apply pw_below_drewN | apply below_drew1 | refine below_set ?_ GE114.out) | exact HB.out)) hb); clear BK114; clear HB; have BK114 := n0_; have HB := n1_; clear n0_ n1_; (try clear hb); (try clear hb2); (try clear hk); (try clear hi)) | ((with_reducible refine gate_callee (f := 61) rfl ?_); refine goesL_ (some 60) rfl rfl Try.func61 (by kernel_rfl) rfl #[.int .u64 t115, .bool (t112 != (decide (a2 < 0)))] rfl (by (try simp only [List.map_toArray, List.map_cons, List.map_nil]); first | done | rfl | (simp only [List.length_drop, List.length_take]; rfl)) ?_; (with_reducible refine (coin_signed.calls kj4 t115 (t112 != (decide (a2 < 0))) t120 t121 _ A32.out).mono ?_); rintro e w' ⟨rfl, ⟨nd, rfl⟩⟩; refine ⟨_, rfl, ?_⟩))
              go_ret2
              exact ⟨by first | rfl | (simp [errW_none, errW_some] <;> rfl) | (simp [*, errW_none, errW_some] <;> rfl), by repeat (first | (with_reducible first | exact HB.out | apply below_alloc | apply pw_below_drewN | apply below_drew1 | refine below_set ?_ GE114.out) | exact HB.out)⟩

/-! ### limits_Edges: function 19 -/
def limits_Edges.f (k : Nat) (a0 : Int) (a1 : Int) : Option (Int × Int) := (limits_may.f a0 a1).bind fun t122 => (if t122 = true then (if a0 = 0 then (some (1, 1099511627776)) else (if a1 = 0 then (some (1, 1099511627776)) else ((coin_Div.f k a0 a1 1000000 1).bind fun bt123 => (some (mx (wrap64 (a0 - bt123.1)) 1, mn (wrap64 (a0 + bt123.1)) 1099511627776))))) else (some (0, 0)))
theorem limits_Edges.mono : ∀ a0 a1 k, LeO (limits_Edges.f k a0 a1) (limits_Edges.f (k + 1) a0 a1) := by
  intro a0 a1 k
  unfold limits_Edges.f
  repeat' first
      | (with_reducible exact coin_Div.mono _ _ _ _ _)
      | (with_reducible exact LeO.refl _)
      | (with_reducible exact LeO.none _)
      | (with_reducible refine LeO.ite ?_ ?_)
      | (with_reducible refine LeO.bind ?_ (fun _ => ?_))
      | exact coin_Div.mono _ _ _ _ _
      | exact LeO.none _
      | refine LeO.ite ?_ ?_
      | refine LeO.bind ?_ (fun _ => ?_)
set_option maxHeartbeats 8000000 in
set_option maxRecDepth 100000 in
theorem limits_Edges.calls (k : Nat) (a0 : Int) (a1 : Int) (r1 : Int) (r2 : Int) (w : World) (h : limits_Edges.f k a0 a1 = some (r1, r2)) :
    Calls Try.prog 19 #[.int .i64 a0, .int .i64 a1] w fun e w' => e = .returned (.tuple #[.int .i64 r1, .int .i64 r2]) ∧ Below w.heap.size w w' := by
  have HB := Aside0.mk (Below.refl w.heap.size w)
  have H : ((limits_may.f a0 a1).bind fun t122 => (if t122 = true then (if a0 = 0 then (some (1, 1099511627776)) else (if a1 = 0 then (some (1, 1099511627776)) else ((coin_Div.f k a0 a1 1000000 1).bind fun bt123 => (some (mx (wrap64 (a0 - bt123.1)) 1, mn (wrap64 (a0 + bt123.1)) 1099511627776))))) else (some (0, 0)))) = some (r1, r2) := h
  clear h
  replace H := Option.bind_eq_some_iff.mp H
  obtain ⟨t122, A30, H⟩ := H
  replace H : (if t122 = true then (if a0 = 0 then (some (1, 1099511627776)) else (if a1 = 0 then (some (1, 1099511627776)) else ((coin_Div.f k a0 a1 1000000 1).bind fun bt123 => (some (mx (wrap64 (a0 - bt123.1)) 1, mn (wrap64 (a0 + bt123.1)) 1099511627776))))) else (some (0, 0))) = some (r1, r2) := H
  have A3 := Aside0.mk A30
  clear A30
  by_cases c4 : t122 = true
  · subst c4
    have H1 : (if a0 = 0 then (some (1, 1099511627776)) else (if a1 = 0 then (some (1, 1099511627776)) else ((coin_Div.f k a0 a1 1000000 1).bind fun bt123 => (some (mx (wrap64 (a0 - bt123.1)) 1, mn (wrap64 (a0 + bt123.1)) 1099511627776))))) = some (r1, r2) := by rw [if_pos rfl] at H; exact H
    clear H
    have H := H1
    clear H1
    by_cases c5 : a0 = 0
    · rw [if_pos c5] at H
      have c5b0 : (a0 == 0) = true := beq_iff_eq.mpr c5
      have c5b1 : (a0 != 0) = false := bne_eq_false_iff_eq.mpr c5
      clear c5
      simp only [Option.some.injEq, Prod.mk.injEq] at H
      obtain ⟨rfl, rfl⟩ := H
      go_enter Try.func19, Try.ntmps19
      go_wp2_with (first | ((with_reducible refine gate_callee (f := 40) rfl ?_); refine goesL_ (some 11) rfl rfl Try.func40 (by kernel_rfl) rfl #[.int .i64 a0, .int .i64 a1] rfl (by (try simp only [List.map_toArray, List.map_cons, List.map_nil]); first | done | rfl | (simp only [List.length_drop, List.length_take]; rfl)) ?_; (with_reducible refine (limits_may.calls a0 a1 true _ A3.out).mono ?_); rintro e w6 ⟨rfl, hb⟩; refine ⟨_, rfl, ?_⟩; have n0_ := Aside0.mk (below_step (by repeat (first | (with_reducible first | exact HB.out | apply below_alloc | apply pw_below_drewN | apply below_drew1) | exact HB.out)) hb); clear HB; have HB := n0_; clear n0_; (try clear hb); (try clear hb2); (try clear hk); (try clear hi)))
      go_ret2
      exact ⟨by first | rfl | (simp [errW_none, errW_some] <;> rfl) | (simp [*, errW_none, errW_some] <;> rfl), by repeat (first | (with_reducible first | exact HB.out | apply below_alloc | apply pw_below_drewN | apply below_drew1) | exact HB.out)⟩
    · rw [if_neg c5] at H
      have c5b0 : (a0 == 0) = false := beq_eq_false_iff_ne.mpr c5
      have c5b1 : (a0 != 0) = true := bne_iff_ne.mpr c5
      by_cases c7 : a1 = 0
      · rw [if_pos c7] at H
        have c7b0 : (a1 == 0) = true := beq_iff_eq.mpr c7
        have c7b1 : (a1 != 0) = false := bne_eq_false_iff_eq.mpr c7
        clear c7
        simp only [Option.some.injEq, Prod.mk.injEq] at H
        obtain ⟨rfl, rfl⟩ := H
        go_enter Try.func19, Try.ntmps19
        go_wp2_with (first | ((with_reducible refine gate_callee (f := 40) rfl ?_); refine goesL_ (some 11) rfl rfl Try.func40 (by kernel_rfl) rfl #[.int .i64 a0, .int .i64 a1] rfl (by (try simp only [List.map_toArray, List.map_cons, List.map_nil]); first | done | rfl | (simp only [List.length_drop, List.length_take]; rfl)) ?_; (with_reducible refine (limits_may.calls a0 a1 true _ A3.out).mono ?_); rintro e w8 ⟨rfl, hb⟩; refine ⟨_, rfl, ?_⟩; have n0_ := Aside0.mk (below_step (by repeat (first | (with_reducible first | exact HB.out | apply below_alloc | apply pw_below_drewN | apply below_drew1) | exact HB.out)) hb); clear HB; have HB := n0_; clear n0_; (try clear hb); (try clear hb2); (try clear hk); (try clear hi)))
        go_ret2
        exact ⟨by first | rfl | (simp [errW_none, errW_some] <;> rfl) | (simp [*, errW_none, errW_some] <;> rfl), by repeat (first | (with_reducible first | exact HB.out | apply below_alloc | apply pw_below_drewN | apply below_drew1) | exact HB.out)⟩
      · rw [if_neg c7] at H
        have c7b0 : (a1 == 0) = false := beq_eq_false_iff_ne.mpr c7
        have c7b1 : (a1 != 0) = true := bne_iff_ne.mpr c7
        replace H := Option.bind_eq_some_iff.mp H
        obtain ⟨⟨t123, t124⟩, A90, H⟩ := H
        replace H : (some (mx (wrap64 (a0 - t123)) 1, mn (wrap64 (a0 + t123)) 1099511627776)) = some (r1, r2) := H
        have A9 := Aside0.mk A90
        clear A90
        obtain ⟨ji10, hji10⟩ : ∃ j_ : Int, (mx (wrap64 (a0 - t123)) 1) = j_ := ⟨_, rfl⟩
        replace H : (some (ji10, mn (wrap64 (a0 + t123)) 1099511627776)) = some (r1, r2) := by first | (rw [hji10] at H; exact H) | (simp only [hji10] at H ⊢; exact H)
        (try rw [hji10] at A3)
        (try rw [hji10] at A9)
        (try (have hji10l : 1 ≤ ji10 := by (rw [← hji10]; unfold mx; (repeat' split) <;> omega)))
        (try (have hji10m : 0 ≤ ji10 := by omega))
        have hji10_ : (if (wrap64 (a0 - t123)) < 1 then 1 else (wrap64 (a0 - t123))) = ji10 := hji10
        obtain ⟨ji11, hji11⟩ : ∃ j_ : Int, (mn (wrap64 (a0 + t123)) 1099511627776) = j_ := ⟨_, rfl⟩
        replace H : (some (ji10, ji11)) = some (r1, r2) := by first | (rw [hji11] at H; exact H) | (simp only [hji11] at H ⊢; exact H)
        (try rw [hji11] at A3)
        (try rw [hji11] at A9)
        (try (have hji11h : ji11 ≤ 1099511627776 := by (rw [← hji11]; unfold mn; (repeat' split) <;> omega)))
        (try (have hji11g : ji11 ≤ 64 := by omega))
        have hji11_ : (if 1099511627776 < (wrap64 (a0 + t123)) then 1099511627776 else (wrap64 (a0 + t123))) = ji11 := hji11
        simp only [Option.some.injEq, Prod.mk.injEq] at H
        obtain ⟨rfl, rfl⟩ := H
        go_enter Try.func19, Try.ntmps19
        go_wp2_with (first | ((with_reducible refine gate_callee (f := 40) rfl ?_); refine goesL_ (some 11) rfl rfl Try.func40 (by kernel_rfl) rfl #[.int .i64 a0, .int .i64 a1] rfl (by (try simp only [List.map_toArray, List.map_cons, List.map_nil]); first | done | rfl | (simp only [List.length_drop, List.length_take]; rfl)) ?_; (with_reducible refine (limits_may.calls a0 a1 true _ A3.out).mono ?_); rintro e w12 ⟨rfl, hb⟩; refine ⟨_, rfl, ?_⟩; have n0_ := Aside0.mk (below_step (by repeat (first | (with_reducible first | exact HB.out | apply below_alloc | apply pw_below_drewN | apply below_drew1) | exact HB.out)) hb); clear HB; have HB := n0_; clear n0_; (try clear hb); (try clear hb2); (try clear hk); (try clear hi)) | ((with_reducible refine gate_callee (f := 45) rfl ?_); refine goesL_ (some 23) rfl rfl Try.func45 (by kernel_rfl) rfl #[.int .i64 a0, .int .i64 a1, .int .i64 1000000, .int .i64 1] rfl (by (try simp only [List.map_toArray, List.map_cons, List.map_nil]); first | done | rfl | (simp only [List.length_drop, List.length_take]; rfl)) ?_; (with_reducible refine (coin_Div.calls k a0 a1 1000000 1 t123 t124 _ A9.out).mono ?_); rintro e w13 ⟨rfl, hb⟩; refine ⟨_, rfl, ?_⟩; have n0_ := Aside0.mk (below_step (by repeat (first | (with_reducible first | exact HB.out | apply below_alloc | apply pw_below_drewN | apply below_drew1) | exact HB.out)) hb); clear HB; have HB := n0_; clear n0_; (try clear hb); (try clear hb2); (try clear hk); (try clear hi)))
        go_ret2
        exact ⟨by first | rfl | (simp [errW_none, errW_some] <;> rfl) | (simp only [← hji10, ← hji11]; first | rfl | (simp [errW_none, errW_some] <;> rfl)) | (simp [*, errW_none, errW_some] <;> rfl), by repeat (first | (with_reducible first | exact HB.out | apply below_alloc | apply pw_below_drewN | apply below_drew1) | exact HB.out)⟩
  · replace c4 := Bool.eq_false_iff.mpr c4
    subst c4
    have H1 : (some (0, 0)) = some (r1, r2) := by rw [if_neg (show ¬ (false = true) by decide)] at H; exact H
    clear H
    have H := H1
    clear H1
    simp only [Option.some.injEq, Prod.mk.injEq] at H
    obtain ⟨rfl, rfl⟩ := H
    go_enter Try.func19, Try.ntmps19
    go_wp2_with (first | ((with_reducible refine gate_callee (f := 40) rfl ?_); refine goesL_ (some 11) rfl rfl Try.func40 (by kernel_rfl) rfl #[.int .i64 a0, .int .i64 a1] rfl (by (try simp only [List.map_toArray, List.map_cons, List.map_nil]); first | done | rfl | (simp only [List.length_drop, List.length_take]; rfl)) ?_; (with_reducible refine (limits_may.calls a0 a1 false _ A3.out).mono ?_); rintro e w14 ⟨rfl, hb⟩; refine ⟨_, rfl, ?_⟩; have n0_ := Aside0.mk (below_step (by repeat (first | (with_reducible first | exact HB.out | apply below_alloc | apply pw_below_drewN | apply below_drew1) | exact HB.out)) hb); clear HB; have HB := n0_; clear n0_; (try clear hb); (try clear hb2); (try clear hk); (try clear hi)))
    go_ret2
    exact ⟨by first | rfl | (simp [errW_none, errW_some] <;> rfl) | (simp [*, errW_none, errW_some] <;> rfl), by repeat (first | (with_reducible first | exact HB.out | apply below_alloc | apply pw_below_drewN | apply below_drew1) | exact HB.out)⟩

/-! ### jobberlaw07_lives: function 18 -/
def jobberlaw07_lives.f (k : Nat)  : Option (Bool) := (limits_Edges.f k 1000 50000).bind fun bt125 => (if bt125.1 = 950 then (if bt125.2 = 1050 then ((limits_Band.f 1000 949 50000).bind fun t127 => (if t127 = 42 then ((limits_Lot.f k 10 30).bind fun t128 => (if t128 = 0 then ((limits_Trim.f 10 39).bind fun t129 => (some (t129 == 30))) else (some false))) else (some false))) else (some false)) else (some false))
theorem jobberlaw07_lives.mono : ∀ k, LeO (jobberlaw07_lives.f k ) (jobberlaw07_lives.f (k + 1) ) := by
  intro  k
  unfold jobberlaw07_lives.f
  repeat' first
      | (with_reducible exact limits_Edges.mono _ _ _)
      | (with_reducible exact limits_Lot.mono _ _ _)
      | (with_reducible exact LeO.refl _)
      | (with_reducible exact LeO.none _)
      | (with_reducible refine LeO.ite ?_ ?_)
      | (with_reducible refine LeO.bind ?_ (fun _ => ?_))
      | exact limits_Edges.mono _ _ _
      | exact limits_Lot.mono _ _ _
      | exact LeO.none _
      | refine LeO.ite ?_ ?_
      | refine LeO.bind ?_ (fun _ => ?_)
set_option maxHeartbeats 8000000 in
set_option maxRecDepth 100000 in
theorem jobberlaw07_lives.calls (k : Nat)  (r : Bool) (w : World) (h : jobberlaw07_lives.f k  = some r) :
    Calls Try.prog 18 #[] w fun e w' => e = .returned (.bool r) ∧ Below w.heap.size w w' := by
  have HB := Aside0.mk (Below.refl w.heap.size w)
  have H : ((limits_Edges.f k 1000 50000).bind fun bt125 => (if bt125.1 = 950 then (if bt125.2 = 1050 then ((limits_Band.f 1000 949 50000).bind fun t127 => (if t127 = 42 then ((limits_Lot.f k 10 30).bind fun t128 => (if t128 = 0 then ((limits_Trim.f 10 39).bind fun t129 => (some (t129 == 30))) else (some false))) else (some false))) else (some false)) else (some false))) = some r := h
  clear h
  replace H := Option.bind_eq_some_iff.mp H
  obtain ⟨⟨t125, t126⟩, A10, H⟩ := H
  replace H : (if t125 = 950 then (if t126 = 1050 then ((limits_Band.f 1000 949 50000).bind fun t127 => (if t127 = 42 then ((limits_Lot.f k 10 30).bind fun t128 => (if t128 = 0 then ((limits_Trim.f 10 39).bind fun t129 => (some (t129 == 30))) else (some false))) else (some false))) else (some false)) else (some false)) = some r := H
  have A1 := Aside0.mk A10
  clear A10
  by_cases c2 : t125 = 950
  · rw [if_pos c2] at H
    have c2b0 : (t125 == 950) = true := beq_iff_eq.mpr c2
    have c2b1 : (t125 != 950) = false := bne_eq_false_iff_eq.mpr c2
    clear c2
    by_cases c3 : t126 = 1050
    · rw [if_pos c3] at H
      have c3b0 : (t126 == 1050) = true := beq_iff_eq.mpr c3
      have c3b1 : (t126 != 1050) = false := bne_eq_false_iff_eq.mpr c3
      clear c3
      replace H := Option.bind_eq_some_iff.mp H
      obtain ⟨t127, A40, H⟩ := H
      replace H : (if t127 = 42 then ((limits_Lot.f k 10 30).bind fun t128 => (if t128 = 0 then ((limits_Trim.f 10 39).bind fun t129 => (some (t129 == 30))) else (some false))) else (some false)) = some r := H
      have A4 := Aside0.mk A40
      clear A40
      by_cases c5 : t127 = 42
      · rw [if_pos c5] at H
        have c5b0 : (t127 == 42) = true := beq_iff_eq.mpr c5
        have c5b1 : (t127 != 42) = false := bne_eq_false_iff_eq.mpr c5
        clear c5
        replace H := Option.bind_eq_some_iff.mp H
        obtain ⟨t128, A60, H⟩ := H
        replace H : (if t128 = 0 then ((limits_Trim.f 10 39).bind fun t129 => (some (t129 == 30))) else (some false)) = some r := H
        have A6 := Aside0.mk A60
        clear A60
        by_cases c7 : t128 = 0
        · rw [if_pos c7] at H
          have c7b0 : (t128 == 0) = true := beq_iff_eq.mpr c7
          have c7b1 : (t128 != 0) = false := bne_eq_false_iff_eq.mpr c7
          clear c7
          replace H := Option.bind_eq_some_iff.mp H
          obtain ⟨t129, A80, H⟩ := H
          replace H : (some (t129 == 30)) = some r := H
          have A8 := Aside0.mk A80
          clear A80
          obtain rfl := Option.some.inj H
          go_enter Try.func18, Try.ntmps18
          go_wp2_with (first | ((with_reducible refine gate_callee (f := 19) rfl ?_); refine goesL_ (some 4) rfl rfl Try.func19 (by kernel_rfl) rfl #[.int .i64 1000, .int .i64 50000] rfl (by (try simp only [List.map_toArray, List.map_cons, List.map_nil]); first | done | rfl | (simp only [List.length_drop, List.length_take]; rfl)) ?_; (with_reducible refine (limits_Edges.calls k 1000 50000 t125 t126 _ A1.out).mono ?_); rintro e w9 ⟨rfl, hb⟩; refine ⟨_, rfl, ?_⟩; have n0_ := Aside0.mk (below_step (by repeat (first | (with_reducible first | exact HB.out | apply below_alloc | apply pw_below_drewN | apply below_drew1) | exact HB.out)) hb); clear HB; have HB := n0_; clear n0_; (try clear hb); (try clear hb2); (try clear hk); (try clear hi)) | (go_at_call 16; (with_reducible refine (limits_Band.calls 1000 949 50000 t127 _ A4.out).mono ?_); rintro e w10 ⟨rfl, hb⟩; have n0_ := Aside0.mk (below_step (by repeat (first | (with_reducible first | exact HB.out | apply below_alloc | apply pw_below_drewN | apply below_drew1) | exact HB.out)) hb); clear HB; have HB := n0_; clear n0_; (try clear hb); (try clear hb2); (try clear hk); (try clear hi)) | (go_at_call 12; (with_reducible refine (limits_Lot.calls k 10 30 t128 _ A6.out).mono ?_); rintro e w' ⟨rfl, ⟨nd, rfl⟩⟩) | (go_at_call 14; (with_reducible refine (limits_Trim.calls 10 39 t129 _ A8.out).mono ?_); rintro e w11 ⟨rfl, hb⟩; have n0_ := Aside0.mk (below_step (by repeat (first | (with_reducible first | exact HB.out | apply below_alloc | apply pw_below_drewN | apply below_drew1) | exact HB.out)) hb); clear HB; have HB := n0_; clear n0_; (try clear hb); (try clear hb2); (try clear hk); (try clear hi)))
          go_ret
          exact ⟨by first | rfl | (simp [errW_none, errW_some] <;> rfl) | (simp [*, errW_none, errW_some] <;> rfl), by repeat (first | (with_reducible first | exact HB.out | apply below_alloc | apply pw_below_drewN | apply below_drew1) | exact HB.out)⟩
        · rw [if_neg c7] at H
          have c7b0 : (t128 == 0) = false := beq_eq_false_iff_ne.mpr c7
          have c7b1 : (t128 != 0) = true := bne_iff_ne.mpr c7
          obtain rfl := Option.some.inj H
          go_enter Try.func18, Try.ntmps18
          go_wp2_with (first | ((with_reducible refine gate_callee (f := 19) rfl ?_); refine goesL_ (some 4) rfl rfl Try.func19 (by kernel_rfl) rfl #[.int .i64 1000, .int .i64 50000] rfl (by (try simp only [List.map_toArray, List.map_cons, List.map_nil]); first | done | rfl | (simp only [List.length_drop, List.length_take]; rfl)) ?_; (with_reducible refine (limits_Edges.calls k 1000 50000 t125 t126 _ A1.out).mono ?_); rintro e w12 ⟨rfl, hb⟩; refine ⟨_, rfl, ?_⟩; have n0_ := Aside0.mk (below_step (by repeat (first | (with_reducible first | exact HB.out | apply below_alloc | apply pw_below_drewN | apply below_drew1) | exact HB.out)) hb); clear HB; have HB := n0_; clear n0_; (try clear hb); (try clear hb2); (try clear hk); (try clear hi)) | (go_at_call 16; (with_reducible refine (limits_Band.calls 1000 949 50000 t127 _ A4.out).mono ?_); rintro e w13 ⟨rfl, hb⟩; have n0_ := Aside0.mk (below_step (by repeat (first | (with_reducible first | exact HB.out | apply below_alloc | apply pw_below_drewN | apply below_drew1) | exact HB.out)) hb); clear HB; have HB := n0_; clear n0_; (try clear hb); (try clear hb2); (try clear hk); (try clear hi)) | (go_at_call 12; (with_reducible refine (limits_Lot.calls k 10 30 t128 _ A6.out).mono ?_); rintro e w' ⟨rfl, ⟨nd, rfl⟩⟩))
          go_ret
          exact ⟨by first | rfl | (simp [errW_none, errW_some] <;> rfl) | (simp [*, errW_none, errW_some] <;> rfl), by repeat (first | (with_reducible first | exact HB.out | apply below_alloc | apply pw_below_drewN | apply below_drew1) | exact HB.out)⟩
      · rw [if_neg c5] at H
        have c5b0 : (t127 == 42) = false := beq_eq_false_iff_ne.mpr c5
        have c5b1 : (t127 != 42) = true := bne_iff_ne.mpr c5
        obtain rfl := Option.some.inj H
        go_enter Try.func18, Try.ntmps18
        go_wp2_with (first | ((with_reducible refine gate_callee (f := 19) rfl ?_); refine goesL_ (some 4) rfl rfl Try.func19 (by kernel_rfl) rfl #[.int .i64 1000, .int .i64 50000] rfl (by (try simp only [List.map_toArray, List.map_cons, List.map_nil]); first | done | rfl | (simp only [List.length_drop, List.length_take]; rfl)) ?_; (with_reducible refine (limits_Edges.calls k 1000 50000 t125 t126 _ A1.out).mono ?_); rintro e w14 ⟨rfl, hb⟩; refine ⟨_, rfl, ?_⟩; have n0_ := Aside0.mk (below_step (by repeat (first | (with_reducible first | exact HB.out | apply below_alloc | apply pw_below_drewN | apply below_drew1) | exact HB.out)) hb); clear HB; have HB := n0_; clear n0_; (try clear hb); (try clear hb2); (try clear hk); (try clear hi)) | (go_at_call 16; (with_reducible refine (limits_Band.calls 1000 949 50000 t127 _ A4.out).mono ?_); rintro e w15 ⟨rfl, hb⟩; have n0_ := Aside0.mk (below_step (by repeat (first | (with_reducible first | exact HB.out | apply below_alloc | apply pw_below_drewN | apply below_drew1) | exact HB.out)) hb); clear HB; have HB := n0_; clear n0_; (try clear hb); (try clear hb2); (try clear hk); (try clear hi)))
        go_ret
        exact ⟨by first | rfl | (simp [errW_none, errW_some] <;> rfl) | (simp [*, errW_none, errW_some] <;> rfl), by repeat (first | (with_reducible first | exact HB.out | apply below_alloc | apply pw_below_drewN | apply below_drew1) | exact HB.out)⟩
    · rw [if_neg c3] at H
      have c3b0 : (t126 == 1050) = false := beq_eq_false_iff_ne.mpr c3
      have c3b1 : (t126 != 1050) = true := bne_iff_ne.mpr c3
      obtain rfl := Option.some.inj H
      go_enter Try.func18, Try.ntmps18
      go_wp2_with (first | ((with_reducible refine gate_callee (f := 19) rfl ?_); refine goesL_ (some 4) rfl rfl Try.func19 (by kernel_rfl) rfl #[.int .i64 1000, .int .i64 50000] rfl (by (try simp only [List.map_toArray, List.map_cons, List.map_nil]); first | done | rfl | (simp only [List.length_drop, List.length_take]; rfl)) ?_; (with_reducible refine (limits_Edges.calls k 1000 50000 t125 t126 _ A1.out).mono ?_); rintro e w16 ⟨rfl, hb⟩; refine ⟨_, rfl, ?_⟩; have n0_ := Aside0.mk (below_step (by repeat (first | (with_reducible first | exact HB.out | apply below_alloc | apply pw_below_drewN | apply below_drew1) | exact HB.out)) hb); clear HB; have HB := n0_; clear n0_; (try clear hb); (try clear hb2); (try clear hk); (try clear hi)))
      go_ret
      exact ⟨by first | rfl | (simp [errW_none, errW_some] <;> rfl) | (simp [*, errW_none, errW_some] <;> rfl), by repeat (first | (with_reducible first | exact HB.out | apply below_alloc | apply pw_below_drewN | apply below_drew1) | exact HB.out)⟩
  · rw [if_neg c2] at H
    have c2b0 : (t125 == 950) = false := beq_eq_false_iff_ne.mpr c2
    have c2b1 : (t125 != 950) = true := bne_iff_ne.mpr c2
    obtain rfl := Option.some.inj H
    go_enter Try.func18, Try.ntmps18
    go_wp2_with (first | ((with_reducible refine gate_callee (f := 19) rfl ?_); refine goesL_ (some 4) rfl rfl Try.func19 (by kernel_rfl) rfl #[.int .i64 1000, .int .i64 50000] rfl (by (try simp only [List.map_toArray, List.map_cons, List.map_nil]); first | done | rfl | (simp only [List.length_drop, List.length_take]; rfl)) ?_; (with_reducible refine (limits_Edges.calls k 1000 50000 t125 t126 _ A1.out).mono ?_); rintro e w17 ⟨rfl, hb⟩; refine ⟨_, rfl, ?_⟩; have n0_ := Aside0.mk (below_step (by repeat (first | (with_reducible first | exact HB.out | apply below_alloc | apply pw_below_drewN | apply below_drew1) | exact HB.out)) hb); clear HB; have HB := n0_; clear n0_; (try clear hb); (try clear hb2); (try clear hk); (try clear hi)))
    go_ret
    exact ⟨by first | rfl | (simp [errW_none, errW_some] <;> rfl) | (simp [*, errW_none, errW_some] <;> rfl), by repeat (first | (with_reducible first | exact HB.out | apply below_alloc | apply pw_below_drewN | apply below_drew1) | exact HB.out)⟩

/-! ### jobberlaw07_LimitsTell: function 3 -/
def jobberlaw07_LimitsTell.f (k : Nat) (a0 : Int) (a1 : Int) (a2 : Int) (a3 : Int) (a4 : Int) : Option (Bool) := (limits_Lot.f k a0 a1).bind fun t130 => ((jobberref07_Lot.f k a0 a1).bind fun t131 => (if t130 = t131 then ((limits_Trim.f a0 a1).bind fun t132 => ((jobberref07_Trim.f a0 a1).bind fun t133 => (if t132 = t133 then ((limits_Band.f a2 a3 a4).bind fun t134 => ((jobberref07_Band.f k a2 a3 a4).bind fun t135 => (if t134 = t135 then ((jobberlaw07_lives.f k).bind fun t136 => (some t136)) else (some false)))) else (some false)))) else (some false)))
theorem jobberlaw07_LimitsTell.mono : ∀ a0 a1 a2 a3 a4 k, LeO (jobberlaw07_LimitsTell.f k a0 a1 a2 a3 a4) (jobberlaw07_LimitsTell.f (k + 1) a0 a1 a2 a3 a4) := by
  intro a0 a1 a2 a3 a4 k
  unfold jobberlaw07_LimitsTell.f
  repeat' first
      | (with_reducible exact jobberlaw07_lives.mono _)
      | (with_reducible exact jobberref07_Band.mono _ _ _ _)
      | (with_reducible exact jobberref07_Lot.mono _ _ _)
      | (with_reducible exact limits_Lot.mono _ _ _)
      | (with_reducible exact LeO.refl _)
      | (with_reducible exact LeO.none _)
      | (with_reducible refine LeO.ite ?_ ?_)
      | (with_reducible refine LeO.bind ?_ (fun _ => ?_))
      | exact jobberlaw07_lives.mono _
      | exact jobberref07_Band.mono _ _ _ _
      | exact jobberref07_Lot.mono _ _ _
      | exact limits_Lot.mono _ _ _
      | exact LeO.none _
      | refine LeO.ite ?_ ?_
      | refine LeO.bind ?_ (fun _ => ?_)
set_option maxHeartbeats 8000000 in
set_option maxRecDepth 100000 in
theorem jobberlaw07_LimitsTell.calls (k : Nat) (a0 : Int) (a1 : Int) (a2 : Int) (a3 : Int) (a4 : Int) (r : Bool) (w : World) (h : jobberlaw07_LimitsTell.f k a0 a1 a2 a3 a4 = some r) :
    Calls Try.prog 3 #[.int .i64 a0, .int .i64 a1, .int .i64 a2, .int .i64 a3, .int .i64 a4] w fun e w' => e = .returned (.bool r) ∧ Below w.heap.size w w' := by
  have HB := Aside0.mk (Below.refl w.heap.size w)
  have H : ((limits_Lot.f k a0 a1).bind fun t130 => ((jobberref07_Lot.f k a0 a1).bind fun t131 => (if t130 = t131 then ((limits_Trim.f a0 a1).bind fun t132 => ((jobberref07_Trim.f a0 a1).bind fun t133 => (if t132 = t133 then ((limits_Band.f a2 a3 a4).bind fun t134 => ((jobberref07_Band.f k a2 a3 a4).bind fun t135 => (if t134 = t135 then ((jobberlaw07_lives.f k).bind fun t136 => (some t136)) else (some false)))) else (some false)))) else (some false)))) = some r := h
  clear h
  replace H := Option.bind_eq_some_iff.mp H
  obtain ⟨t130, A60, H⟩ := H
  replace H : ((jobberref07_Lot.f k a0 a1).bind fun t131 => (if t130 = t131 then ((limits_Trim.f a0 a1).bind fun t132 => ((jobberref07_Trim.f a0 a1).bind fun t133 => (if t132 = t133 then ((limits_Band.f a2 a3 a4).bind fun t134 => ((jobberref07_Band.f k a2 a3 a4).bind fun t135 => (if t134 = t135 then ((jobberlaw07_lives.f k).bind fun t136 => (some t136)) else (some false)))) else (some false)))) else (some false))) = some r := H
  have A6 := Aside0.mk A60
  clear A60
  replace H := Option.bind_eq_some_iff.mp H
  obtain ⟨t131, A70, H⟩ := H
  replace H : (if t130 = t131 then ((limits_Trim.f a0 a1).bind fun t132 => ((jobberref07_Trim.f a0 a1).bind fun t133 => (if t132 = t133 then ((limits_Band.f a2 a3 a4).bind fun t134 => ((jobberref07_Band.f k a2 a3 a4).bind fun t135 => (if t134 = t135 then ((jobberlaw07_lives.f k).bind fun t136 => (some t136)) else (some false)))) else (some false)))) else (some false)) = some r := H
  have A7 := Aside0.mk A70
  clear A70
  by_cases c8 : t130 = t131
  · rw [if_pos c8] at H
    have c8b0 : (t130 == t131) = true := beq_iff_eq.mpr c8
    have c8b1 : (t130 != t131) = false := bne_eq_false_iff_eq.mpr c8
    clear c8
    replace H := Option.bind_eq_some_iff.mp H
    obtain ⟨t132, A90, H⟩ := H
    replace H : ((jobberref07_Trim.f a0 a1).bind fun t133 => (if t132 = t133 then ((limits_Band.f a2 a3 a4).bind fun t134 => ((jobberref07_Band.f k a2 a3 a4).bind fun t135 => (if t134 = t135 then ((jobberlaw07_lives.f k).bind fun t136 => (some t136)) else (some false)))) else (some false))) = some r := H
    have A9 := Aside0.mk A90
    clear A90
    replace H := Option.bind_eq_some_iff.mp H
    obtain ⟨t133, A100, H⟩ := H
    replace H : (if t132 = t133 then ((limits_Band.f a2 a3 a4).bind fun t134 => ((jobberref07_Band.f k a2 a3 a4).bind fun t135 => (if t134 = t135 then ((jobberlaw07_lives.f k).bind fun t136 => (some t136)) else (some false)))) else (some false)) = some r := H
    have A10 := Aside0.mk A100
    clear A100
    by_cases c11 : t132 = t133
    · rw [if_pos c11] at H
      have c11b0 : (t132 == t133) = true := beq_iff_eq.mpr c11
      have c11b1 : (t132 != t133) = false := bne_eq_false_iff_eq.mpr c11
      clear c11
      replace H := Option.bind_eq_some_iff.mp H
      obtain ⟨t134, A120, H⟩ := H
      replace H : ((jobberref07_Band.f k a2 a3 a4).bind fun t135 => (if t134 = t135 then ((jobberlaw07_lives.f k).bind fun t136 => (some t136)) else (some false))) = some r := H
      have A12 := Aside0.mk A120
      clear A120
      replace H := Option.bind_eq_some_iff.mp H
      obtain ⟨t135, A130, H⟩ := H
      replace H : (if t134 = t135 then ((jobberlaw07_lives.f k).bind fun t136 => (some t136)) else (some false)) = some r := H
      have A13 := Aside0.mk A130
      clear A130
      by_cases c14 : t134 = t135
      · rw [if_pos c14] at H
        have c14b0 : (t134 == t135) = true := beq_iff_eq.mpr c14
        have c14b1 : (t134 != t135) = false := bne_eq_false_iff_eq.mpr c14
        clear c14
        replace H := Option.bind_eq_some_iff.mp H
        obtain ⟨t136, A150, H⟩ := H
        replace H : (some t136) = some r := H
        have A15 := Aside0.mk A150
        clear A150
        obtain rfl := Option.some.inj H
        go_enter Try.func3, Try.ntmps3
        go_wp2_with (first | ((with_reducible refine gate_callee (f := 12) rfl ?_); refine goesL_ (some 13) rfl rfl Try.func12 (by kernel_rfl) rfl #[.int .i64 a0, .int .i64 a1] rfl (by (try simp only [List.map_toArray, List.map_cons, List.map_nil]); first | done | rfl | (simp only [List.length_drop, List.length_take]; rfl)) ?_; (with_reducible refine (limits_Lot.calls k a0 a1 t130 _ A6.out).mono ?_); rintro e w' ⟨rfl, ⟨nd, rfl⟩⟩; refine ⟨_, rfl, ?_⟩) | ((with_reducible refine gate_callee (f := 13) rfl ?_); refine goesL_ (some 16) rfl rfl Try.func13 (by kernel_rfl) rfl #[.int .i64 a0, .int .i64 a1] rfl (by (try simp only [List.map_toArray, List.map_cons, List.map_nil]); first | done | rfl | (simp only [List.length_drop, List.length_take]; rfl)) ?_; (with_reducible refine (jobberref07_Lot.calls k a0 a1 t131 _ A7.out).mono ?_); rintro e w' ⟨rfl, ⟨nd, rfl⟩⟩; refine ⟨_, rfl, ?_⟩) | (go_at_call 14; (with_reducible refine (limits_Trim.calls a0 a1 t132 _ A9.out).mono ?_); rintro e w16 ⟨rfl, hb⟩; have n0_ := Aside0.mk (below_step (by repeat (first | (with_reducible first | exact HB.out | apply below_alloc | apply pw_below_drewN | apply below_drew1) | exact HB.out)) hb); clear HB; have HB := n0_; clear n0_; (try clear hb); (try clear hb2); (try clear hk); (try clear hi)) | (go_at_call 15; (with_reducible refine (jobberref07_Trim.calls a0 a1 t133 _ A10.out).mono ?_); rintro e w' ⟨rfl, ⟨nd, rfl⟩⟩) | (go_at_call 16; (with_reducible refine (limits_Band.calls a2 a3 a4 t134 _ A12.out).mono ?_); rintro e w17 ⟨rfl, hb⟩; have n0_ := Aside0.mk (below_step (by repeat (first | (with_reducible first | exact HB.out | apply below_alloc | apply pw_below_drewN | apply below_drew1) | exact HB.out)) hb); clear HB; have HB := n0_; clear n0_; (try clear hb); (try clear hb2); (try clear hk); (try clear hi)) | (go_at_call 17; (with_reducible refine (jobberref07_Band.calls k a2 a3 a4 t135 _ A13.out).mono ?_); rintro e w18 ⟨rfl, hb⟩; have n0_ := Aside0.mk (below_step (by repeat (first | (with_reducible first | exact HB.out | apply below_alloc | apply pw_below_drewN | apply below_drew1) | exact HB.out)) hb); clear HB; have HB := n0_; clear n0_; (try clear hb); (try clear hb2); (try clear hk); (try clear hi)) | (go_at_call 18; (with_reducible refine (jobberlaw07_lives.calls k  t136 _ A15.out).mono ?_); rintro e w19 ⟨rfl, hb⟩; have n0_ := Aside0.mk (below_step (by repeat (first | (with_reducible first | exact HB.out | apply below_alloc | apply pw_below_drewN | apply below_drew1) | exact HB.out)) hb); clear HB; have HB := n0_; clear n0_; (try clear hb); (try clear hb2); (try clear hk); (try clear hi)))
        go_ret
        exact ⟨by first | rfl | (simp [errW_none, errW_some] <;> rfl) | (simp [*, errW_none, errW_some] <;> rfl), by repeat (first | (with_reducible first | exact HB.out | apply below_alloc | apply pw_below_drewN | apply below_drew1) | exact HB.out)⟩
      · rw [if_neg c14] at H
        have c14b0 : (t134 == t135) = false := beq_eq_false_iff_ne.mpr c14
        have c14b1 : (t134 != t135) = true := bne_iff_ne.mpr c14
        obtain rfl := Option.some.inj H
        go_enter Try.func3, Try.ntmps3
        go_wp2_with (first | ((with_reducible refine gate_callee (f := 12) rfl ?_); refine goesL_ (some 13) rfl rfl Try.func12 (by kernel_rfl) rfl #[.int .i64 a0, .int .i64 a1] rfl (by (try simp only [List.map_toArray, List.map_cons, List.map_nil]); first | done | rfl | (simp only [List.length_drop, List.length_take]; rfl)) ?_; (with_reducible refine (limits_Lot.calls k a0 a1 t130 _ A6.out).mono ?_); rintro e w' ⟨rfl, ⟨nd, rfl⟩⟩; refine ⟨_, rfl, ?_⟩) | ((with_reducible refine gate_callee (f := 13) rfl ?_); refine goesL_ (some 16) rfl rfl Try.func13 (by kernel_rfl) rfl #[.int .i64 a0, .int .i64 a1] rfl (by (try simp only [List.map_toArray, List.map_cons, List.map_nil]); first | done | rfl | (simp only [List.length_drop, List.length_take]; rfl)) ?_; (with_reducible refine (jobberref07_Lot.calls k a0 a1 t131 _ A7.out).mono ?_); rintro e w' ⟨rfl, ⟨nd, rfl⟩⟩; refine ⟨_, rfl, ?_⟩) | (go_at_call 14; (with_reducible refine (limits_Trim.calls a0 a1 t132 _ A9.out).mono ?_); rintro e w20 ⟨rfl, hb⟩; have n0_ := Aside0.mk (below_step (by repeat (first | (with_reducible first | exact HB.out | apply below_alloc | apply pw_below_drewN | apply below_drew1) | exact HB.out)) hb); clear HB; have HB := n0_; clear n0_; (try clear hb); (try clear hb2); (try clear hk); (try clear hi)) | (go_at_call 15; (with_reducible refine (jobberref07_Trim.calls a0 a1 t133 _ A10.out).mono ?_); rintro e w' ⟨rfl, ⟨nd, rfl⟩⟩) | (go_at_call 16; (with_reducible refine (limits_Band.calls a2 a3 a4 t134 _ A12.out).mono ?_); rintro e w21 ⟨rfl, hb⟩; have n0_ := Aside0.mk (below_step (by repeat (first | (with_reducible first | exact HB.out | apply below_alloc | apply pw_below_drewN | apply below_drew1) | exact HB.out)) hb); clear HB; have HB := n0_; clear n0_; (try clear hb); (try clear hb2); (try clear hk); (try clear hi)) | (go_at_call 17; (with_reducible refine (jobberref07_Band.calls k a2 a3 a4 t135 _ A13.out).mono ?_); rintro e w22 ⟨rfl, hb⟩; have n0_ := Aside0.mk (below_step (by repeat (first | (with_reducible first | exact HB.out | apply below_alloc | apply pw_below_drewN | apply below_drew1) | exact HB.out)) hb); clear HB; have HB := n0_; clear n0_; (try clear hb); (try clear hb2); (try clear hk); (try clear hi)))
        go_ret
        exact ⟨by first | rfl | (simp [errW_none, errW_some] <;> rfl) | (simp [*, errW_none, errW_some] <;> rfl), by repeat (first | (with_reducible first | exact HB.out | apply below_alloc | apply pw_below_drewN | apply below_drew1) | exact HB.out)⟩
    · rw [if_neg c11] at H
      have c11b0 : (t132 == t133) = false := beq_eq_false_iff_ne.mpr c11
      have c11b1 : (t132 != t133) = true := bne_iff_ne.mpr c11
      obtain rfl := Option.some.inj H
      go_enter Try.func3, Try.ntmps3
      go_wp2_with (first | ((with_reducible refine gate_callee (f := 12) rfl ?_); refine goesL_ (some 13) rfl rfl Try.func12 (by kernel_rfl) rfl #[.int .i64 a0, .int .i64 a1] rfl (by (try simp only [List.map_toArray, List.map_cons, List.map_nil]); first | done | rfl | (simp only [List.length_drop, List.length_take]; rfl)) ?_; (with_reducible refine (limits_Lot.calls k a0 a1 t130 _ A6.out).mono ?_); rintro e w' ⟨rfl, ⟨nd, rfl⟩⟩; refine ⟨_, rfl, ?_⟩) | ((with_reducible refine gate_callee (f := 13) rfl ?_); refine goesL_ (some 16) rfl rfl Try.func13 (by kernel_rfl) rfl #[.int .i64 a0, .int .i64 a1] rfl (by (try simp only [List.map_toArray, List.map_cons, List.map_nil]); first | done | rfl | (simp only [List.length_drop, List.length_take]; rfl)) ?_; (with_reducible refine (jobberref07_Lot.calls k a0 a1 t131 _ A7.out).mono ?_); rintro e w' ⟨rfl, ⟨nd, rfl⟩⟩; refine ⟨_, rfl, ?_⟩) | (go_at_call 14; (with_reducible refine (limits_Trim.calls a0 a1 t132 _ A9.out).mono ?_); rintro e w23 ⟨rfl, hb⟩; have n0_ := Aside0.mk (below_step (by repeat (first | (with_reducible first | exact HB.out | apply below_alloc | apply pw_below_drewN | apply below_drew1) | exact HB.out)) hb); clear HB; have HB := n0_; clear n0_; (try clear hb); (try clear hb2); (try clear hk); (try clear hi)) | (go_at_call 15; (with_reducible refine (jobberref07_Trim.calls a0 a1 t133 _ A10.out).mono ?_); rintro e w' ⟨rfl, ⟨nd, rfl⟩⟩))
      go_ret
      exact ⟨by first | rfl | (simp [errW_none, errW_some] <;> rfl) | (simp [*, errW_none, errW_some] <;> rfl), by repeat (first | (with_reducible first | exact HB.out | apply below_alloc | apply pw_below_drewN | apply below_drew1) | exact HB.out)⟩
  · rw [if_neg c8] at H
    have c8b0 : (t130 == t131) = false := beq_eq_false_iff_ne.mpr c8
    have c8b1 : (t130 != t131) = true := bne_iff_ne.mpr c8
    obtain rfl := Option.some.inj H
    go_enter Try.func3, Try.ntmps3
    go_wp2_with (first | ((with_reducible refine gate_callee (f := 12) rfl ?_); refine goesL_ (some 13) rfl rfl Try.func12 (by kernel_rfl) rfl #[.int .i64 a0, .int .i64 a1] rfl (by (try simp only [List.map_toArray, List.map_cons, List.map_nil]); first | done | rfl | (simp only [List.length_drop, List.length_take]; rfl)) ?_; (with_reducible refine (limits_Lot.calls k a0 a1 t130 _ A6.out).mono ?_); rintro e w' ⟨rfl, ⟨nd, rfl⟩⟩; refine ⟨_, rfl, ?_⟩) | ((with_reducible refine gate_callee (f := 13) rfl ?_); refine goesL_ (some 16) rfl rfl Try.func13 (by kernel_rfl) rfl #[.int .i64 a0, .int .i64 a1] rfl (by (try simp only [List.map_toArray, List.map_cons, List.map_nil]); first | done | rfl | (simp only [List.length_drop, List.length_take]; rfl)) ?_; (with_reducible refine (jobberref07_Lot.calls k a0 a1 t131 _ A7.out).mono ?_); rintro e w' ⟨rfl, ⟨nd, rfl⟩⟩; refine ⟨_, rfl, ?_⟩))
    go_ret
    exact ⟨by first | rfl | (simp [errW_none, errW_some] <;> rfl) | (simp [*, errW_none, errW_some] <;> rfl), by repeat (first | (with_reducible first | exact HB.out | apply below_alloc | apply pw_below_drewN | apply below_drew1) | exact HB.out)⟩

/-! ### jobberref01_parts: function 62 (by hand; for other hand texts alone) -/
theorem setb_zero (r : Nat) (b : Bool) : setb (2 * r) 0 b = 2 * r + (if b then 1 else 0) := by
  apply Nat.eq_of_testBit_eq
  intro j
  rw [tb_setb]
  have h := Nat.testBit_two_pow_mul_add r (i := 1) (b := if b then 1 else 0) (by cases b <;> simp) j
  have h2 := Nat.testBit_two_pow_mul_add r (i := 1) (b := 0) (by simp) j
  simp only [Nat.pow_one, Nat.add_zero] at h h2
  rw [h, h2]
  by_cases e : j = 0
  · subst e; cases b <;> simp
  · rw [if_neg e, if_neg (by omega), if_neg (by omega)]
theorem setb_top (t k : Nat) : setb (2 ^ (k + 1) * t) k true = 2 ^ (k + 1) * t + 2 ^ k := by
  apply Nat.eq_of_testBit_eq
  intro j
  rw [tb_setb]
  have hp : (2 : Nat) ^ k < 2 ^ (k + 1) := Nat.pow_lt_pow_right (by decide) (by omega)
  have h := Nat.testBit_two_pow_mul_add t (i := k + 1) (b := 2 ^ k) hp j
  have h2 := Nat.testBit_two_pow_mul_add t (i := k + 1) (b := 0) (Nat.two_pow_pos _) j
  simp only [Nat.add_zero] at h2
  rw [h, h2]
  by_cases e : j = k
  · subst e; rw [if_pos rfl, if_pos (by omega)]; simp
  · rw [if_neg e]
    by_cases e2 : j < k + 1
    · rw [if_pos e2, if_pos e2, Nat.testBit_two_pow, decide_eq_false (Ne.symm e)]; simp
    · rw [if_neg e2, if_neg e2]
theorem part_eq {a b k : Nat} (hb : 0 < b) {R : Nat} (hR : R = 2 * (a / 2 ^ (k + 1) % b) + (if a.testBit k then 1 else 0)) :
    (R < b → 2 ^ (k + 1) * (a / 2 ^ (k + 1) / b) = 2 ^ k * (a / 2 ^ k / b) ∧ R = a / 2 ^ k % b) ∧ (b ≤ R → setb (2 ^ (k + 1) * (a / 2 ^ (k + 1) / b)) k true = 2 ^ k * (a / 2 ^ k / b) ∧ R - b = a / 2 ^ k % b) := by
  have hA := back_step (m := a) (k := k)
  obtain ⟨B, hB⟩ : ∃ B, a / 2 ^ (k + 1) = B := ⟨_, rfl⟩
  obtain ⟨A, hA2⟩ : ∃ A, a / 2 ^ k = A := ⟨_, rfl⟩
  rw [hB, hA2] at hA
  rw [hB] at hR
  rw [hB, hA2, setb_top]
  have hd := Nat.div_add_mod B b
  have hl := Nat.mod_lt B hb
  obtain ⟨q, hq⟩ : ∃ q, B / b = q := ⟨_, rfl⟩
  obtain ⟨r, hr⟩ : ∃ r, B % b = r := ⟨_, rfl⟩
  rw [hq, hr] at hd
  rw [hr] at hl hR
  rw [hq]
  have hAA : A = b * (2 * q) + R := by
    have e : b * (2 * q) = 2 * (b * q) := by rw [Nat.mul_left_comm]
    rw [e]; omega
  have h2 : R < 2 * b := by
    have : (if a.testBit k then 1 else 0) ≤ 1 := by split <;> omega
    omega
  refine ⟨fun h => ?_, fun h => ?_⟩
  · have e1 : A / b = 2 * q := by rw [hAA, Nat.mul_add_div hb, Nat.div_eq_of_lt h] <;> omega
    have e2 : A % b = R := by rw [hAA, Nat.mul_add_mod, Nat.mod_eq_of_lt h]
    rw [e1, e2]
    refine ⟨?_, rfl⟩
    rw [Nat.pow_succ, Nat.mul_assoc]
  · have hAB : A = b * (2 * q + 1) + (R - b) := by rw [Nat.mul_add, Nat.mul_one]; omega
    have e1 : A / b = 2 * q + 1 := by rw [hAB, Nat.mul_add_div hb, Nat.div_eq_of_lt (by omega)] <;> omega
    have e2 : A % b = R - b := by rw [hAB, Nat.mul_add_mod, Nat.mod_eq_of_lt (by omega)]
    rw [e1, e2]
    refine ⟨?_, rfl⟩
    rw [Nat.mul_add, Nat.pow_succ, Nat.mul_one, Nat.mul_assoc]
set_option maxHeartbeats 8000000 in
set_option maxRecDepth 100000 in
theorem num_parts (a b : Nat) (ga gb : Bool) (ha : a < 2 ^ 136) (hb0 : 0 < b) (hb : b < 2 ^ 65) (w : World) :
    Calls Try.prog 62 #[.agg (numC a ga), .agg (numC b gb)] w fun e w' => e = .returned (.tuple #[.agg (numC (a / b) false), .agg (numC (a % b) false)]) ∧ Below w.heap.size w w' := by
  have HO : Aside0 (Own w w []) := ⟨Own.start w⟩
  have HA := Aside0.mk ha
  have HB0 := Aside0.mk hb0
  have HB65 := Aside0.mk hb
  clear ha hb0 hb
  go_enter Try.func62, Try.ntmps62
  go_wp2_with (first | ((with_reducible refine gate_dst (N := 2) rfl ?_); refine num_new ?hg (N := 2) ?hd (cs := numC a ga) HO.out a ga ?hc ?hr ?_; (case hc => first | rfl | exact zcNum); (case hd => rfl); (case hg => rfl); (case hr => first | (go_simp; done) | (go_simp; rfl)); intro gA w1 hO_; have n0_ : Aside0 (Own w w1 [(gA, a, ga)]) := ⟨hO_⟩; clear HO hO_; have HO := n0_; clear n0_) | ((with_reducible refine gate_dst (N := 3) rfl ?_); refine num_new ?hg (N := 3) ?hd (cs := numC b gb) HO.out b gb ?hc ?hr ?_; (case hc => first | rfl | exact zcNum); (case hd => rfl); (case hg => rfl); (case hr => first | (go_simp; done) | (go_simp; rfl)); intro gB w2 hO_; have n0_ : Aside0 (Own w w2 [(gA, a, ga), (gB, b, gb)]) := ⟨hO_⟩; clear HO hO_; have HO := n0_; clear n0_) | ((with_reducible refine gate_dst (N := 4) rfl ?_); refine num_new ?hg (N := 4) ?hd (cs := Try.zeroCells84) HO.out 0 false ?hc ?hr ?_; (case hc => first | rfl | exact zcNum); (case hd => rfl); (case hg => rfl); (case hr => first | (go_simp; done) | (go_simp; rfl)); intro gQ w3 hO_; have n0_ : Aside0 (Own w w3 [(gA, a, ga), (gB, b, gb), (gQ, 0, false)]) := ⟨hO_⟩; clear HO hO_; have HO := n0_; clear n0_) | ((with_reducible refine gate_dst (N := 5) rfl ?_); refine num_new ?hg (N := 5) ?hd (cs := Try.zeroCells84) HO.out 0 false ?hc ?hr ?_; (case hc => first | rfl | exact zcNum); (case hd => rfl); (case hg => rfl); (case hr => first | (go_simp; done) | (go_simp; rfl)); intro gS w4 hO_; have n0_ : Aside0 (Own w w4 [(gA, a, ga), (gB, b, gb), (gQ, 0, false), (gS, 0, false)]) := ⟨hO_⟩; clear HO hO_; have HO := n0_; clear n0_) | ((with_reducible refine gate_dst (N := 6) rfl ?_); refine num_new ?hg (N := 6) ?hd (cs := Try.zeroCells84) HO.out 0 false ?hc ?hr ?_; (case hc => first | rfl | exact zcNum); (case hd => rfl); (case hg => rfl); (case hr => first | (go_simp; done) | (go_simp; rfl)); intro gq w5 hO_; have n0_ : Aside0 (Own w w5 [(gA, a, ga), (gB, b, gb), (gQ, 0, false), (gS, 0, false), (gq, 0, false)]) := ⟨hO_⟩; clear HO hO_; have HO := n0_; clear n0_) | ((with_reducible refine gate_dst (N := 7) rfl ?_); refine num_new ?hg (N := 7) ?hd (cs := Try.zeroCells84) HO.out 0 false ?hc ?hr ?_; (case hc => first | rfl | exact zcNum); (case hd => rfl); (case hg => rfl); (case hr => first | (go_simp; done) | (go_simp; rfl)); intro gr w6 hO_; have n0_ : Aside0 (Own w w6 [(gA, a, ga), (gB, b, gb), (gQ, 0, false), (gS, 0, false), (gq, 0, false), (gr, 0, false)]) := ⟨hO_⟩; clear HO hO_; have HO := n0_; clear n0_))
  go_loopg [8] 136 (fun kq v8 wr => ∃ i : Int, v8 = .int .i64 i ∧ Aside0 (i + 1 = kq) ∧ Aside0 (kq ≤ 136) ∧ Aside0 (Own w wr [(gA, a, ga), (gB, b, gb), (gQ, 0, false), (gS, 0, false), (gq, (2 ^ (kq) * (a / 2 ^ (kq) / b)), false), (gr, (a / 2 ^ (kq) % b), false)]))
  case atStart => exact ⟨135, rfl, ⟨rfl⟩, ⟨Nat.le_refl _⟩, ⟨by rw [Nat.div_eq_of_lt HA.out, Nat.zero_div, Nat.zero_mod, Nat.mul_zero]; exact HO.out⟩⟩
  case round =>
    clear HO
    obtain ⟨i, rfl, HI, HK, HO⟩ := hrel
    cases gk with
    | zero =>
      obtain rfl : i = -1 := by have := HI.out; omega
      have n0_ : Aside0 (Own w wr [(gA, a, ga), (gB, b, gb), (gQ, 0, false), (gS, 0, false), (gq, (a / b), false), (gr, (a % b), false)]) := ⟨by have h := HO.out; simp only [Nat.pow_zero, Nat.one_mul, Nat.div_one] at h; exact h⟩
      clear HO; have HO := n0_; clear n0_
      go_wp2
      refine wp_region_held_drew (S := (fun w' => ∃ (m4 : Nat) (s4 : Bool) (m5 : Nat) (s5 : Bool), Own w w' [(gA, a, ga), (gB, b, gb), (gQ, m4, s4), (gS, m5, s5), (gq, (a / b), false), (gr, (a % b), false)])) (by kernel_rfl) ⟨_, _, _, _, HO.out.drew⟩ (fun hHeld => ?_)
      refine wpAnyH_take (i := 0) (v := .agg (numC (a / b) false)) (by simp only [List.getElem?_toArray, List.getElem?_cons_succ, List.getElem?_cons_zero]; rfl) (by kernel_rfl) (by kernel_rfl) (by kernel_rfl) (by exact fun _ _ _ h => h) (Or.inl ⟨by rfl, ?hy0⟩) (by assumption) ?r0
      case hy0 => (rintro w_ ⟨_, _, _, _, hO⟩; exact num_load_run (.tmp 6) rfl hO 4 rfl rfl)
      try simp only [Act.put, List.setIfInBounds_toArray, List.set_cons_zero, List.set_cons_succ]
      refine wpAnyH_take (i := 1) (v := .agg (numC (a % b) false)) (by simp only [List.getElem?_toArray, List.getElem?_cons_succ, List.getElem?_cons_zero]; rfl) (by kernel_rfl) (by kernel_rfl) (by kernel_rfl) (by exact fun _ _ _ h => h) (Or.inl ⟨by rfl, ?hy1⟩) (by assumption) ?r1
      case hy1 => (rintro w_ ⟨_, _, _, _, hO⟩; exact num_load_run (.tmp 7) rfl hO 5 rfl rfl)
      try simp only [Act.put, List.setIfInBounds_toArray, List.set_cons_zero, List.set_cons_succ]
      refine wpAnyH_ready (rs := [2]) (by kernel_rfl) (by simp) ?_
      refine AllReadyH.cons (by simp only [List.getElem?_toArray, List.getElem?_cons_succ, List.getElem?_cons_zero]; rfl) (fun K hK => ?_) AllReadyH.nil
      rw [if_pos (by rfl)]
      refine num_store_wp (.tmp 4) (.tmp 31) rfl HO.out.drew 2 (m' := (a / b)) (s' := false) rfl rfl rfl ?_
      intro w21 hO21
      replace hO21 : Own w w21 [(gA, a, ga), (gB, b, gb), (gQ, (a / b), false), (gS, 0, false), (gq, (a / b), false), (gr, (a % b), false)] := hO21
      refine hK.out _ _ ⟨_, _, _, _, hO21⟩ (fun hHeld2 => ?_)
      clear hK K
      try simp only [Act.put, List.setIfInBounds_toArray, List.set_cons_zero, List.set_cons_succ]
      refine wpAnyH_ready (rs := [3]) (by kernel_rfl) (by simp) ?_
      refine AllReadyH.cons (by simp only [List.getElem?_toArray, List.getElem?_cons_succ, List.getElem?_cons_zero]; rfl) (fun K hK => ?_) AllReadyH.nil
      rw [if_pos (by rfl)]
      refine num_store_wp (.tmp 5) (.tmp 32) rfl hO21 3 (m' := (a % b)) (s' := false) rfl rfl rfl ?_
      intro w22 hO22
      replace hO22 : Own w w22 [(gA, a, ga), (gB, b, gb), (gQ, (a / b), false), (gS, (a % b), false), (gq, (a / b), false), (gr, (a % b), false)] := hO22
      refine hK.out _ _ ⟨_, _, _, _, hO22⟩ (fun hHeld3 => ?_)
      clear hK K
      try simp only [Act.put, List.setIfInBounds_toArray, List.set_cons_zero, List.set_cons_succ]
      refine wpAnyH_done (by kernel_rfl) ?_ _
      have HO2 := Aside0.mk hO22
      clear hO21 hO22
      clear hHeld hHeld2 hHeld3
      go_wp2
      exact bodyPost_ret (num_result2 rfl HO2.out 2 3 rfl rfl _ rfl rfl) rfl ⟨rfl, HO2.out.below⟩
    | succ k =>
      obtain rfl : i = (k : Int) := by have := HI.out; omega
      have hd : decide ((0 : Int) ≤ (k : Int)) = true := decide_eq_true (by omega)
      have hd2 : (0 : Int) ≤ (k : Int) := by omega
      have hd3 : (k : Int) < 136 := by have := HK.out; omega
      have HK1 : Aside0 (k < 136) := ⟨by have := HK.out; omega⟩
      have zA := HO.out.cell 0 k rfl HK1.out
      obtain ⟨R, hR⟩ : ∃ R, 2 * (a / 2 ^ (k + 1) % b) + (if a.testBit k then 1 else 0) = R := ⟨_, rfl⟩
      have hst0 := part_eq HB0.out hR.symm
      have hRl : R < 2 ^ 136 := by
        have := Nat.mod_lt (a / 2 ^ (k + 1)) HB0.out
        have h1 := HB65.out
        have h2 : (if a.testBit k then 1 else 0) ≤ 1 := by split <;> omega
        have h3 : (2 : Nat) ^ 136 = 2 ^ 65 * 2 ^ 71 := by decide
        have h4 : (2 : Nat) ^ 71 = 2361183241434822606848 := by decide
        omega
      have HBL := Aside0.mk (fun w => num_below R b false gb hRl (Nat.lt_of_lt_of_le HB65.out (Nat.pow_le_pow_right (by decide) (by decide))) w)
      have hz := setb_zero (a / 2 ^ (k + 1) % b) (a.testBit k)
      rw [hR] at hz
      have HR := Aside0.mk hz
      clear hR hRl hz
      by_cases hlt : R < b
      · have hst := hst0.1 hlt
        rw [decide_eq_true hlt] at HBL
        clear hst0 hlt
        cases hxa : a.testBit k <;> rw [hxa] at HR
        case true =>
          rw [hxa] at zA
          have HS := Aside0.mk hst
          clear hst
          have HX := Aside0.mk hxa
          clear hxa
          go_upto_region 7 with (first | ((with_reducible refine gate_dst (N := 13) rfl ?_); refine num_load ?hg (N := 13) ?hd (.tmp 7) ?ho HO.out 5 (g := gr) (m := (a / 2 ^ (k + 1) % b)) (s := false) ?hi ?hx ?_; (case hd => rfl); (case hg => rfl); (case ho => rfl); (case hi => rfl); (case hx => rfl)) | (go_at_call 64; (with_reducible refine (num_twice _ _ _).mono ?_); rintro e_ w5 ⟨rfl, hb_⟩; clear zA; have n0_ : Aside0 (Own w w5 [(gA, a, ga), (gB, b, gb), (gQ, 0, false), (gS, 0, false), (gq, (2 ^ (k + 1) * (a / 2 ^ (k + 1) / b)), false), (gr, (a / 2 ^ (k + 1) % b), false)]) := ⟨HO.out.call hb_⟩; clear HO hb_; have HO := n0_; clear n0_; have zA := HO.out.cell 0 k rfl HK1.out; rw [HX.out] at zA) | ((with_reducible refine gate_store (t := 84) (p := 7) (v := .tmp 14) rfl ?_); refine num_store ?hg (.tmp 7) (.tmp 14) ?ho HO.out 5 (g := gr) (m := (a / 2 ^ (k + 1) % b)) (s := false) (m' := (2 * (a / 2 ^ (k + 1) % b))) (s' := false) ?hi ?hx ?hy ?_; (case hg => rfl); (case ho => rfl); (case hi => rfl); (case hx => rfl); (case hy => rfl); intro w6 hO_; have n0_ : Aside0 (Own w w6 [(gA, a, ga), (gB, b, gb), (gQ, 0, false), (gS, 0, false), (gq, (2 ^ (k + 1) * (a / 2 ^ (k + 1) / b)), false), (gr, (2 * (a / 2 ^ (k + 1) % b)), false)]) := ⟨hO_⟩; clear HO hO_; have HO := n0_; clear n0_; clear zA; have zA := HO.out.cell 0 k rfl HK1.out; rw [HX.out] at zA; have z0 := HO.out.cell 5 0 rfl (by decide); have zf := HO.out.free 5 0 rfl))
          have n0_ : Aside0 (∀ W : World, Own w W [(gA, a, ga), (gB, b, gb), (gQ, 0, false), (gS, 0, false), (gq, (2 ^ (k + 1) * (a / 2 ^ (k + 1) / b)), false), (gr, (setb (2 * (a / 2 ^ (k + 1) % b)) 0 true), false)] → Own w W [(gA, a, ga), (gB, b, gb), (gQ, 0, false), (gS, 0, false), (gq, (2 ^ (k + 1) * (a / 2 ^ (k + 1) / b)), false), (gr, R, false)]) := ⟨fun W h => by rw [HR.out] at h; exact h⟩
          refine num_abs (w0 := w) (l := [(gA, a, ga), (gB, b, gb), (gQ, 0, false), (gS, 0, false), (gq, (2 ^ (k + 1) * (a / 2 ^ (k + 1) / b)), false), (gr, R, false)]) (n0_.out _ (HO.out.bit 5 0 rfl (by decide) true)) ?_
          intro w8 hO_
          clear HO n0_ z0 zf zA
          have HO := Aside0.mk hO_
          clear hO_
          go_wp2_with (first | ((with_reducible refine gate_dst (N := 21) rfl ?_); refine num_load ?hg (N := 21) ?hd (.tmp 7) ?ho HO.out 5 (g := gr) (m := R) (s := false) ?hi ?hx ?_; (case hd => rfl); (case hg => rfl); (case ho => rfl); (case hi => rfl); (case hx => rfl)) | ((with_reducible refine gate_dst (N := 22) rfl ?_); refine num_load ?hg (N := 22) ?hd (.tmp 3) ?ho HO.out 1 (g := gB) (m := b) (s := gb) ?hi ?hx ?_; (case hd => rfl); (case hg => rfl); (case ho => rfl); (case hi => rfl); (case hx => rfl)) | (go_at_call 65; (with_reducible refine (HBL.out _).mono ?_); rintro e_ w9 ⟨rfl, hb_⟩; have n0_ : Aside0 (Own w w9 [(gA, a, ga), (gB, b, gb), (gQ, 0, false), (gS, 0, false), (gq, (2 ^ (k + 1) * (a / 2 ^ (k + 1) / b)), false), (gr, R, false)]) := ⟨HO.out.call hb_⟩; clear HO hb_; have HO := n0_; clear n0_))
          go_roundg k
          case measure => omega
          case rel => exact ⟨(k : Int) - 1, by first | rfl | go_num, ⟨by omega⟩, ⟨by have := HK.out; omega⟩, ⟨by have h := HO.out; rw [HS.out.1, HS.out.2] at h; exact h⟩⟩
        case false =>
          rw [hxa] at zA
          have HS := Aside0.mk hst
          clear hst
          have HX := Aside0.mk hxa
          clear hxa
          go_upto_region 7 with (first | ((with_reducible refine gate_dst (N := 13) rfl ?_); refine num_load ?hg (N := 13) ?hd (.tmp 7) ?ho HO.out 5 (g := gr) (m := (a / 2 ^ (k + 1) % b)) (s := false) ?hi ?hx ?_; (case hd => rfl); (case hg => rfl); (case ho => rfl); (case hi => rfl); (case hx => rfl)) | (go_at_call 64; (with_reducible refine (num_twice _ _ _).mono ?_); rintro e_ w5 ⟨rfl, hb_⟩; clear zA; have n0_ : Aside0 (Own w w5 [(gA, a, ga), (gB, b, gb), (gQ, 0, false), (gS, 0, false), (gq, (2 ^ (k + 1) * (a / 2 ^ (k + 1) / b)), false), (gr, (a / 2 ^ (k + 1) % b), false)]) := ⟨HO.out.call hb_⟩; clear HO hb_; have HO := n0_; clear n0_; have zA := HO.out.cell 0 k rfl HK1.out; rw [HX.out] at zA) | ((with_reducible refine gate_store (t := 84) (p := 7) (v := .tmp 14) rfl ?_); refine num_store ?hg (.tmp 7) (.tmp 14) ?ho HO.out 5 (g := gr) (m := (a / 2 ^ (k + 1) % b)) (s := false) (m' := (2 * (a / 2 ^ (k + 1) % b))) (s' := false) ?hi ?hx ?hy ?_; (case hg => rfl); (case ho => rfl); (case hi => rfl); (case hx => rfl); (case hy => rfl); intro w6 hO_; have n0_ : Aside0 (Own w w6 [(gA, a, ga), (gB, b, gb), (gQ, 0, false), (gS, 0, false), (gq, (2 ^ (k + 1) * (a / 2 ^ (k + 1) / b)), false), (gr, (2 * (a / 2 ^ (k + 1) % b)), false)]) := ⟨hO_⟩; clear HO hO_; have HO := n0_; clear n0_; clear zA; have zA := HO.out.cell 0 k rfl HK1.out; rw [HX.out] at zA; have z0 := HO.out.cell 5 0 rfl (by decide); have zf := HO.out.free 5 0 rfl))
          have n0_ : Aside0 (∀ W : World, Own w W [(gA, a, ga), (gB, b, gb), (gQ, 0, false), (gS, 0, false), (gq, (2 ^ (k + 1) * (a / 2 ^ (k + 1) / b)), false), (gr, (setb (2 * (a / 2 ^ (k + 1) % b)) 0 false), false)] → Own w W [(gA, a, ga), (gB, b, gb), (gQ, 0, false), (gS, 0, false), (gq, (2 ^ (k + 1) * (a / 2 ^ (k + 1) / b)), false), (gr, R, false)]) := ⟨fun W h => by rw [HR.out] at h; exact h⟩
          refine num_abs (w0 := w) (l := [(gA, a, ga), (gB, b, gb), (gQ, 0, false), (gS, 0, false), (gq, (2 ^ (k + 1) * (a / 2 ^ (k + 1) / b)), false), (gr, R, false)]) (n0_.out _ (HO.out.bit 5 0 rfl (by decide) false)) ?_
          intro w8 hO_
          clear HO n0_ z0 zf zA
          have HO := Aside0.mk hO_
          clear hO_
          go_wp2_with (first | ((with_reducible refine gate_dst (N := 21) rfl ?_); refine num_load ?hg (N := 21) ?hd (.tmp 7) ?ho HO.out 5 (g := gr) (m := R) (s := false) ?hi ?hx ?_; (case hd => rfl); (case hg => rfl); (case ho => rfl); (case hi => rfl); (case hx => rfl)) | ((with_reducible refine gate_dst (N := 22) rfl ?_); refine num_load ?hg (N := 22) ?hd (.tmp 3) ?ho HO.out 1 (g := gB) (m := b) (s := gb) ?hi ?hx ?_; (case hd => rfl); (case hg => rfl); (case ho => rfl); (case hi => rfl); (case hx => rfl)) | (go_at_call 65; (with_reducible refine (HBL.out _).mono ?_); rintro e_ w9 ⟨rfl, hb_⟩; have n0_ : Aside0 (Own w w9 [(gA, a, ga), (gB, b, gb), (gQ, 0, false), (gS, 0, false), (gq, (2 ^ (k + 1) * (a / 2 ^ (k + 1) / b)), false), (gr, R, false)]) := ⟨HO.out.call hb_⟩; clear HO hb_; have HO := n0_; clear n0_))
          go_roundg k
          case measure => omega
          case rel => exact ⟨(k : Int) - 1, by first | rfl | go_num, ⟨by omega⟩, ⟨by have := HK.out; omega⟩, ⟨by have h := HO.out; rw [HS.out.1, HS.out.2] at h; exact h⟩⟩
      · have hst := hst0.2 (Nat.le_of_not_lt hlt)
        rw [decide_eq_false hlt] at HBL
        have HLE := Aside0.mk (Nat.le_of_not_lt hlt)
        clear hst0 hlt
        cases hxa : a.testBit k <;> rw [hxa] at HR
        case true =>
          rw [hxa] at zA
          have HS := Aside0.mk hst
          clear hst
          have HX := Aside0.mk hxa
          clear hxa
          go_upto_region 7 with (first | ((with_reducible refine gate_dst (N := 13) rfl ?_); refine num_load ?hg (N := 13) ?hd (.tmp 7) ?ho HO.out 5 (g := gr) (m := (a / 2 ^ (k + 1) % b)) (s := false) ?hi ?hx ?_; (case hd => rfl); (case hg => rfl); (case ho => rfl); (case hi => rfl); (case hx => rfl)) | (go_at_call 64; (with_reducible refine (num_twice _ _ _).mono ?_); rintro e_ w5 ⟨rfl, hb_⟩; clear zA; have n0_ : Aside0 (Own w w5 [(gA, a, ga), (gB, b, gb), (gQ, 0, false), (gS, 0, false), (gq, (2 ^ (k + 1) * (a / 2 ^ (k + 1) / b)), false), (gr, (a / 2 ^ (k + 1) % b), false)]) := ⟨HO.out.call hb_⟩; clear HO hb_; have HO := n0_; clear n0_; have zA := HO.out.cell 0 k rfl HK1.out; rw [HX.out] at zA) | ((with_reducible refine gate_store (t := 84) (p := 7) (v := .tmp 14) rfl ?_); refine num_store ?hg (.tmp 7) (.tmp 14) ?ho HO.out 5 (g := gr) (m := (a / 2 ^ (k + 1) % b)) (s := false) (m' := (2 * (a / 2 ^ (k + 1) % b))) (s' := false) ?hi ?hx ?hy ?_; (case hg => rfl); (case ho => rfl); (case hi => rfl); (case hx => rfl); (case hy => rfl); intro w6 hO_; have n0_ : Aside0 (Own w w6 [(gA, a, ga), (gB, b, gb), (gQ, 0, false), (gS, 0, false), (gq, (2 ^ (k + 1) * (a / 2 ^ (k + 1) / b)), false), (gr, (2 * (a / 2 ^ (k + 1) % b)), false)]) := ⟨hO_⟩; clear HO hO_; have HO := n0_; clear n0_; clear zA; have zA := HO.out.cell 0 k rfl HK1.out; rw [HX.out] at zA; have z0 := HO.out.cell 5 0 rfl (by decide); have zf := HO.out.free 5 0 rfl))
          have n0_ : Aside0 (∀ W : World, Own w W [(gA, a, ga), (gB, b, gb), (gQ, 0, false), (gS, 0, false), (gq, (2 ^ (k + 1) * (a / 2 ^ (k + 1) / b)), false), (gr, (setb (2 * (a / 2 ^ (k + 1) % b)) 0 true), false)] → Own w W [(gA, a, ga), (gB, b, gb), (gQ, 0, false), (gS, 0, false), (gq, (2 ^ (k + 1) * (a / 2 ^ (k + 1) / b)), false), (gr, R, false)]) := ⟨fun W h => by rw [HR.out] at h; exact h⟩
          refine num_abs (w0 := w) (l := [(gA, a, ga), (gB, b, gb), (gQ, 0, false), (gS, 0, false), (gq, (2 ^ (k + 1) * (a / 2 ^ (k + 1) / b)), false), (gr, R, false)]) (n0_.out _ (HO.out.bit 5 0 rfl (by decide) true)) ?_
          intro w8 hO_
          clear HO n0_ z0 zf zA
          have HO := Aside0.mk hO_
          clear hO_
          go_wp2_with (first | ((with_reducible refine gate_dst (N := 21) rfl ?_); refine num_load ?hg (N := 21) ?hd (.tmp 7) ?ho HO.out 5 (g := gr) (m := R) (s := false) ?hi ?hx ?_; (case hd => rfl); (case hg => rfl); (case ho => rfl); (case hi => rfl); (case hx => rfl)) | ((with_reducible refine gate_dst (N := 22) rfl ?_); refine num_load ?hg (N := 22) ?hd (.tmp 3) ?ho HO.out 1 (g := gB) (m := b) (s := gb) ?hi ?hx ?_; (case hd => rfl); (case hg => rfl); (case ho => rfl); (case hi => rfl); (case hx => rfl)) | (go_at_call 65; (with_reducible refine (HBL.out _).mono ?_); rintro e_ w9 ⟨rfl, hb_⟩; have n0_ : Aside0 (Own w w9 [(gA, a, ga), (gB, b, gb), (gQ, 0, false), (gS, 0, false), (gq, (2 ^ (k + 1) * (a / 2 ^ (k + 1) / b)), false), (gr, R, false)]) := ⟨HO.out.call hb_⟩; clear HO hb_; have HO := n0_; clear n0_) | ((with_reducible refine gate_dst (N := 25) rfl ?_); refine num_load ?hg (N := 25) ?hd (.tmp 7) ?ho HO.out 5 (g := gr) (m := R) (s := false) ?hi ?hx ?_; (case hd => rfl); (case hg => rfl); (case ho => rfl); (case hi => rfl); (case hx => rfl)) | ((with_reducible refine gate_dst (N := 26) rfl ?_); refine num_load ?hg (N := 26) ?hd (.tmp 3) ?ho HO.out 1 (g := gB) (m := b) (s := gb) ?hi ?hx ?_; (case hd => rfl); (case hg => rfl); (case ho => rfl); (case hi => rfl); (case hx => rfl)) | (go_at_call 69; (with_reducible refine (num_less _ _ _ _ HLE.out _).mono ?_); rintro e_ w10 ⟨rfl, hb_⟩; have n0_ : Aside0 (Own w w10 [(gA, a, ga), (gB, b, gb), (gQ, 0, false), (gS, 0, false), (gq, (2 ^ (k + 1) * (a / 2 ^ (k + 1) / b)), false), (gr, R, false)]) := ⟨HO.out.call hb_⟩; clear HO hb_; have HO := n0_; clear n0_) | ((with_reducible refine gate_store (t := 84) (p := 7) (v := .tmp 27) rfl ?_); refine num_store ?hg (.tmp 7) (.tmp 27) ?ho HO.out 5 (g := gr) (m := R) (s := false) (m' := (R - b)) (s' := false) ?hi ?hx ?hy ?_; (case hg => rfl); (case ho => rfl); (case hi => rfl); (case hx => rfl); (case hy => rfl); intro w11 hO_; have n0_ : Aside0 (Own w w11 [(gA, a, ga), (gB, b, gb), (gQ, 0, false), (gS, 0, false), (gq, (2 ^ (k + 1) * (a / 2 ^ (k + 1) / b)), false), (gr, (R - b), false)]) := ⟨hO_⟩; clear HO hO_; have HO := n0_; clear n0_; have zq := HO.out.cell 4 k rfl HK1.out; have zqf := HO.out.free 4 k rfl))
          go_roundg k
          case measure => omega
          case rel => exact ⟨(k : Int) - 1, by first | rfl | go_num, ⟨by omega⟩, ⟨by have := HK.out; omega⟩, ⟨by have h := HO.out.bit 4 k rfl HK1.out true; rw [← HS.out.1, ← HS.out.2]; exact h⟩⟩
        case false =>
          rw [hxa] at zA
          have HS := Aside0.mk hst
          clear hst
          have HX := Aside0.mk hxa
          clear hxa
          go_upto_region 7 with (first | ((with_reducible refine gate_dst (N := 13) rfl ?_); refine num_load ?hg (N := 13) ?hd (.tmp 7) ?ho HO.out 5 (g := gr) (m := (a / 2 ^ (k + 1) % b)) (s := false) ?hi ?hx ?_; (case hd => rfl); (case hg => rfl); (case ho => rfl); (case hi => rfl); (case hx => rfl)) | (go_at_call 64; (with_reducible refine (num_twice _ _ _).mono ?_); rintro e_ w5 ⟨rfl, hb_⟩; clear zA; have n0_ : Aside0 (Own w w5 [(gA, a, ga), (gB, b, gb), (gQ, 0, false), (gS, 0, false), (gq, (2 ^ (k + 1) * (a / 2 ^ (k + 1) / b)), false), (gr, (a / 2 ^ (k + 1) % b), false)]) := ⟨HO.out.call hb_⟩; clear HO hb_; have HO := n0_; clear n0_; have zA := HO.out.cell 0 k rfl HK1.out; rw [HX.out] at zA) | ((with_reducible refine gate_store (t := 84) (p := 7) (v := .tmp 14) rfl ?_); refine num_store ?hg (.tmp 7) (.tmp 14) ?ho HO.out 5 (g := gr) (m := (a / 2 ^ (k + 1) % b)) (s := false) (m' := (2 * (a / 2 ^ (k + 1) % b))) (s' := false) ?hi ?hx ?hy ?_; (case hg => rfl); (case ho => rfl); (case hi => rfl); (case hx => rfl); (case hy => rfl); intro w6 hO_; have n0_ : Aside0 (Own w w6 [(gA, a, ga), (gB, b, gb), (gQ, 0, false), (gS, 0, false), (gq, (2 ^ (k + 1) * (a / 2 ^ (k + 1) / b)), false), (gr, (2 * (a / 2 ^ (k + 1) % b)), false)]) := ⟨hO_⟩; clear HO hO_; have HO := n0_; clear n0_; clear zA; have zA := HO.out.cell 0 k rfl HK1.out; rw [HX.out] at zA; have z0 := HO.out.cell 5 0 rfl (by decide); have zf := HO.out.free 5 0 rfl))
          have n0_ : Aside0 (∀ W : World, Own w W [(gA, a, ga), (gB, b, gb), (gQ, 0, false), (gS, 0, false), (gq, (2 ^ (k + 1) * (a / 2 ^ (k + 1) / b)), false), (gr, (setb (2 * (a / 2 ^ (k + 1) % b)) 0 false), false)] → Own w W [(gA, a, ga), (gB, b, gb), (gQ, 0, false), (gS, 0, false), (gq, (2 ^ (k + 1) * (a / 2 ^ (k + 1) / b)), false), (gr, R, false)]) := ⟨fun W h => by rw [HR.out] at h; exact h⟩
          refine num_abs (w0 := w) (l := [(gA, a, ga), (gB, b, gb), (gQ, 0, false), (gS, 0, false), (gq, (2 ^ (k + 1) * (a / 2 ^ (k + 1) / b)), false), (gr, R, false)]) (n0_.out _ (HO.out.bit 5 0 rfl (by decide) false)) ?_
          intro w8 hO_
          clear HO n0_ z0 zf zA
          have HO := Aside0.mk hO_
          clear hO_
          go_wp2_with (first | ((with_reducible refine gate_dst (N := 21) rfl ?_); refine num_load ?hg (N := 21) ?hd (.tmp 7) ?ho HO.out 5 (g := gr) (m := R) (s := false) ?hi ?hx ?_; (case hd => rfl); (case hg => rfl); (case ho => rfl); (case hi => rfl); (case hx => rfl)) | ((with_reducible refine gate_dst (N := 22) rfl ?_); refine num_load ?hg (N := 22) ?hd (.tmp 3) ?ho HO.out 1 (g := gB) (m := b) (s := gb) ?hi ?hx ?_; (case hd => rfl); (case hg => rfl); (case ho => rfl); (case hi => rfl); (case hx => rfl)) | (go_at_call 65; (with_reducible refine (HBL.out _).mono ?_); rintro e_ w9 ⟨rfl, hb_⟩; have n0_ : Aside0 (Own w w9 [(gA, a, ga), (gB, b, gb), (gQ, 0, false), (gS, 0, false), (gq, (2 ^ (k + 1) * (a / 2 ^ (k + 1) / b)), false), (gr, R, false)]) := ⟨HO.out.call hb_⟩; clear HO hb_; have HO := n0_; clear n0_) | ((with_reducible refine gate_dst (N := 25) rfl ?_); refine num_load ?hg (N := 25) ?hd (.tmp 7) ?ho HO.out 5 (g := gr) (m := R) (s := false) ?hi ?hx ?_; (case hd => rfl); (case hg => rfl); (case ho => rfl); (case hi => rfl); (case hx => rfl)) | ((with_reducible refine gate_dst (N := 26) rfl ?_); refine num_load ?hg (N := 26) ?hd (.tmp 3) ?ho HO.out 1 (g := gB) (m := b) (s := gb) ?hi ?hx ?_; (case hd => rfl); (case hg => rfl); (case ho => rfl); (case hi => rfl); (case hx => rfl)) | (go_at_call 69; (with_reducible refine (num_less _ _ _ _ HLE.out _).mono ?_); rintro e_ w10 ⟨rfl, hb_⟩; have n0_ : Aside0 (Own w w10 [(gA, a, ga), (gB, b, gb), (gQ, 0, false), (gS, 0, false), (gq, (2 ^ (k + 1) * (a / 2 ^ (k + 1) / b)), false), (gr, R, false)]) := ⟨HO.out.call hb_⟩; clear HO hb_; have HO := n0_; clear n0_) | ((with_reducible refine gate_store (t := 84) (p := 7) (v := .tmp 27) rfl ?_); refine num_store ?hg (.tmp 7) (.tmp 27) ?ho HO.out 5 (g := gr) (m := R) (s := false) (m' := (R - b)) (s' := false) ?hi ?hx ?hy ?_; (case hg => rfl); (case ho => rfl); (case hi => rfl); (case hx => rfl); (case hy => rfl); intro w11 hO_; have n0_ : Aside0 (Own w w11 [(gA, a, ga), (gB, b, gb), (gQ, 0, false), (gS, 0, false), (gq, (2 ^ (k + 1) * (a / 2 ^ (k + 1) / b)), false), (gr, (R - b), false)]) := ⟨hO_⟩; clear HO hO_; have HO := n0_; clear n0_; have zq := HO.out.cell 4 k rfl HK1.out; have zqf := HO.out.free 4 k rfl))
          go_roundg k
          case measure => omega
          case rel => exact ⟨(k : Int) - 1, by first | rfl | go_num, ⟨by omega⟩, ⟨by have := HK.out; omega⟩, ⟨by have h := HO.out.bit 4 k rfl HK1.out true; rw [← HS.out.1, ← HS.out.2]; exact h⟩⟩

end Go.Proofs.Ythaaghkplbbgdaa.Lia
