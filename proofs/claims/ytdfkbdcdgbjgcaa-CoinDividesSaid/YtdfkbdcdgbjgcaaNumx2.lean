/- Printed by this session's wip/drive.py over the translation; some functions by hand. -/
import Derived.Test.YtdfkbdcdgbjgcaaNumx0
import Derived.Test.YtdfkbdcdgbjgcaaNumx1
namespace Go.Proofs.Ytdfkbdcdgbjgcaa.Num
open Go.RowKit Go.Proofs.YtdfkbdcdgbjgcaaW.PrintWords Go.Proofs.YtdfkbdcdgbjgcaaW.PrintLast Go.Proofs.YtdfkbdcdgbjgcaaW.PrintMore
attribute [local go_sem] max2_int min2_int max_two min_two max_three min_three max_four min_four   -- for this text's walks alone
set_option linter.unusedVariables false
set_option linter.unusedSimpArgs false

/-! ### coin_Div: function 55 -/
def coin_Div.j0 : Nat → Int → Int → Int → Int → Bool → Option (Int × Int)
  | 0, _, _, _, _, _ => none
  | k + 1, x0, x1, x2, x3, x15 => if x15 = true then (some (0, 2)) else (if x2 = 0 then (some (0, 11)) else ((coin_times.f x0 x1).bind fun bt107 => ((coin_size.f x2).bind fun t110 => (if bt107.1 ≥ t110 then (some (0, 10)) else ((bits_Div64.f bt107.1 bt107.2.1 t110).bind fun bt112 => ((coin_away.f x3 (bt107.2.2 != (decide (x2 < 0))) bt112.2 t110 bt112.1).bind fun t114 => (if t114 = true then (if (IntKind.u64.wrap (bt112.1 + 1)) = 0 then (some (0, 10)) else ((coin_signed.f k (IntKind.u64.wrap (bt112.1 + 1)) (bt107.2.2 != (decide (x2 < 0)))).bind fun bt115 => (some (bt115.1, bt115.2)))) else ((coin_signed.f k bt112.1 (bt107.2.2 != (decide (x2 < 0)))).bind fun bt117 => (some (bt117.1, bt117.2))))))))))
def coin_Div.f (k : Nat) (a0 : Int) (a1 : Int) (a2 : Int) (a3 : Int) : Option (Int × Int) := if a3 < 1 then (coin_Div.j0 k a0 a1 a2 a3 true) else (coin_Div.j0 k a0 a1 a2 a3 (decide (a3 > 3)))
theorem coin_Div.mono_l : ∀ k, (∀ y0 y1 y2 y3 y4, LeO (coin_Div.j0 k y0 y1 y2 y3 y4) (coin_Div.j0 (k + 1) y0 y1 y2 y3 y4))
  | 0 => fun _ _ _ _ _ r h => by simp [coin_Div.j0] at h
  | k + 1 => by
    have ih0 := coin_Div.mono_l k
    · intro y0 y1 y2 y3 y4
      unfold coin_Div.j0
      repeat' first
      | (with_reducible exact ih0 _ _ _ _ _)
      | (with_reducible exact coin_signed.mono _ _ _)
      | (with_reducible exact LeO.refl _)
      | (with_reducible exact LeO.none _)
      | (with_reducible refine LeO.ite ?_ ?_)
      | (with_reducible refine LeO.bind ?_ (fun _ => ?_))
      | exact ih0 _ _ _ _ _
      | exact coin_signed.mono _ _ _
      | exact LeO.none _
      | refine LeO.ite ?_ ?_
      | refine LeO.bind ?_ (fun _ => ?_)
theorem coin_Div.mono : ∀ a0 a1 a2 a3 k, LeO (coin_Div.f k a0 a1 a2 a3) (coin_Div.f (k + 1) a0 a1 a2 a3) := by
  intro a0 a1 a2 a3 k
  have ih0 := coin_Div.mono_l k
  unfold coin_Div.f
  repeat' first
      | (with_reducible exact ih0 _ _ _ _ _)
      | (with_reducible exact coin_signed.mono _ _ _)
      | (with_reducible exact LeO.refl _)
      | (with_reducible exact LeO.none _)
      | (with_reducible refine LeO.ite ?_ ?_)
      | (with_reducible refine LeO.bind ?_ (fun _ => ?_))
      | exact ih0 _ _ _ _ _
      | exact coin_signed.mono _ _ _
      | exact LeO.none _
      | refine LeO.ite ?_ ?_
      | refine LeO.bind ?_ (fun _ => ?_)
set_option maxHeartbeats 8000000 in
set_option maxRecDepth 100000 in
theorem coin_Div.calls (k : Nat) (a0 : Int) (a1 : Int) (a2 : Int) (a3 : Int) (r1 : Int) (r2 : Int) (w : World) (h : coin_Div.f k a0 a1 a2 a3 = some (r1, r2)) :
    Calls Try.prog 55 #[.int .i64 a0, .int .i64 a1, .int .i64 a2, .int .i64 a3] w fun e w' => e = .returned (.tuple #[.int .i64 r1, .int .i64 r2]) ∧ Below w.heap.size w w' := by
  have hu104 := Try.underlying104
  have HB := Aside0.mk (Below.refl w.heap.size w)
  have H : (if a3 < 1 then (coin_Div.j0 k a0 a1 a2 a3 true) else (coin_Div.j0 k a0 a1 a2 a3 (decide (a3 > 3)))) = some (r1, r2) := h
  clear h
  have HC5 := Aside0.mk H
  clear H
  go_enter Try.func55, Try.ntmps55
  go_upto_region 1 with (fail)
  go_cut [15] (fun v15 wc => ∃ (kq : Nat) (x15_4 : Bool), v15 = .bool x15_4 ∧ Aside0 (coin_Div.j0 kq a0 a1 a2 a3 x15_4 = some (r1, r2)) ∧ Aside0 (kq ≤ k) ∧ Aside0 (Below w.heap.size w wc))
  case first =>
    have H := HC5.out
    clear HC5
    by_cases c6 : a3 < 1
    · rw [if_pos c6] at H
      have c6b0 : decide (a3 < 1) = true := decide_eq_true c6
      clear c6
      (first | rw [c6b0] | (simp only [i64_w, i32_w]; rw [c6b0]) | skip)
      have H' := Aside0.mk H
      clear H
      go_wp2
      go_meet
      case rel => exact ⟨_, (true), (by first | rfl | (simp; done) | (simp [*]; done)), H', ⟨by first | omega | exact Nat.le_refl _⟩, ⟨by repeat (first | (with_reducible first | exact HB.out | apply below_alloc | apply pw_below_drewN | apply below_drew1) | exact HB.out)⟩⟩
    · rw [if_neg c6] at H
      have c6b0 : decide (a3 < 1) = false := decide_eq_false c6
      clear c6
      (first | rw [c6b0] | (simp only [i64_w, i32_w]; rw [c6b0]) | skip)
      have H' := Aside0.mk H
      clear H
      go_wp2
      go_meet
      case rel => exact ⟨_, (decide (a3 > 3)), (by first | rfl | (simp; done) | (simp [*]; done)), H', ⟨by first | omega | exact Nat.le_refl _⟩, ⟨by repeat (first | (with_reducible first | exact HB.out | apply below_alloc | apply pw_below_drewN | apply below_drew1) | exact HB.out)⟩⟩
  case rest =>
    clear HC5
    try clear p2
    try clear c5
    try clear c6
    try clear c6b0
    obtain ⟨kq, x15_4, rfl, HA, HJ4, HB⟩ := hcut
    cases kq with
    | zero => exact absurd HA.out (by simp [coin_Div.j0])
    | succ kj4 =>
      have H := HA.out
      clear HA
      simp only [coin_Div.j0] at H
      by_cases c7 : x15_4 = true
      · subst c7
        have H1 : (some (0, 2)) = some (r1, r2) := by rw [if_pos rfl] at H; exact H
        clear H
        have H := H1
        clear H1
        simp only [Option.some.injEq, Prod.mk.injEq] at H
        obtain ⟨rfl, rfl⟩ := H
        go_wp2
        go_ret2
        exact ⟨by first | rfl | (simp [errW_none, errW_some] <;> rfl) | (simp [*, errW_none, errW_some] <;> rfl), by repeat (first | (with_reducible first | exact HB.out | apply below_alloc | apply pw_below_drewN | apply below_drew1) | exact HB.out)⟩
      · replace c7 := Bool.eq_false_iff.mpr c7
        subst c7
        have H1 : (if a2 = 0 then (some (0, 11)) else ((coin_times.f a0 a1).bind fun bt107 => ((coin_size.f a2).bind fun t110 => (if bt107.1 ≥ t110 then (some (0, 10)) else ((bits_Div64.f bt107.1 bt107.2.1 t110).bind fun bt112 => ((coin_away.f a3 (bt107.2.2 != (decide (a2 < 0))) bt112.2 t110 bt112.1).bind fun t114 => (if t114 = true then (if (IntKind.u64.wrap (bt112.1 + 1)) = 0 then (some (0, 10)) else ((coin_signed.f kj4 (IntKind.u64.wrap (bt112.1 + 1)) (bt107.2.2 != (decide (a2 < 0)))).bind fun bt115 => (some (bt115.1, bt115.2)))) else ((coin_signed.f kj4 bt112.1 (bt107.2.2 != (decide (a2 < 0)))).bind fun bt117 => (some (bt117.1, bt117.2)))))))))) = some (r1, r2) := by rw [if_neg (show ¬ (false = true) by decide)] at H; exact H
        clear H
        have H := H1
        clear H1
        by_cases c8 : a2 = 0
        · rw [if_pos c8] at H
          have c8b0 : (a2 == 0) = true := beq_iff_eq.mpr c8
          have c8b1 : (a2 != 0) = false := bne_eq_false_iff_eq.mpr c8
          clear c8
          simp only [Option.some.injEq, Prod.mk.injEq] at H
          obtain ⟨rfl, rfl⟩ := H
          go_wp2
          go_ret2
          exact ⟨by first | rfl | (simp [errW_none, errW_some] <;> rfl) | (simp [*, errW_none, errW_some] <;> rfl), by repeat (first | (with_reducible first | exact HB.out | apply below_alloc | apply pw_below_drewN | apply below_drew1) | exact HB.out)⟩
        · rw [if_neg c8] at H
          have c8b0 : (a2 == 0) = false := beq_eq_false_iff_ne.mpr c8
          have c8b1 : (a2 != 0) = true := bne_iff_ne.mpr c8
          replace H := Option.bind_eq_some_iff.mp H
          obtain ⟨⟨t107, t108, t109⟩, A90, H⟩ := H
          replace H : ((coin_size.f a2).bind fun t110 => (if t107 ≥ t110 then (some (0, 10)) else ((bits_Div64.f t107 t108 t110).bind fun bt112 => ((coin_away.f a3 (t109 != (decide (a2 < 0))) bt112.2 t110 bt112.1).bind fun t114 => (if t114 = true then (if (IntKind.u64.wrap (bt112.1 + 1)) = 0 then (some (0, 10)) else ((coin_signed.f kj4 (IntKind.u64.wrap (bt112.1 + 1)) (t109 != (decide (a2 < 0)))).bind fun bt115 => (some (bt115.1, bt115.2)))) else ((coin_signed.f kj4 bt112.1 (t109 != (decide (a2 < 0)))).bind fun bt117 => (some (bt117.1, bt117.2)))))))) = some (r1, r2) := H
          have A9 := Aside0.mk A90
          clear A90
          replace H := Option.bind_eq_some_iff.mp H
          obtain ⟨t110, A100, H⟩ := H
          replace H : (if t107 ≥ t110 then (some (0, 10)) else ((bits_Div64.f t107 t108 t110).bind fun bt112 => ((coin_away.f a3 (t109 != (decide (a2 < 0))) bt112.2 t110 bt112.1).bind fun t114 => (if t114 = true then (if (IntKind.u64.wrap (bt112.1 + 1)) = 0 then (some (0, 10)) else ((coin_signed.f kj4 (IntKind.u64.wrap (bt112.1 + 1)) (t109 != (decide (a2 < 0)))).bind fun bt115 => (some (bt115.1, bt115.2)))) else ((coin_signed.f kj4 bt112.1 (t109 != (decide (a2 < 0)))).bind fun bt117 => (some (bt117.1, bt117.2))))))) = some (r1, r2) := H
          have A10 := Aside0.mk A100
          clear A100
          by_cases c11 : t107 ≥ t110
          · rw [if_pos c11] at H
            have c11b0 : decide (t110 ≤ t107) = true := decide_eq_true c11
            clear c11
            simp only [Option.some.injEq, Prod.mk.injEq] at H
            obtain ⟨rfl, rfl⟩ := H
            go_wp2_with (first | ((with_reducible refine gate_callee (f := 84) rfl ?_); refine goesL_ (some 27) rfl rfl Try.func84 (by kernel_rfl) rfl #[.int .i64 a0, .int .i64 a1] rfl (by (try simp only [List.map_toArray, List.map_cons, List.map_nil]); first | done | rfl | (simp only [List.length_drop, List.length_take]; rfl)) ?_; (with_reducible refine (coin_times.calls a0 a1 t107 t108 t109 _ A9.out).mono ?_); rintro e w12 ⟨rfl, hb⟩; refine ⟨_, rfl, ?_⟩; have n0_ := Aside0.mk (below_step (by repeat (first | (with_reducible first | exact HB.out | apply below_alloc | apply pw_below_drewN | apply below_drew1) | exact HB.out)) hb); clear HB; have HB := n0_; clear n0_; (try clear hb); (try clear hb2); (try clear hk); (try clear hi)) | ((with_reducible refine gate_callee (f := 85) rfl ?_); refine goesL_ (some 29) rfl rfl Try.func85 (by kernel_rfl) rfl #[.int .i64 a2] rfl (by (try simp only [List.map_toArray, List.map_cons, List.map_nil]); first | done | rfl | (simp only [List.length_drop, List.length_take]; rfl)) ?_; (with_reducible refine (coin_size.calls a2 t110 _ A10.out).mono ?_); rintro e w' ⟨rfl, ⟨nd, rfl⟩⟩; refine ⟨_, rfl, ?_⟩; (try (rw [drewN_self w12]; generalize hq_ : World.drewN w12 _ = w12; have n0_ : Aside0 (Below w.heap.size w w12) := ⟨by rw [← hq_]; exact (by repeat (first | (with_reducible first | exact HB.out | apply below_alloc | apply pw_below_drewN | apply below_drew1) | exact HB.out))⟩; clear HB hq_; have HB := n0_; clear n0_))) | ((with_reducible refine gate_dst (N := 10) rfl ?_); refine box_event ?hg (N := 10) ?hd (cs := #[.int .u64 0, .int .u64 0, .bool false]) (t := 104) ?hr ?_; (case hd => rfl); (case hg => rfl); (case hr => first | (go_simp; done) | (go_simp; rfl)); intro gb111 hg w13 hbox hb; have n0_ := Aside0.mk (below_step (by repeat (first | (with_reducible first | exact HB.out | apply below_alloc | apply pw_below_drewN | apply below_drew1) | exact HB.out)) hb); have n1_ := Aside0.mk (hbox); have n2_ := Aside0.mk ((by rw [hg]; exact (below_size (by repeat (first | (with_reducible first | exact HB.out | apply below_alloc | apply pw_below_drewN | apply below_drew1) | exact HB.out))) : w.heap.size ≤ gb111)); have n3_ := Aside0.mk ((by rw [hg]; exact (below_size (by repeat (first | (with_reducible first | exact HB.out | apply below_alloc | apply pw_below_drewN | apply below_drew1) | exact HB.out))) : w.heap.size ≤ gb111)); clear HB; have HB := n0_; have BK111 := n1_; have GW111 := n2_; have GE111 := n3_; clear n0_ n1_ n2_ n3_; clear hb hbox hg; have hcz14_0 : w13.cell? ⟨gb111, 0, none⟩ = some (.int .u64 0) := (blk_cell BK111.out 0).trans rfl; have hcz14_1 : w13.cell? ⟨gb111, 1, none⟩ = some (.int .u64 0) := (blk_cell BK111.out 1).trans rfl; have hcz14_2 : w13.cell? ⟨gb111, 2, none⟩ = some (.bool false) := (blk_cell BK111.out 2).trans rfl; have hfz14_0 := blk_frozen BK111.out 0; have hfz14_1 := blk_frozen BK111.out 1; have hfz14_2 := blk_frozen BK111.out 2))
            go_ret2
            exact ⟨by first | rfl | (simp [errW_none, errW_some] <;> rfl) | (simp [*, errW_none, errW_some] <;> rfl), by repeat (first | (with_reducible first | exact HB.out | apply below_alloc | apply pw_below_drewN | apply below_drew1 | refine below_set ?_ GE111.out) | exact HB.out)⟩
          · rw [if_neg c11] at H
            have c11b0 : decide (t110 ≤ t107) = false := decide_eq_false c11
            clear c11
            replace H := Option.bind_eq_some_iff.mp H
            obtain ⟨⟨t112, t113⟩, A150, H⟩ := H
            replace H : ((coin_away.f a3 (t109 != (decide (a2 < 0))) t113 t110 t112).bind fun t114 => (if t114 = true then (if (IntKind.u64.wrap (t112 + 1)) = 0 then (some (0, 10)) else ((coin_signed.f kj4 (IntKind.u64.wrap (t112 + 1)) (t109 != (decide (a2 < 0)))).bind fun bt115 => (some (bt115.1, bt115.2)))) else ((coin_signed.f kj4 t112 (t109 != (decide (a2 < 0)))).bind fun bt117 => (some (bt117.1, bt117.2))))) = some (r1, r2) := H
            have A15 := Aside0.mk A150
            clear A150
            replace H := Option.bind_eq_some_iff.mp H
            obtain ⟨t114, A160, H⟩ := H
            replace H : (if t114 = true then (if (IntKind.u64.wrap (t112 + 1)) = 0 then (some (0, 10)) else ((coin_signed.f kj4 (IntKind.u64.wrap (t112 + 1)) (t109 != (decide (a2 < 0)))).bind fun bt115 => (some (bt115.1, bt115.2)))) else ((coin_signed.f kj4 t112 (t109 != (decide (a2 < 0)))).bind fun bt117 => (some (bt117.1, bt117.2)))) = some (r1, r2) := H
            have A16 := Aside0.mk A160
            clear A160
            by_cases c17 : t114 = true
            · subst c17
              have H1 : (if (IntKind.u64.wrap (t112 + 1)) = 0 then (some (0, 10)) else ((coin_signed.f kj4 (IntKind.u64.wrap (t112 + 1)) (t109 != (decide (a2 < 0)))).bind fun bt115 => (some (bt115.1, bt115.2)))) = some (r1, r2) := by rw [if_pos rfl] at H; exact H
              clear H
              have H := H1
              clear H1
              by_cases c18 : (IntKind.u64.wrap (t112 + 1)) = 0
              · rw [if_pos c18] at H
                have c18b0 : ((IntKind.u64.wrap (t112 + 1)) == 0) = true := beq_iff_eq.mpr c18
                have c18b1 : ((IntKind.u64.wrap (t112 + 1)) != 0) = false := bne_eq_false_iff_eq.mpr c18
                clear c18
                simp only [Option.some.injEq, Prod.mk.injEq] at H
                obtain ⟨rfl, rfl⟩ := H
                go_wp2_with (first | ((with_reducible refine gate_callee (f := 84) rfl ?_); refine goesL_ (some 27) rfl rfl Try.func84 (by kernel_rfl) rfl #[.int .i64 a0, .int .i64 a1] rfl (by (try simp only [List.map_toArray, List.map_cons, List.map_nil]); first | done | rfl | (simp only [List.length_drop, List.length_take]; rfl)) ?_; (with_reducible refine (coin_times.calls a0 a1 t107 t108 t109 _ A9.out).mono ?_); rintro e w19 ⟨rfl, hb⟩; refine ⟨_, rfl, ?_⟩; have n0_ := Aside0.mk (below_step (by repeat (first | (with_reducible first | exact HB.out | apply below_alloc | apply pw_below_drewN | apply below_drew1) | exact HB.out)) hb); clear HB; have HB := n0_; clear n0_; (try clear hb); (try clear hb2); (try clear hk); (try clear hi)) | ((with_reducible refine gate_callee (f := 85) rfl ?_); refine goesL_ (some 29) rfl rfl Try.func85 (by kernel_rfl) rfl #[.int .i64 a2] rfl (by (try simp only [List.map_toArray, List.map_cons, List.map_nil]); first | done | rfl | (simp only [List.length_drop, List.length_take]; rfl)) ?_; (with_reducible refine (coin_size.calls a2 t110 _ A10.out).mono ?_); rintro e w' ⟨rfl, ⟨nd, rfl⟩⟩; refine ⟨_, rfl, ?_⟩; (try (rw [drewN_self w19]; generalize hq_ : World.drewN w19 _ = w19; have n0_ : Aside0 (Below w.heap.size w w19) := ⟨by rw [← hq_]; exact (by repeat (first | (with_reducible first | exact HB.out | apply below_alloc | apply pw_below_drewN | apply below_drew1) | exact HB.out))⟩; clear HB hq_; have HB := n0_; clear n0_))) | ((with_reducible refine gate_dst (N := 10) rfl ?_); refine box_event ?hg (N := 10) ?hd (cs := #[.int .u64 0, .int .u64 0, .bool false]) (t := 104) ?hr ?_; (case hd => rfl); (case hg => rfl); (case hr => first | (go_simp; done) | (go_simp; rfl)); intro gb111 hg w20 hbox hb; have n0_ := Aside0.mk (below_step (by repeat (first | (with_reducible first | exact HB.out | apply below_alloc | apply pw_below_drewN | apply below_drew1) | exact HB.out)) hb); have n1_ := Aside0.mk (hbox); have n2_ := Aside0.mk ((by rw [hg]; exact (below_size (by repeat (first | (with_reducible first | exact HB.out | apply below_alloc | apply pw_below_drewN | apply below_drew1) | exact HB.out))) : w.heap.size ≤ gb111)); have n3_ := Aside0.mk ((by rw [hg]; exact (below_size (by repeat (first | (with_reducible first | exact HB.out | apply below_alloc | apply pw_below_drewN | apply below_drew1) | exact HB.out))) : w.heap.size ≤ gb111)); clear HB; have HB := n0_; have BK111 := n1_; have GW111 := n2_; have GE111 := n3_; clear n0_ n1_ n2_ n3_; clear hb hbox hg; have hcz21_0 : w20.cell? ⟨gb111, 0, none⟩ = some (.int .u64 0) := (blk_cell BK111.out 0).trans rfl; have hcz21_1 : w20.cell? ⟨gb111, 1, none⟩ = some (.int .u64 0) := (blk_cell BK111.out 1).trans rfl; have hcz21_2 : w20.cell? ⟨gb111, 2, none⟩ = some (.bool false) := (blk_cell BK111.out 2).trans rfl; have hfz21_0 := blk_frozen BK111.out 0; have hfz21_1 := blk_frozen BK111.out 1; have hfz21_2 := blk_frozen BK111.out 2) | ((with_reducible refine gate_callee (f := 86) rfl ?_); refine goesL_ (some 40) rfl rfl Try.func86 (by kernel_rfl) rfl #[.int .u64 t107, .int .u64 t108, .int .u64 t110] rfl (by (try simp only [List.map_toArray, List.map_cons, List.map_nil]); first | done | rfl | (simp only [List.length_drop, List.length_take]; rfl)) ?_; (with_reducible refine (bits_Div64.calls t107 t108 t110 t112 t113 _ A15.out).mono ?_); rintro e w22 ⟨rfl, hb⟩; refine ⟨_, rfl, ?_⟩; have n0_ := Aside0.mk (blk_below (g := gb111) (o := .cells #[.int .u64 t107, .int .u64 t108, .bool t109] 104 (0, 0)) (by (with_reducible repeat (first | refine blk_drewN ?_ _ | refine blk_drew ?_ | refine blk_alloc ?_ _)); refine blk_put (cs := #[.int .u64 t107, .int .u64 t108, .bool false]) ?_ 2 _ rfl; (with_reducible repeat (first | refine blk_drewN ?_ _ | refine blk_drew ?_ | refine blk_alloc ?_ _)); refine blk_put (cs := #[.int .u64 t107, .int .u64 0, .bool false]) ?_ 1 _ rfl; (with_reducible repeat (first | refine blk_drewN ?_ _ | refine blk_drew ?_ | refine blk_alloc ?_ _)); refine blk_put (cs := #[.int .u64 0, .int .u64 0, .bool false]) ?_ 0 _ rfl; (with_reducible repeat (first | refine blk_drewN ?_ _ | refine blk_drew ?_ | refine blk_alloc ?_ _)); exact BK111.out) hb); have n1_ := Aside0.mk (below_step (by repeat (first | (with_reducible first | exact HB.out | apply below_alloc | apply pw_below_drewN | apply below_drew1 | refine below_set ?_ GE111.out) | exact HB.out)) hb); clear BK111; clear HB; have BK111 := n0_; have HB := n1_; clear n0_ n1_; (try clear hb); (try clear hb2); (try clear hk); (try clear hi); have hcz23_0 : w22.cell? ⟨gb111, 0, none⟩ = some (.int .u64 t107) := (blk_cell BK111.out 0).trans rfl; have hcz23_1 : w22.cell? ⟨gb111, 1, none⟩ = some (.int .u64 t108) := (blk_cell BK111.out 1).trans rfl; have hcz23_2 : w22.cell? ⟨gb111, 2, none⟩ = some (.bool t109) := (blk_cell BK111.out 2).trans rfl; have hfz23_0 := blk_frozen BK111.out 0; have hfz23_1 := blk_frozen BK111.out 1; have hfz23_2 := blk_frozen BK111.out 2) | ((with_reducible refine gate_callee (f := 87) rfl ?_); refine goesL_ (some 53) rfl rfl Try.func87 (by kernel_rfl) rfl #[.int .i64 a3, .bool (t109 != (decide (a2 < 0))), .int .u64 t113, .int .u64 t110, .int .u64 t112] rfl (by (try simp only [List.map_toArray, List.map_cons, List.map_nil]); first | done | rfl | (simp only [List.length_drop, List.length_take]; rfl)) ?_; (with_reducible refine (coin_away.calls a3 (t109 != (decide (a2 < 0))) t113 t110 t112 true _ A16.out).mono ?_); rintro e w24 ⟨rfl, hb⟩; refine ⟨_, rfl, ?_⟩; have n0_ := Aside0.mk (blk_below (g := gb111) (o := .cells #[.int .u64 t107, .int .u64 t108, .bool t109] 104 (0, 0)) (by (with_reducible repeat (first | refine blk_drewN ?_ _ | refine blk_drew ?_ | refine blk_alloc ?_ _)); exact BK111.out) hb); have n1_ := Aside0.mk (below_step (by repeat (first | (with_reducible first | exact HB.out | apply below_alloc | apply pw_below_drewN | apply below_drew1 | refine below_set ?_ GE111.out) | exact HB.out)) hb); clear BK111; clear HB; have BK111 := n0_; have HB := n1_; clear n0_ n1_; (try clear hb); (try clear hb2); (try clear hk); (try clear hi)))
                go_ret2
                exact ⟨by first | rfl | (simp [errW_none, errW_some] <;> rfl) | (simp [*, errW_none, errW_some] <;> rfl), by repeat (first | (with_reducible first | exact HB.out | apply below_alloc | apply pw_below_drewN | apply below_drew1 | refine below_set ?_ GE111.out) | exact HB.out)⟩
              · rw [if_neg c18] at H
                have c18b0 : ((IntKind.u64.wrap (t112 + 1)) == 0) = false := beq_eq_false_iff_ne.mpr c18
                have c18b1 : ((IntKind.u64.wrap (t112 + 1)) != 0) = true := bne_iff_ne.mpr c18
                replace H := Option.bind_eq_some_iff.mp H
                obtain ⟨⟨t115, t116⟩, A250, H⟩ := H
                replace H : (some (t115, t116)) = some (r1, r2) := H
                have A25 := Aside0.mk A250
                clear A250
                simp only [Option.some.injEq, Prod.mk.injEq] at H
                obtain ⟨rfl, rfl⟩ := H
                go_wp2_with (first | ((with_reducible refine gate_callee (f := 84) rfl ?_); refine goesL_ (some 27) rfl rfl Try.func84 (by kernel_rfl) rfl #[.int .i64 a0, .int .i64 a1] rfl (by (try simp only [List.map_toArray, List.map_cons, List.map_nil]); first | done | rfl | (simp only [List.length_drop, List.length_take]; rfl)) ?_; (with_reducible refine (coin_times.calls a0 a1 t107 t108 t109 _ A9.out).mono ?_); rintro e w26 ⟨rfl, hb⟩; refine ⟨_, rfl, ?_⟩; have n0_ := Aside0.mk (below_step (by repeat (first | (with_reducible first | exact HB.out | apply below_alloc | apply pw_below_drewN | apply below_drew1) | exact HB.out)) hb); clear HB; have HB := n0_; clear n0_; (try clear hb); (try clear hb2); (try clear hk); (try clear hi)) | ((with_reducible refine gate_callee (f := 85) rfl ?_); refine goesL_ (some 29) rfl rfl Try.func85 (by kernel_rfl) rfl #[.int .i64 a2] rfl (by (try simp only [List.map_toArray, List.map_cons, List.map_nil]); first | done | rfl | (simp only [List.length_drop, List.length_take]; rfl)) ?_; (with_reducible refine (coin_size.calls a2 t110 _ A10.out).mono ?_); rintro e w' ⟨rfl, ⟨nd, rfl⟩⟩; refine ⟨_, rfl, ?_⟩; (try (rw [drewN_self w26]; generalize hq_ : World.drewN w26 _ = w26; have n0_ : Aside0 (Below w.heap.size w w26) := ⟨by rw [← hq_]; exact (by repeat (first | (with_reducible first | exact HB.out | apply below_alloc | apply pw_below_drewN | apply below_drew1) | exact HB.out))⟩; clear HB hq_; have HB := n0_; clear n0_))) | ((with_reducible refine gate_dst (N := 10) rfl ?_); refine box_event ?hg (N := 10) ?hd (cs := #[.int .u64 0, .int .u64 0, .bool false]) (t := 104) ?hr ?_; (case hd => rfl); (case hg => rfl); (case hr => first | (go_simp; done) | (go_simp; rfl)); intro gb111 hg w27 hbox hb; have n0_ := Aside0.mk (below_step (by repeat (first | (with_reducible first | exact HB.out | apply below_alloc | apply pw_below_drewN | apply below_drew1) | exact HB.out)) hb); have n1_ := Aside0.mk (hbox); have n2_ := Aside0.mk ((by rw [hg]; exact (below_size (by repeat (first | (with_reducible first | exact HB.out | apply below_alloc | apply pw_below_drewN | apply below_drew1) | exact HB.out))) : w.heap.size ≤ gb111)); have n3_ := Aside0.mk ((by rw [hg]; exact (below_size (by repeat (first | (with_reducible first | exact HB.out | apply below_alloc | apply pw_below_drewN | apply below_drew1) | exact HB.out))) : w.heap.size ≤ gb111)); clear HB; have HB := n0_; have BK111 := n1_; have GW111 := n2_; have GE111 := n3_; clear n0_ n1_ n2_ n3_; clear hb hbox hg; have hcz28_0 : w27.cell? ⟨gb111, 0, none⟩ = some (.int .u64 0) := (blk_cell BK111.out 0).trans rfl; have hcz28_1 : w27.cell? ⟨gb111, 1, none⟩ = some (.int .u64 0) := (blk_cell BK111.out 1).trans rfl; have hcz28_2 : w27.cell? ⟨gb111, 2, none⟩ = some (.bool false) := (blk_cell BK111.out 2).trans rfl; have hfz28_0 := blk_frozen BK111.out 0; have hfz28_1 := blk_frozen BK111.out 1; have hfz28_2 := blk_frozen BK111.out 2) | ((with_reducible refine gate_callee (f := 86) rfl ?_); refine goesL_ (some 40) rfl rfl Try.func86 (by kernel_rfl) rfl #[.int .u64 t107, .int .u64 t108, .int .u64 t110] rfl (by (try simp only [List.map_toArray, List.map_cons, List.map_nil]); first | done | rfl | (simp only [List.length_drop, List.length_take]; rfl)) ?_; (with_reducible refine (bits_Div64.calls t107 t108 t110 t112 t113 _ A15.out).mono ?_); rintro e w29 ⟨rfl, hb⟩; refine ⟨_, rfl, ?_⟩; have n0_ := Aside0.mk (blk_below (g := gb111) (o := .cells #[.int .u64 t107, .int .u64 t108, .bool t109] 104 (0, 0)) (by (with_reducible repeat (first | refine blk_drewN ?_ _ | refine blk_drew ?_ | refine blk_alloc ?_ _)); refine blk_put (cs := #[.int .u64 t107, .int .u64 t108, .bool false]) ?_ 2 _ rfl; (with_reducible repeat (first | refine blk_drewN ?_ _ | refine blk_drew ?_ | refine blk_alloc ?_ _)); refine blk_put (cs := #[.int .u64 t107, .int .u64 0, .bool false]) ?_ 1 _ rfl; (with_reducible repeat (first | refine blk_drewN ?_ _ | refine blk_drew ?_ | refine blk_alloc ?_ _)); refine blk_put (cs := #[.int .u64 0, .int .u64 0, .bool false]) ?_ 0 _ rfl; (with_reducible repeat (first | refine blk_drewN ?_ _ | refine blk_drew ?_ | refine blk_alloc ?_ _)); exact BK111.out) hb); have n1_ := Aside0.mk (below_step (by repeat (first | (with_reducible first | exact HB.out | apply below_alloc | apply pw_below_drewN | apply below_drew1 | refine below_set ?_ GE111.out) | exact HB.out)) hb); clear BK111; clear HB; have BK111 := n0_; have HB := n1_; clear n0_ n1_; (try clear hb); (try clear hb2); (try clear hk); (try clear hi); have hcz30_0 : w29.cell? ⟨gb111, 0, none⟩ = some (.int .u64 t107) := (blk_cell BK111.out 0).trans rfl; have hcz30_1 : w29.cell? ⟨gb111, 1, none⟩ = some (.int .u64 t108) := (blk_cell BK111.out 1).trans rfl; have hcz30_2 : w29.cell? ⟨gb111, 2, none⟩ = some (.bool t109) := (blk_cell BK111.out 2).trans rfl; have hfz30_0 := blk_frozen BK111.out 0; have hfz30_1 := blk_frozen BK111.out 1; have hfz30_2 := blk_frozen BK111.out 2) | ((with_reducible refine gate_callee (f := 87) rfl ?_); refine goesL_ (some 53) rfl rfl Try.func87 (by kernel_rfl) rfl #[.int .i64 a3, .bool (t109 != (decide (a2 < 0))), .int .u64 t113, .int .u64 t110, .int .u64 t112] rfl (by (try simp only [List.map_toArray, List.map_cons, List.map_nil]); first | done | rfl | (simp only [List.length_drop, List.length_take]; rfl)) ?_; (with_reducible refine (coin_away.calls a3 (t109 != (decide (a2 < 0))) t113 t110 t112 true _ A16.out).mono ?_); rintro e w31 ⟨rfl, hb⟩; refine ⟨_, rfl, ?_⟩; have n0_ := Aside0.mk (blk_below (g := gb111) (o := .cells #[.int .u64 t107, .int .u64 t108, .bool t109] 104 (0, 0)) (by (with_reducible repeat (first | refine blk_drewN ?_ _ | refine blk_drew ?_ | refine blk_alloc ?_ _)); exact BK111.out) hb); have n1_ := Aside0.mk (below_step (by repeat (first | (with_reducible first | exact HB.out | apply below_alloc | apply pw_below_drewN | apply below_drew1 | refine below_set ?_ GE111.out) | exact HB.out)) hb); clear BK111; clear HB; have BK111 := n0_; have HB := n1_; clear n0_ n1_; (try clear hb); (try clear hb2); (try clear hk); (try clear hi)) | ((with_reducible refine gate_callee (f := 88) rfl ?_); refine goesL_ (some 60) rfl rfl Try.func88 (by kernel_rfl) rfl #[.int .u64 (IntKind.u64.wrap (t112 + 1)), .bool (t109 != (decide (a2 < 0)))] rfl (by (try simp only [List.map_toArray, List.map_cons, List.map_nil]); first | done | rfl | (simp only [List.length_drop, List.length_take]; rfl)) ?_; (with_reducible refine (coin_signed.calls kj4 (IntKind.u64.wrap (t112 + 1)) (t109 != (decide (a2 < 0))) t115 t116 _ A25.out).mono ?_); rintro e w' ⟨rfl, ⟨nd, rfl⟩⟩; refine ⟨_, rfl, ?_⟩))
                go_ret2
                exact ⟨by first | rfl | (simp [errW_none, errW_some] <;> rfl) | (simp [*, errW_none, errW_some] <;> rfl), by repeat (first | (with_reducible first | exact HB.out | apply below_alloc | apply pw_below_drewN | apply below_drew1 | refine below_set ?_ GE111.out) | exact HB.out)⟩
            · replace c17 := Bool.eq_false_iff.mpr c17
              subst c17
              have H1 : ((coin_signed.f kj4 t112 (t109 != (decide (a2 < 0)))).bind fun bt117 => (some (bt117.1, bt117.2))) = some (r1, r2) := by rw [if_neg (show ¬ (false = true) by decide)] at H; exact H
              clear H
              have H := H1
              clear H1
              replace H := Option.bind_eq_some_iff.mp H
              obtain ⟨⟨t117, t118⟩, A320, H⟩ := H
              replace H : (some (t117, t118)) = some (r1, r2) := H
              have A32 := Aside0.mk A320
              clear A320
              simp only [Option.some.injEq, Prod.mk.injEq] at H
              obtain ⟨rfl, rfl⟩ := H
              go_wp2_with (first | ((with_reducible refine gate_callee (f := 84) rfl ?_); refine goesL_ (some 27) rfl rfl Try.func84 (by kernel_rfl) rfl #[.int .i64 a0, .int .i64 a1] rfl (by (try simp only [List.map_toArray, List.map_cons, List.map_nil]); first | done | rfl | (simp only [List.length_drop, List.length_take]; rfl)) ?_; (with_reducible refine (coin_times.calls a0 a1 t107 t108 t109 _ A9.out).mono ?_); rintro e w33 ⟨rfl, hb⟩; refine ⟨_, rfl, ?_⟩; have n0_ := Aside0.mk (below_step (by repeat (first | (with_reducible first | exact HB.out | apply below_alloc | apply pw_below_drewN | apply below_drew1) | exact HB.out)) hb); clear HB; have HB := n0_; clear n0_; (try clear hb); (try clear hb2); (try clear hk); (try clear hi)) | ((with_reducible refine gate_callee (f := 85) rfl ?_); refine goesL_ (some 29) rfl rfl Try.func85 (by kernel_rfl) rfl #[.int .i64 a2] rfl (by (try simp only [List.map_toArray, List.map_cons, List.map_nil]); first | done | rfl | (simp only [List.length_drop, List.length_take]; rfl)) ?_; (with_reducible refine (coin_size.calls a2 t110 _ A10.out).mono ?_); rintro e w' ⟨rfl, ⟨nd, rfl⟩⟩; refine ⟨_, rfl, ?_⟩; (try (rw [drewN_self w33]; generalize hq_ : World.drewN w33 _ = w33; have n0_ : Aside0 (Below w.heap.size w w33) := ⟨by rw [← hq_]; exact (by repeat (first | (with_reducible first | exact HB.out | apply below_alloc | apply pw_below_drewN | apply below_drew1) | exact HB.out))⟩; clear HB hq_; have HB := n0_; clear n0_))) | ((with_reducible refine gate_dst (N := 10) rfl ?_); refine box_event ?hg (N := 10) ?hd (cs := #[.int .u64 0, .int .u64 0, .bool false]) (t := 104) ?hr ?_; (case hd => rfl); (case hg => rfl); (case hr => first | (go_simp; done) | (go_simp; rfl)); intro gb111 hg w34 hbox hb; have n0_ := Aside0.mk (below_step (by repeat (first | (with_reducible first | exact HB.out | apply below_alloc | apply pw_below_drewN | apply below_drew1) | exact HB.out)) hb); have n1_ := Aside0.mk (hbox); have n2_ := Aside0.mk ((by rw [hg]; exact (below_size (by repeat (first | (with_reducible first | exact HB.out | apply below_alloc | apply pw_below_drewN | apply below_drew1) | exact HB.out))) : w.heap.size ≤ gb111)); have n3_ := Aside0.mk ((by rw [hg]; exact (below_size (by repeat (first | (with_reducible first | exact HB.out | apply below_alloc | apply pw_below_drewN | apply below_drew1) | exact HB.out))) : w.heap.size ≤ gb111)); clear HB; have HB := n0_; have BK111 := n1_; have GW111 := n2_; have GE111 := n3_; clear n0_ n1_ n2_ n3_; clear hb hbox hg; have hcz35_0 : w34.cell? ⟨gb111, 0, none⟩ = some (.int .u64 0) := (blk_cell BK111.out 0).trans rfl; have hcz35_1 : w34.cell? ⟨gb111, 1, none⟩ = some (.int .u64 0) := (blk_cell BK111.out 1).trans rfl; have hcz35_2 : w34.cell? ⟨gb111, 2, none⟩ = some (.bool false) := (blk_cell BK111.out 2).trans rfl; have hfz35_0 := blk_frozen BK111.out 0; have hfz35_1 := blk_frozen BK111.out 1; have hfz35_2 := blk_frozen BK111.out 2) | ((with_reducible refine gate_callee (f := 86) rfl ?_); refine goesL_ (some 40) rfl rfl Try.func86 (by kernel_rfl) rfl #[.int .u64 t107, .int .u64 t108, .int .u64 t110] rfl (by (try simp only [List.map_toArray, List.map_cons, List.map_nil]); first | done | rfl | (simp only [List.length_drop, List.length_take]; rfl)) ?_; (with_reducible refine (bits_Div64.calls t107 t108 t110 t112 t113 _ A15.out).mono ?_); rintro e w36 ⟨rfl, hb⟩; refine ⟨_, rfl, ?_⟩; have n0_ := Aside0.mk (blk_below (g := gb111) (o := .cells #[.int .u64 t107, .int .u64 t108, .bool t109] 104 (0, 0)) (by (with_reducible repeat (first | refine blk_drewN ?_ _ | refine blk_drew ?_ | refine blk_alloc ?_ _)); refine blk_put (cs := #[.int .u64 t107, .int .u64 t108, .bool false]) ?_ 2 _ rfl; (with_reducible repeat (first | refine blk_drewN ?_ _ | refine blk_drew ?_ | refine blk_alloc ?_ _)); refine blk_put (cs := #[.int .u64 t107, .int .u64 0, .bool false]) ?_ 1 _ rfl; (with_reducible repeat (first | refine blk_drewN ?_ _ | refine blk_drew ?_ | refine blk_alloc ?_ _)); refine blk_put (cs := #[.int .u64 0, .int .u64 0, .bool false]) ?_ 0 _ rfl; (with_reducible repeat (first | refine blk_drewN ?_ _ | refine blk_drew ?_ | refine blk_alloc ?_ _)); exact BK111.out) hb); have n1_ := Aside0.mk (below_step (by repeat (first | (with_reducible first | exact HB.out | apply below_alloc | apply pw_below_drewN | apply below_drew1 | refine below_set ?_ GE111.out) | exact HB.out)) hb); clear BK111; clear HB; have BK111 := n0_; have HB := n1_; clear n0_ n1_; (try clear hb); (try clear hb2); (try clear hk); (try clear hi); have hcz37_0 : w36.cell? ⟨gb111, 0, none⟩ = some (.int .u64 t107) := (blk_cell BK111.out 0).trans rfl; have hcz37_1 : w36.cell? ⟨gb111, 1, none⟩ = some (.int .u64 t108) := (blk_cell BK111.out 1).trans rfl; have hcz37_2 : w36.cell? ⟨gb111, 2, none⟩ = some (.bool t109) := (blk_cell BK111.out 2).trans rfl; have hfz37_0 := blk_frozen BK111.out 0; have hfz37_1 := blk_frozen BK111.out 1; have hfz37_2 := blk_frozen BK111.out 2) | ((with_reducible refine gate_callee (f := 87) rfl ?_); refine goesL_ (some 53) rfl rfl Try.func87 (by kernel_rfl) rfl #[.int .i64 a3, .bool (t109 != (decide (a2 < 0))), .int .u64 t113, .int .u64 t110, .int .u64 t112] rfl (by (try simp only [List.map_toArray, List.map_cons, List.map_nil]); first | done | rfl | (simp only [List.length_drop, List.length_take]; rfl)) ?_; (with_reducible refine (coin_away.calls a3 (t109 != (decide (a2 < 0))) t113 t110 t112 false _ A16.out).mono ?_); rintro e w38 ⟨rfl, hb⟩; refine ⟨_, rfl, ?_⟩; have n0_ := Aside0.mk (blk_below (g := gb111) (o := .cells #[.int .u64 t107, .int .u64 t108, .bool t109] 104 (0, 0)) (by (with_reducible repeat (first | refine blk_drewN ?_ _ | refine blk_drew ?_ | refine blk_alloc ?_ _)); exact BK111.out) hb); have n1_ := Aside0.mk (below_step (by repeat (first | (with_reducible first | exact HB.out | apply below_alloc | apply pw_below_drewN | apply below_drew1 | refine below_set ?_ GE111.out) | exact HB.out)) hb); clear BK111; clear HB; have BK111 := n0_; have HB := n1_; clear n0_ n1_; (try clear hb); (try clear hb2); (try clear hk); (try clear hi)) | ((with_reducible refine gate_callee (f := 88) rfl ?_); refine goesL_ (some 60) rfl rfl Try.func88 (by kernel_rfl) rfl #[.int .u64 t112, .bool (t109 != (decide (a2 < 0)))] rfl (by (try simp only [List.map_toArray, List.map_cons, List.map_nil]); first | done | rfl | (simp only [List.length_drop, List.length_take]; rfl)) ?_; (with_reducible refine (coin_signed.calls kj4 t112 (t109 != (decide (a2 < 0))) t117 t118 _ A32.out).mono ?_); rintro e w' ⟨rfl, ⟨nd, rfl⟩⟩; refine ⟨_, rfl, ?_⟩))
              go_ret2
              exact ⟨by first | rfl | (simp [errW_none, errW_some] <;> rfl) | (simp [*, errW_none, errW_some] <;> rfl), by repeat (first | (with_reducible first | exact HB.out | apply below_alloc | apply pw_below_drewN | apply below_drew1 | refine below_set ?_ GE111.out) | exact HB.out)⟩

/-! ### jobberlaw01_lives: function 57 -/
def jobberlaw01_lives.f (k : Nat)  : Option (Bool) := (coin_Div.f k 7 5 2 3).bind fun bt119 => ((coin_Div.f k 5 5 2 3).bind fun bt121 => ((coin_Div.f k (-7) 1 2 1).bind fun bt123 => (if bt119.1 = 18 then (if bt119.2 = 0 then (if bt121.1 = 12 then (if bt121.2 = 0 then (if bt123.1 = (-4) then (some (bt123.2 == 0)) else (some false)) else (some false)) else (some false)) else (some false)) else (some false))))
theorem jobberlaw01_lives.mono : ∀ k, LeO (jobberlaw01_lives.f k ) (jobberlaw01_lives.f (k + 1) ) := by
  intro  k
  unfold jobberlaw01_lives.f
  repeat' first
      | (with_reducible exact coin_Div.mono _ _ _ _ _)
      | (with_reducible exact LeO.refl _)
      | (with_reducible exact LeO.none _)
      | (with_reducible refine LeO.ite ?_ ?_)
      | (with_reducible refine LeO.bind ?_ (fun _ => ?_))
      | exact coin_Div.mono _ _ _ _ _
      | exact LeO.none _
      | refine LeO.ite ?_ ?_
      | refine LeO.bind ?_ (fun _ => ?_)
set_option maxHeartbeats 8000000 in
set_option maxRecDepth 100000 in
theorem jobberlaw01_lives.calls (k : Nat)  (r : Bool) (w : World) (h : jobberlaw01_lives.f k  = some r) :
    Calls Try.prog 57 #[] w fun e w' => e = .returned (.bool r) ∧ Below w.heap.size w w' := by
  have HB := Aside0.mk (Below.refl w.heap.size w)
  have H : ((coin_Div.f k 7 5 2 3).bind fun bt119 => ((coin_Div.f k 5 5 2 3).bind fun bt121 => ((coin_Div.f k (-7) 1 2 1).bind fun bt123 => (if bt119.1 = 18 then (if bt119.2 = 0 then (if bt121.1 = 12 then (if bt121.2 = 0 then (if bt123.1 = (-4) then (some (bt123.2 == 0)) else (some false)) else (some false)) else (some false)) else (some false)) else (some false))))) = some r := h
  clear h
  replace H := Option.bind_eq_some_iff.mp H
  obtain ⟨⟨t119, t120⟩, A10, H⟩ := H
  replace H : ((coin_Div.f k 5 5 2 3).bind fun bt121 => ((coin_Div.f k (-7) 1 2 1).bind fun bt123 => (if t119 = 18 then (if t120 = 0 then (if bt121.1 = 12 then (if bt121.2 = 0 then (if bt123.1 = (-4) then (some (bt123.2 == 0)) else (some false)) else (some false)) else (some false)) else (some false)) else (some false)))) = some r := H
  have A1 := Aside0.mk A10
  clear A10
  replace H := Option.bind_eq_some_iff.mp H
  obtain ⟨⟨t121, t122⟩, A20, H⟩ := H
  replace H : ((coin_Div.f k (-7) 1 2 1).bind fun bt123 => (if t119 = 18 then (if t120 = 0 then (if t121 = 12 then (if t122 = 0 then (if bt123.1 = (-4) then (some (bt123.2 == 0)) else (some false)) else (some false)) else (some false)) else (some false)) else (some false))) = some r := H
  have A2 := Aside0.mk A20
  clear A20
  replace H := Option.bind_eq_some_iff.mp H
  obtain ⟨⟨t123, t124⟩, A30, H⟩ := H
  replace H : (if t119 = 18 then (if t120 = 0 then (if t121 = 12 then (if t122 = 0 then (if t123 = (-4) then (some (t124 == 0)) else (some false)) else (some false)) else (some false)) else (some false)) else (some false)) = some r := H
  have A3 := Aside0.mk A30
  clear A30
  by_cases c4 : t119 = 18
  · rw [if_pos c4] at H
    have c4b0 : (t119 == 18) = true := beq_iff_eq.mpr c4
    have c4b1 : (t119 != 18) = false := bne_eq_false_iff_eq.mpr c4
    clear c4
    by_cases c5 : t120 = 0
    · rw [if_pos c5] at H
      have c5b0 : (t120 == 0) = true := beq_iff_eq.mpr c5
      have c5b1 : (t120 != 0) = false := bne_eq_false_iff_eq.mpr c5
      clear c5
      by_cases c6 : t121 = 12
      · rw [if_pos c6] at H
        have c6b0 : (t121 == 12) = true := beq_iff_eq.mpr c6
        have c6b1 : (t121 != 12) = false := bne_eq_false_iff_eq.mpr c6
        clear c6
        by_cases c7 : t122 = 0
        · rw [if_pos c7] at H
          have c7b0 : (t122 == 0) = true := beq_iff_eq.mpr c7
          have c7b1 : (t122 != 0) = false := bne_eq_false_iff_eq.mpr c7
          clear c7
          by_cases c8 : t123 = (-4)
          · rw [if_pos c8] at H
            have c8b0 : (t123 == (-4)) = true := beq_iff_eq.mpr c8
            have c8b1 : (t123 != (-4)) = false := bne_eq_false_iff_eq.mpr c8
            clear c8
            obtain rfl := Option.some.inj H
            go_enter Try.func57, Try.ntmps57
            go_wp2_with (first | ((with_reducible refine gate_callee (f := 55) rfl ?_); refine goesL_ (some 8) rfl rfl Try.func55 (by kernel_rfl) rfl #[.int .i64 7, .int .i64 5, .int .i64 2, .int .i64 3] rfl (by (try simp only [List.map_toArray, List.map_cons, List.map_nil]); first | done | rfl | (simp only [List.length_drop, List.length_take]; rfl)) ?_; (with_reducible refine (coin_Div.calls k 7 5 2 3 t119 t120 _ A1.out).mono ?_); rintro e w9 ⟨rfl, hb⟩; refine ⟨_, rfl, ?_⟩; have n0_ := Aside0.mk (below_step (by repeat (first | (with_reducible first | exact HB.out | apply below_alloc | apply pw_below_drewN | apply below_drew1) | exact HB.out)) hb); clear HB; have HB := n0_; clear n0_; (try clear hb); (try clear hb2); (try clear hk); (try clear hi)) | ((with_reducible refine gate_callee (f := 55) rfl ?_); refine goesL_ (some 12) rfl rfl Try.func55 (by kernel_rfl) rfl #[.int .i64 5, .int .i64 5, .int .i64 2, .int .i64 3] rfl (by (try simp only [List.map_toArray, List.map_cons, List.map_nil]); first | done | rfl | (simp only [List.length_drop, List.length_take]; rfl)) ?_; (with_reducible refine (coin_Div.calls k 5 5 2 3 t121 t122 _ A2.out).mono ?_); rintro e w10 ⟨rfl, hb⟩; refine ⟨_, rfl, ?_⟩; have n0_ := Aside0.mk (below_step (by repeat (first | (with_reducible first | exact HB.out | apply below_alloc | apply pw_below_drewN | apply below_drew1) | exact HB.out)) hb); clear HB; have HB := n0_; clear n0_; (try clear hb); (try clear hb2); (try clear hk); (try clear hi)) | ((with_reducible refine gate_callee (f := 55) rfl ?_); refine goesL_ (some 16) rfl rfl Try.func55 (by kernel_rfl) rfl #[.int .i64 (-7), .int .i64 1, .int .i64 2, .int .i64 1] rfl (by (try simp only [List.map_toArray, List.map_cons, List.map_nil]); first | done | rfl | (simp only [List.length_drop, List.length_take]; rfl)) ?_; (with_reducible refine (coin_Div.calls k (-7) 1 2 1 t123 t124 _ A3.out).mono ?_); rintro e w11 ⟨rfl, hb⟩; refine ⟨_, rfl, ?_⟩; have n0_ := Aside0.mk (below_step (by repeat (first | (with_reducible first | exact HB.out | apply below_alloc | apply pw_below_drewN | apply below_drew1) | exact HB.out)) hb); clear HB; have HB := n0_; clear n0_; (try clear hb); (try clear hb2); (try clear hk); (try clear hi)))
            go_ret
            exact ⟨by first | rfl | (simp [errW_none, errW_some] <;> rfl) | (simp [*, errW_none, errW_some] <;> rfl), by repeat (first | (with_reducible first | exact HB.out | apply below_alloc | apply pw_below_drewN | apply below_drew1) | exact HB.out)⟩
          · rw [if_neg c8] at H
            have c8b0 : (t123 == (-4)) = false := beq_eq_false_iff_ne.mpr c8
            have c8b1 : (t123 != (-4)) = true := bne_iff_ne.mpr c8
            obtain rfl := Option.some.inj H
            go_enter Try.func57, Try.ntmps57
            go_wp2_with (first | ((with_reducible refine gate_callee (f := 55) rfl ?_); refine goesL_ (some 8) rfl rfl Try.func55 (by kernel_rfl) rfl #[.int .i64 7, .int .i64 5, .int .i64 2, .int .i64 3] rfl (by (try simp only [List.map_toArray, List.map_cons, List.map_nil]); first | done | rfl | (simp only [List.length_drop, List.length_take]; rfl)) ?_; (with_reducible refine (coin_Div.calls k 7 5 2 3 t119 t120 _ A1.out).mono ?_); rintro e w12 ⟨rfl, hb⟩; refine ⟨_, rfl, ?_⟩; have n0_ := Aside0.mk (below_step (by repeat (first | (with_reducible first | exact HB.out | apply below_alloc | apply pw_below_drewN | apply below_drew1) | exact HB.out)) hb); clear HB; have HB := n0_; clear n0_; (try clear hb); (try clear hb2); (try clear hk); (try clear hi)) | ((with_reducible refine gate_callee (f := 55) rfl ?_); refine goesL_ (some 12) rfl rfl Try.func55 (by kernel_rfl) rfl #[.int .i64 5, .int .i64 5, .int .i64 2, .int .i64 3] rfl (by (try simp only [List.map_toArray, List.map_cons, List.map_nil]); first | done | rfl | (simp only [List.length_drop, List.length_take]; rfl)) ?_; (with_reducible refine (coin_Div.calls k 5 5 2 3 t121 t122 _ A2.out).mono ?_); rintro e w13 ⟨rfl, hb⟩; refine ⟨_, rfl, ?_⟩; have n0_ := Aside0.mk (below_step (by repeat (first | (with_reducible first | exact HB.out | apply below_alloc | apply pw_below_drewN | apply below_drew1) | exact HB.out)) hb); clear HB; have HB := n0_; clear n0_; (try clear hb); (try clear hb2); (try clear hk); (try clear hi)) | ((with_reducible refine gate_callee (f := 55) rfl ?_); refine goesL_ (some 16) rfl rfl Try.func55 (by kernel_rfl) rfl #[.int .i64 (-7), .int .i64 1, .int .i64 2, .int .i64 1] rfl (by (try simp only [List.map_toArray, List.map_cons, List.map_nil]); first | done | rfl | (simp only [List.length_drop, List.length_take]; rfl)) ?_; (with_reducible refine (coin_Div.calls k (-7) 1 2 1 t123 t124 _ A3.out).mono ?_); rintro e w14 ⟨rfl, hb⟩; refine ⟨_, rfl, ?_⟩; have n0_ := Aside0.mk (below_step (by repeat (first | (with_reducible first | exact HB.out | apply below_alloc | apply pw_below_drewN | apply below_drew1) | exact HB.out)) hb); clear HB; have HB := n0_; clear n0_; (try clear hb); (try clear hb2); (try clear hk); (try clear hi)))
            go_ret
            exact ⟨by first | rfl | (simp [errW_none, errW_some] <;> rfl) | (simp [*, errW_none, errW_some] <;> rfl), by repeat (first | (with_reducible first | exact HB.out | apply below_alloc | apply pw_below_drewN | apply below_drew1) | exact HB.out)⟩
        · rw [if_neg c7] at H
          have c7b0 : (t122 == 0) = false := beq_eq_false_iff_ne.mpr c7
          have c7b1 : (t122 != 0) = true := bne_iff_ne.mpr c7
          obtain rfl := Option.some.inj H
          go_enter Try.func57, Try.ntmps57
          go_wp2_with (first | ((with_reducible refine gate_callee (f := 55) rfl ?_); refine goesL_ (some 8) rfl rfl Try.func55 (by kernel_rfl) rfl #[.int .i64 7, .int .i64 5, .int .i64 2, .int .i64 3] rfl (by (try simp only [List.map_toArray, List.map_cons, List.map_nil]); first | done | rfl | (simp only [List.length_drop, List.length_take]; rfl)) ?_; (with_reducible refine (coin_Div.calls k 7 5 2 3 t119 t120 _ A1.out).mono ?_); rintro e w15 ⟨rfl, hb⟩; refine ⟨_, rfl, ?_⟩; have n0_ := Aside0.mk (below_step (by repeat (first | (with_reducible first | exact HB.out | apply below_alloc | apply pw_below_drewN | apply below_drew1) | exact HB.out)) hb); clear HB; have HB := n0_; clear n0_; (try clear hb); (try clear hb2); (try clear hk); (try clear hi)) | ((with_reducible refine gate_callee (f := 55) rfl ?_); refine goesL_ (some 12) rfl rfl Try.func55 (by kernel_rfl) rfl #[.int .i64 5, .int .i64 5, .int .i64 2, .int .i64 3] rfl (by (try simp only [List.map_toArray, List.map_cons, List.map_nil]); first | done | rfl | (simp only [List.length_drop, List.length_take]; rfl)) ?_; (with_reducible refine (coin_Div.calls k 5 5 2 3 t121 t122 _ A2.out).mono ?_); rintro e w16 ⟨rfl, hb⟩; refine ⟨_, rfl, ?_⟩; have n0_ := Aside0.mk (below_step (by repeat (first | (with_reducible first | exact HB.out | apply below_alloc | apply pw_below_drewN | apply below_drew1) | exact HB.out)) hb); clear HB; have HB := n0_; clear n0_; (try clear hb); (try clear hb2); (try clear hk); (try clear hi)) | ((with_reducible refine gate_callee (f := 55) rfl ?_); refine goesL_ (some 16) rfl rfl Try.func55 (by kernel_rfl) rfl #[.int .i64 (-7), .int .i64 1, .int .i64 2, .int .i64 1] rfl (by (try simp only [List.map_toArray, List.map_cons, List.map_nil]); first | done | rfl | (simp only [List.length_drop, List.length_take]; rfl)) ?_; (with_reducible refine (coin_Div.calls k (-7) 1 2 1 t123 t124 _ A3.out).mono ?_); rintro e w17 ⟨rfl, hb⟩; refine ⟨_, rfl, ?_⟩; have n0_ := Aside0.mk (below_step (by repeat (first | (with_reducible first | exact HB.out | apply below_alloc | apply pw_below_drewN | apply below_drew1) | exact HB.out)) hb); clear HB; have HB := n0_; clear n0_; (try clear hb); (try clear hb2); (try clear hk); (try clear hi)))
          go_ret
          exact ⟨by first | rfl | (simp [errW_none, errW_some] <;> rfl) | (simp [*, errW_none, errW_some] <;> rfl), by repeat (first | (with_reducible first | exact HB.out | apply below_alloc | apply pw_below_drewN | apply below_drew1) | exact HB.out)⟩
      · rw [if_neg c6] at H
        have c6b0 : (t121 == 12) = false := beq_eq_false_iff_ne.mpr c6
        have c6b1 : (t121 != 12) = true := bne_iff_ne.mpr c6
        obtain rfl := Option.some.inj H
        go_enter Try.func57, Try.ntmps57
        go_wp2_with (first | ((with_reducible refine gate_callee (f := 55) rfl ?_); refine goesL_ (some 8) rfl rfl Try.func55 (by kernel_rfl) rfl #[.int .i64 7, .int .i64 5, .int .i64 2, .int .i64 3] rfl (by (try simp only [List.map_toArray, List.map_cons, List.map_nil]); first | done | rfl | (simp only [List.length_drop, List.length_take]; rfl)) ?_; (with_reducible refine (coin_Div.calls k 7 5 2 3 t119 t120 _ A1.out).mono ?_); rintro e w18 ⟨rfl, hb⟩; refine ⟨_, rfl, ?_⟩; have n0_ := Aside0.mk (below_step (by repeat (first | (with_reducible first | exact HB.out | apply below_alloc | apply pw_below_drewN | apply below_drew1) | exact HB.out)) hb); clear HB; have HB := n0_; clear n0_; (try clear hb); (try clear hb2); (try clear hk); (try clear hi)) | ((with_reducible refine gate_callee (f := 55) rfl ?_); refine goesL_ (some 12) rfl rfl Try.func55 (by kernel_rfl) rfl #[.int .i64 5, .int .i64 5, .int .i64 2, .int .i64 3] rfl (by (try simp only [List.map_toArray, List.map_cons, List.map_nil]); first | done | rfl | (simp only [List.length_drop, List.length_take]; rfl)) ?_; (with_reducible refine (coin_Div.calls k 5 5 2 3 t121 t122 _ A2.out).mono ?_); rintro e w19 ⟨rfl, hb⟩; refine ⟨_, rfl, ?_⟩; have n0_ := Aside0.mk (below_step (by repeat (first | (with_reducible first | exact HB.out | apply below_alloc | apply pw_below_drewN | apply below_drew1) | exact HB.out)) hb); clear HB; have HB := n0_; clear n0_; (try clear hb); (try clear hb2); (try clear hk); (try clear hi)) | ((with_reducible refine gate_callee (f := 55) rfl ?_); refine goesL_ (some 16) rfl rfl Try.func55 (by kernel_rfl) rfl #[.int .i64 (-7), .int .i64 1, .int .i64 2, .int .i64 1] rfl (by (try simp only [List.map_toArray, List.map_cons, List.map_nil]); first | done | rfl | (simp only [List.length_drop, List.length_take]; rfl)) ?_; (with_reducible refine (coin_Div.calls k (-7) 1 2 1 t123 t124 _ A3.out).mono ?_); rintro e w20 ⟨rfl, hb⟩; refine ⟨_, rfl, ?_⟩; have n0_ := Aside0.mk (below_step (by repeat (first | (with_reducible first | exact HB.out | apply below_alloc | apply pw_below_drewN | apply below_drew1) | exact HB.out)) hb); clear HB; have HB := n0_; clear n0_; (try clear hb); (try clear hb2); (try clear hk); (try clear hi)))
        go_ret
        exact ⟨by first | rfl | (simp [errW_none, errW_some] <;> rfl) | (simp [*, errW_none, errW_some] <;> rfl), by repeat (first | (with_reducible first | exact HB.out | apply below_alloc | apply pw_below_drewN | apply below_drew1) | exact HB.out)⟩
    · rw [if_neg c5] at H
      have c5b0 : (t120 == 0) = false := beq_eq_false_iff_ne.mpr c5
      have c5b1 : (t120 != 0) = true := bne_iff_ne.mpr c5
      obtain rfl := Option.some.inj H
      go_enter Try.func57, Try.ntmps57
      go_wp2_with (first | ((with_reducible refine gate_callee (f := 55) rfl ?_); refine goesL_ (some 8) rfl rfl Try.func55 (by kernel_rfl) rfl #[.int .i64 7, .int .i64 5, .int .i64 2, .int .i64 3] rfl (by (try simp only [List.map_toArray, List.map_cons, List.map_nil]); first | done | rfl | (simp only [List.length_drop, List.length_take]; rfl)) ?_; (with_reducible refine (coin_Div.calls k 7 5 2 3 t119 t120 _ A1.out).mono ?_); rintro e w21 ⟨rfl, hb⟩; refine ⟨_, rfl, ?_⟩; have n0_ := Aside0.mk (below_step (by repeat (first | (with_reducible first | exact HB.out | apply below_alloc | apply pw_below_drewN | apply below_drew1) | exact HB.out)) hb); clear HB; have HB := n0_; clear n0_; (try clear hb); (try clear hb2); (try clear hk); (try clear hi)) | ((with_reducible refine gate_callee (f := 55) rfl ?_); refine goesL_ (some 12) rfl rfl Try.func55 (by kernel_rfl) rfl #[.int .i64 5, .int .i64 5, .int .i64 2, .int .i64 3] rfl (by (try simp only [List.map_toArray, List.map_cons, List.map_nil]); first | done | rfl | (simp only [List.length_drop, List.length_take]; rfl)) ?_; (with_reducible refine (coin_Div.calls k 5 5 2 3 t121 t122 _ A2.out).mono ?_); rintro e w22 ⟨rfl, hb⟩; refine ⟨_, rfl, ?_⟩; have n0_ := Aside0.mk (below_step (by repeat (first | (with_reducible first | exact HB.out | apply below_alloc | apply pw_below_drewN | apply below_drew1) | exact HB.out)) hb); clear HB; have HB := n0_; clear n0_; (try clear hb); (try clear hb2); (try clear hk); (try clear hi)) | ((with_reducible refine gate_callee (f := 55) rfl ?_); refine goesL_ (some 16) rfl rfl Try.func55 (by kernel_rfl) rfl #[.int .i64 (-7), .int .i64 1, .int .i64 2, .int .i64 1] rfl (by (try simp only [List.map_toArray, List.map_cons, List.map_nil]); first | done | rfl | (simp only [List.length_drop, List.length_take]; rfl)) ?_; (with_reducible refine (coin_Div.calls k (-7) 1 2 1 t123 t124 _ A3.out).mono ?_); rintro e w23 ⟨rfl, hb⟩; refine ⟨_, rfl, ?_⟩; have n0_ := Aside0.mk (below_step (by repeat (first | (with_reducible first | exact HB.out | apply below_alloc | apply pw_below_drewN | apply below_drew1) | exact HB.out)) hb); clear HB; have HB := n0_; clear n0_; (try clear hb); (try clear hb2); (try clear hk); (try clear hi)))
      go_ret
      exact ⟨by first | rfl | (simp [errW_none, errW_some] <;> rfl) | (simp [*, errW_none, errW_some] <;> rfl), by repeat (first | (with_reducible first | exact HB.out | apply below_alloc | apply pw_below_drewN | apply below_drew1) | exact HB.out)⟩
  · rw [if_neg c4] at H
    have c4b0 : (t119 == 18) = false := beq_eq_false_iff_ne.mpr c4
    have c4b1 : (t119 != 18) = true := bne_iff_ne.mpr c4
    obtain rfl := Option.some.inj H
    go_enter Try.func57, Try.ntmps57
    go_wp2_with (first | ((with_reducible refine gate_callee (f := 55) rfl ?_); refine goesL_ (some 8) rfl rfl Try.func55 (by kernel_rfl) rfl #[.int .i64 7, .int .i64 5, .int .i64 2, .int .i64 3] rfl (by (try simp only [List.map_toArray, List.map_cons, List.map_nil]); first | done | rfl | (simp only [List.length_drop, List.length_take]; rfl)) ?_; (with_reducible refine (coin_Div.calls k 7 5 2 3 t119 t120 _ A1.out).mono ?_); rintro e w24 ⟨rfl, hb⟩; refine ⟨_, rfl, ?_⟩; have n0_ := Aside0.mk (below_step (by repeat (first | (with_reducible first | exact HB.out | apply below_alloc | apply pw_below_drewN | apply below_drew1) | exact HB.out)) hb); clear HB; have HB := n0_; clear n0_; (try clear hb); (try clear hb2); (try clear hk); (try clear hi)) | ((with_reducible refine gate_callee (f := 55) rfl ?_); refine goesL_ (some 12) rfl rfl Try.func55 (by kernel_rfl) rfl #[.int .i64 5, .int .i64 5, .int .i64 2, .int .i64 3] rfl (by (try simp only [List.map_toArray, List.map_cons, List.map_nil]); first | done | rfl | (simp only [List.length_drop, List.length_take]; rfl)) ?_; (with_reducible refine (coin_Div.calls k 5 5 2 3 t121 t122 _ A2.out).mono ?_); rintro e w25 ⟨rfl, hb⟩; refine ⟨_, rfl, ?_⟩; have n0_ := Aside0.mk (below_step (by repeat (first | (with_reducible first | exact HB.out | apply below_alloc | apply pw_below_drewN | apply below_drew1) | exact HB.out)) hb); clear HB; have HB := n0_; clear n0_; (try clear hb); (try clear hb2); (try clear hk); (try clear hi)) | ((with_reducible refine gate_callee (f := 55) rfl ?_); refine goesL_ (some 16) rfl rfl Try.func55 (by kernel_rfl) rfl #[.int .i64 (-7), .int .i64 1, .int .i64 2, .int .i64 1] rfl (by (try simp only [List.map_toArray, List.map_cons, List.map_nil]); first | done | rfl | (simp only [List.length_drop, List.length_take]; rfl)) ?_; (with_reducible refine (coin_Div.calls k (-7) 1 2 1 t123 t124 _ A3.out).mono ?_); rintro e w26 ⟨rfl, hb⟩; refine ⟨_, rfl, ?_⟩; have n0_ := Aside0.mk (below_step (by repeat (first | (with_reducible first | exact HB.out | apply below_alloc | apply pw_below_drewN | apply below_drew1) | exact HB.out)) hb); clear HB; have HB := n0_; clear n0_; (try clear hb); (try clear hb2); (try clear hk); (try clear hi)))
    go_ret
    exact ⟨by first | rfl | (simp [errW_none, errW_some] <;> rfl) | (simp [*, errW_none, errW_some] <;> rfl), by repeat (first | (with_reducible first | exact HB.out | apply below_alloc | apply pw_below_drewN | apply below_drew1) | exact HB.out)⟩

/-! ### coin_Sub: function 58 -/
def coin_Sub.f (a0 : Int) (a1 : Int) : Option (Int × Int) := if ((decide (a0 < 0)) != (decide (a1 < 0))) = true then (if ((decide ((wrap64 (a0 - a1)) < 0)) != (decide (a0 < 0))) = true then (some (0, 10)) else (some (wrap64 (a0 - a1), 0))) else (some (wrap64 (a0 - a1), 0))
set_option maxHeartbeats 8000000 in
set_option maxRecDepth 100000 in
theorem coin_Sub.calls (a0 : Int) (a1 : Int) (r1 : Int) (r2 : Int) (w : World) (h : coin_Sub.f a0 a1 = some (r1, r2)) :
    Calls Try.prog 58 #[.int .i64 a0, .int .i64 a1] w fun e w' => e = .returned (.tuple #[.int .i64 r1, .int .i64 r2]) ∧ Drawn0 w w' := by
  have H : (if ((decide (a0 < 0)) != (decide (a1 < 0))) = true then (if ((decide ((wrap64 (a0 - a1)) < 0)) != (decide (a0 < 0))) = true then (some (0, 10)) else (some (wrap64 (a0 - a1), 0))) else (some (wrap64 (a0 - a1), 0))) = some (r1, r2) := h
  clear h
  by_cases c3 : ((decide (a0 < 0)) != (decide (a1 < 0))) = true
  · rw [if_pos c3] at H
    have c3b0 : ((decide (a0 < 0)) != (decide (a1 < 0))) = true := c3
    (try (have c3b1 : decide ((decide (a0 < 0)) = (decide (a1 < 0))) = false := by simpa using c3))
    (try (have c3b2 : ((decide (a0 < 0)) == (decide (a1 < 0))) = false := by simpa using c3))
    (try (have c3b3 : ¬ ((decide (a0 < 0)) = (decide (a1 < 0))) := by simpa using c3))
    clear c3
    by_cases c4 : ((decide ((wrap64 (a0 - a1)) < 0)) != (decide (a0 < 0))) = true
    · rw [if_pos c4] at H
      have c4b0 : ((decide ((wrap64 (a0 - a1)) < 0)) != (decide (a0 < 0))) = true := c4
      (try (have c4b1 : decide ((decide ((wrap64 (a0 - a1)) < 0)) = (decide (a0 < 0))) = false := by simpa using c4))
      (try (have c4b2 : ((decide ((wrap64 (a0 - a1)) < 0)) == (decide (a0 < 0))) = false := by simpa using c4))
      (try (have c4b3 : ¬ ((decide ((wrap64 (a0 - a1)) < 0)) = (decide (a0 < 0))) := by simpa using c4))
      clear c4
      simp only [Option.some.injEq, Prod.mk.injEq] at H
      obtain ⟨rfl, rfl⟩ := H
      go_enter Try.func58, Try.ntmps58
      go_wp2
      go_ret2
      exact ⟨by first | rfl | (simp; done) | (simp [*]; done), by repeat (first | exact Drawn0.refl _ | apply Drawn0.step)⟩
    · rw [if_neg c4] at H
      have c4b0 : ((decide ((wrap64 (a0 - a1)) < 0)) != (decide (a0 < 0))) = false := by simpa using c4
      (try (have c4b1 : decide ((decide ((wrap64 (a0 - a1)) < 0)) = (decide (a0 < 0))) = true := by simpa using c4))
      (try (have c4b2 : ((decide ((wrap64 (a0 - a1)) < 0)) == (decide (a0 < 0))) = true := by simpa using c4))
      clear c4
      simp only [Option.some.injEq, Prod.mk.injEq] at H
      obtain ⟨rfl, rfl⟩ := H
      go_enter Try.func58, Try.ntmps58
      go_wp2
      go_ret2
      exact ⟨by first | rfl | (simp; done) | (simp [*]; done), by repeat (first | exact Drawn0.refl _ | apply Drawn0.step)⟩
  · rw [if_neg c3] at H
    have c3b0 : ((decide (a0 < 0)) != (decide (a1 < 0))) = false := by simpa using c3
    (try (have c3b1 : decide ((decide (a0 < 0)) = (decide (a1 < 0))) = true := by simpa using c3))
    (try (have c3b2 : ((decide (a0 < 0)) == (decide (a1 < 0))) = true := by simpa using c3))
    clear c3
    simp only [Option.some.injEq, Prod.mk.injEq] at H
    obtain ⟨rfl, rfl⟩ := H
    go_enter Try.func58, Try.ntmps58
    go_wp2
    go_ret2
    exact ⟨by first | rfl | (simp; done) | (simp [*]; done), by repeat (first | exact Drawn0.refl _ | apply Drawn0.step)⟩

/-! ### coin_Add: function 59 -/
def coin_Add.f (a0 : Int) (a1 : Int) : Option (Int × Int) := if ((decide (a0 < 0)) == (decide (a1 < 0))) = true then (if ((decide ((wrap64 (a0 + a1)) < 0)) != (decide (a0 < 0))) = true then (some (0, 10)) else (some (wrap64 (a0 + a1), 0))) else (some (wrap64 (a0 + a1), 0))
set_option maxHeartbeats 8000000 in
set_option maxRecDepth 100000 in
theorem coin_Add.calls (a0 : Int) (a1 : Int) (r1 : Int) (r2 : Int) (w : World) (h : coin_Add.f a0 a1 = some (r1, r2)) :
    Calls Try.prog 59 #[.int .i64 a0, .int .i64 a1] w fun e w' => e = .returned (.tuple #[.int .i64 r1, .int .i64 r2]) ∧ Drawn0 w w' := by
  have H : (if ((decide (a0 < 0)) == (decide (a1 < 0))) = true then (if ((decide ((wrap64 (a0 + a1)) < 0)) != (decide (a0 < 0))) = true then (some (0, 10)) else (some (wrap64 (a0 + a1), 0))) else (some (wrap64 (a0 + a1), 0))) = some (r1, r2) := h
  clear h
  by_cases c3 : ((decide (a0 < 0)) == (decide (a1 < 0))) = true
  · rw [if_pos c3] at H
    have c3b0 : ((decide (a0 < 0)) == (decide (a1 < 0))) = true := c3
    (try (have c3b1 : decide ((decide (a0 < 0)) = (decide (a1 < 0))) = true := by simpa using c3))
    (try (have c3b2 : ((decide (a0 < 0)) == (decide (a1 < 0))) = true := by simpa using c3))
    clear c3
    by_cases c4 : ((decide ((wrap64 (a0 + a1)) < 0)) != (decide (a0 < 0))) = true
    · rw [if_pos c4] at H
      have c4b0 : ((decide ((wrap64 (a0 + a1)) < 0)) != (decide (a0 < 0))) = true := c4
      (try (have c4b1 : decide ((decide ((wrap64 (a0 + a1)) < 0)) = (decide (a0 < 0))) = false := by simpa using c4))
      (try (have c4b2 : ((decide ((wrap64 (a0 + a1)) < 0)) == (decide (a0 < 0))) = false := by simpa using c4))
      (try (have c4b3 : ¬ ((decide ((wrap64 (a0 + a1)) < 0)) = (decide (a0 < 0))) := by simpa using c4))
      clear c4
      simp only [Option.some.injEq, Prod.mk.injEq] at H
      obtain ⟨rfl, rfl⟩ := H
      go_enter Try.func59, Try.ntmps59
      go_wp2
      go_ret2
      exact ⟨by first | rfl | (simp; done) | (simp [*]; done), by repeat (first | exact Drawn0.refl _ | apply Drawn0.step)⟩
    · rw [if_neg c4] at H
      have c4b0 : ((decide ((wrap64 (a0 + a1)) < 0)) != (decide (a0 < 0))) = false := by simpa using c4
      (try (have c4b1 : decide ((decide ((wrap64 (a0 + a1)) < 0)) = (decide (a0 < 0))) = true := by simpa using c4))
      (try (have c4b2 : ((decide ((wrap64 (a0 + a1)) < 0)) == (decide (a0 < 0))) = true := by simpa using c4))
      clear c4
      simp only [Option.some.injEq, Prod.mk.injEq] at H
      obtain ⟨rfl, rfl⟩ := H
      go_enter Try.func59, Try.ntmps59
      go_wp2
      go_ret2
      exact ⟨by first | rfl | (simp; done) | (simp [*]; done), by repeat (first | exact Drawn0.refl _ | apply Drawn0.step)⟩
  · rw [if_neg c3] at H
    have c3b0 : ((decide (a0 < 0)) == (decide (a1 < 0))) = false := by simpa using c3
    (try (have c3b1 : decide ((decide (a0 < 0)) = (decide (a1 < 0))) = false := by simpa using c3))
    (try (have c3b2 : ((decide (a0 < 0)) == (decide (a1 < 0))) = false := by simpa using c3))
    (try (have c3b3 : ¬ ((decide (a0 < 0)) = (decide (a1 < 0))) := by simpa using c3))
    clear c3
    simp only [Option.some.injEq, Prod.mk.injEq] at H
    obtain ⟨rfl, rfl⟩ := H
    go_enter Try.func59, Try.ntmps59
    go_wp2
    go_ret2
    exact ⟨by first | rfl | (simp; done) | (simp [*]; done), by repeat (first | exact Drawn0.refl _ | apply Drawn0.step)⟩

/-! ### coin_Mul: function 60 -/
def coin_Mul.f (k : Nat) (a0 : Int) (a1 : Int) : Option (Int × Int) := (coin_times.f a0 a1).bind fun bt125 => (if bt125.1 = 0 then ((coin_signed.f k bt125.2.1 bt125.2.2).bind fun bt129 => (some (bt129.1, bt129.2))) else (some (0, 10)))
theorem coin_Mul.mono : ∀ a0 a1 k, LeO (coin_Mul.f k a0 a1) (coin_Mul.f (k + 1) a0 a1) := by
  intro a0 a1 k
  unfold coin_Mul.f
  repeat' first
      | (with_reducible exact coin_signed.mono _ _ _)
      | (with_reducible exact LeO.refl _)
      | (with_reducible exact LeO.none _)
      | (with_reducible refine LeO.ite ?_ ?_)
      | (with_reducible refine LeO.bind ?_ (fun _ => ?_))
      | exact coin_signed.mono _ _ _
      | exact LeO.none _
      | refine LeO.ite ?_ ?_
      | refine LeO.bind ?_ (fun _ => ?_)
set_option maxHeartbeats 8000000 in
set_option maxRecDepth 100000 in
theorem coin_Mul.calls (k : Nat) (a0 : Int) (a1 : Int) (r1 : Int) (r2 : Int) (w : World) (h : coin_Mul.f k a0 a1 = some (r1, r2)) :
    Calls Try.prog 60 #[.int .i64 a0, .int .i64 a1] w fun e w' => e = .returned (.tuple #[.int .i64 r1, .int .i64 r2]) ∧ Below w.heap.size w w' := by
  have hu104 := Try.underlying104
  have HB := Aside0.mk (Below.refl w.heap.size w)
  have H : ((coin_times.f a0 a1).bind fun bt125 => (if bt125.1 = 0 then ((coin_signed.f k bt125.2.1 bt125.2.2).bind fun bt129 => (some (bt129.1, bt129.2))) else (some (0, 10)))) = some (r1, r2) := h
  clear h
  replace H := Option.bind_eq_some_iff.mp H
  obtain ⟨⟨t125, t126, t127⟩, A30, H⟩ := H
  replace H : (if t125 = 0 then ((coin_signed.f k t126 t127).bind fun bt129 => (some (bt129.1, bt129.2))) else (some (0, 10))) = some (r1, r2) := H
  have A3 := Aside0.mk A30
  clear A30
  by_cases c4 : t125 = 0
  · rw [if_pos c4] at H
    have c4b0 : (t125 == 0) = true := beq_iff_eq.mpr c4
    have c4b1 : (t125 != 0) = false := bne_eq_false_iff_eq.mpr c4
    clear c4
    replace H := Option.bind_eq_some_iff.mp H
    obtain ⟨⟨t129, t130⟩, A50, H⟩ := H
    replace H : (some (t129, t130)) = some (r1, r2) := H
    have A5 := Aside0.mk A50
    clear A50
    simp only [Option.some.injEq, Prod.mk.injEq] at H
    obtain ⟨rfl, rfl⟩ := H
    go_enter Try.func60, Try.ntmps60
    go_wp2_with (first | ((with_reducible refine gate_callee (f := 84) rfl ?_); refine goesL_ (some 9) rfl rfl Try.func84 (by kernel_rfl) rfl #[.int .i64 a0, .int .i64 a1] rfl (by (try simp only [List.map_toArray, List.map_cons, List.map_nil]); first | done | rfl | (simp only [List.length_drop, List.length_take]; rfl)) ?_; (with_reducible refine (coin_times.calls a0 a1 t125 t126 t127 _ A3.out).mono ?_); rintro e w6 ⟨rfl, hb⟩; refine ⟨_, rfl, ?_⟩; have n0_ := Aside0.mk (below_step (by repeat (first | (with_reducible first | exact HB.out | apply below_alloc | apply pw_below_drewN | apply below_drew1) | exact HB.out)) hb); clear HB; have HB := n0_; clear n0_; (try clear hb); (try clear hb2); (try clear hk); (try clear hi)) | ((with_reducible refine gate_dst (N := 6) rfl ?_); refine box_event ?hg (N := 6) ?hd (cs := #[.int .u64 0, .int .u64 0, .bool false]) (t := 104) ?hr ?_; (case hd => rfl); (case hg => rfl); (case hr => first | (go_simp; done) | (go_simp; rfl)); intro gb128 hg w7 hbox hb; have n0_ := Aside0.mk (below_step (by repeat (first | (with_reducible first | exact HB.out | apply below_alloc | apply pw_below_drewN | apply below_drew1) | exact HB.out)) hb); have n1_ := Aside0.mk (hbox); have n2_ := Aside0.mk ((by rw [hg]; exact (below_size (by repeat (first | (with_reducible first | exact HB.out | apply below_alloc | apply pw_below_drewN | apply below_drew1) | exact HB.out))) : w.heap.size ≤ gb128)); have n3_ := Aside0.mk ((by rw [hg]; exact (below_size (by repeat (first | (with_reducible first | exact HB.out | apply below_alloc | apply pw_below_drewN | apply below_drew1) | exact HB.out))) : w.heap.size ≤ gb128)); clear HB; have HB := n0_; have BK128 := n1_; have GW128 := n2_; have GE128 := n3_; clear n0_ n1_ n2_ n3_; clear hb hbox hg; have hcz8_0 : w7.cell? ⟨gb128, 0, none⟩ = some (.int .u64 0) := (blk_cell BK128.out 0).trans rfl; have hcz8_1 : w7.cell? ⟨gb128, 1, none⟩ = some (.int .u64 0) := (blk_cell BK128.out 1).trans rfl; have hcz8_2 : w7.cell? ⟨gb128, 2, none⟩ = some (.bool false) := (blk_cell BK128.out 2).trans rfl; have hfz8_0 := blk_frozen BK128.out 0; have hfz8_1 := blk_frozen BK128.out 1; have hfz8_2 := blk_frozen BK128.out 2) | ((with_reducible refine gate_callee (f := 88) rfl ?_); refine goesL_ (some 17) rfl rfl Try.func88 (by kernel_rfl) rfl #[.int .u64 t126, .bool t127] rfl (by (try simp only [List.map_toArray, List.map_cons, List.map_nil]); first | done | rfl | (simp only [List.length_drop, List.length_take]; rfl)) ?_; (with_reducible refine (coin_signed.calls k t126 t127 t129 t130 _ A5.out).mono ?_); rintro e w' ⟨rfl, ⟨nd, rfl⟩⟩; refine ⟨_, rfl, ?_⟩))
    go_ret2
    exact ⟨by first | rfl | (simp [errW_none, errW_some] <;> rfl) | (simp [*, errW_none, errW_some] <;> rfl), by repeat (first | (with_reducible first | exact HB.out | apply below_alloc | apply pw_below_drewN | apply below_drew1 | refine below_set ?_ GE128.out) | exact HB.out)⟩
  · rw [if_neg c4] at H
    have c4b0 : (t125 == 0) = false := beq_eq_false_iff_ne.mpr c4
    have c4b1 : (t125 != 0) = true := bne_iff_ne.mpr c4
    simp only [Option.some.injEq, Prod.mk.injEq] at H
    obtain ⟨rfl, rfl⟩ := H
    go_enter Try.func60, Try.ntmps60
    go_wp2_with (first | ((with_reducible refine gate_callee (f := 84) rfl ?_); refine goesL_ (some 9) rfl rfl Try.func84 (by kernel_rfl) rfl #[.int .i64 a0, .int .i64 a1] rfl (by (try simp only [List.map_toArray, List.map_cons, List.map_nil]); first | done | rfl | (simp only [List.length_drop, List.length_take]; rfl)) ?_; (with_reducible refine (coin_times.calls a0 a1 t125 t126 t127 _ A3.out).mono ?_); rintro e w9 ⟨rfl, hb⟩; refine ⟨_, rfl, ?_⟩; have n0_ := Aside0.mk (below_step (by repeat (first | (with_reducible first | exact HB.out | apply below_alloc | apply pw_below_drewN | apply below_drew1) | exact HB.out)) hb); clear HB; have HB := n0_; clear n0_; (try clear hb); (try clear hb2); (try clear hk); (try clear hi)) | ((with_reducible refine gate_dst (N := 6) rfl ?_); refine box_event ?hg (N := 6) ?hd (cs := #[.int .u64 0, .int .u64 0, .bool false]) (t := 104) ?hr ?_; (case hd => rfl); (case hg => rfl); (case hr => first | (go_simp; done) | (go_simp; rfl)); intro gb128 hg w10 hbox hb; have n0_ := Aside0.mk (below_step (by repeat (first | (with_reducible first | exact HB.out | apply below_alloc | apply pw_below_drewN | apply below_drew1) | exact HB.out)) hb); have n1_ := Aside0.mk (hbox); have n2_ := Aside0.mk ((by rw [hg]; exact (below_size (by repeat (first | (with_reducible first | exact HB.out | apply below_alloc | apply pw_below_drewN | apply below_drew1) | exact HB.out))) : w.heap.size ≤ gb128)); have n3_ := Aside0.mk ((by rw [hg]; exact (below_size (by repeat (first | (with_reducible first | exact HB.out | apply below_alloc | apply pw_below_drewN | apply below_drew1) | exact HB.out))) : w.heap.size ≤ gb128)); clear HB; have HB := n0_; have BK128 := n1_; have GW128 := n2_; have GE128 := n3_; clear n0_ n1_ n2_ n3_; clear hb hbox hg; have hcz11_0 : w10.cell? ⟨gb128, 0, none⟩ = some (.int .u64 0) := (blk_cell BK128.out 0).trans rfl; have hcz11_1 : w10.cell? ⟨gb128, 1, none⟩ = some (.int .u64 0) := (blk_cell BK128.out 1).trans rfl; have hcz11_2 : w10.cell? ⟨gb128, 2, none⟩ = some (.bool false) := (blk_cell BK128.out 2).trans rfl; have hfz11_0 := blk_frozen BK128.out 0; have hfz11_1 := blk_frozen BK128.out 1; have hfz11_2 := blk_frozen BK128.out 2))
    go_ret2
    exact ⟨by first | rfl | (simp [errW_none, errW_some] <;> rfl) | (simp [*, errW_none, errW_some] <;> rfl), by repeat (first | (with_reducible first | exact HB.out | apply below_alloc | apply pw_below_drewN | apply below_drew1 | refine below_set ?_ GE128.out) | exact HB.out)⟩

/-! ### jobberref01_nought: function 92 (by hand; for other hand texts alone) -/
/-- A number's cells: its bits, and whether it is below 0. -/
def numL (m : Nat) (g : Bool) : List Value := (List.range 136).map (fun i => Value.bool (m.testBit i)) ++ [.bool g]
def numC (m : Nat) (g : Bool) : Array Value := (numL m g).toArray
theorem numC_size (m : Nat) (g : Bool) : (numC m g).size = 137 := by simp [numC, numL]
theorem numC_bit (m : Nat) (g : Bool) {i : Nat} (h : i < 136) : (numC m g)[i]? = some (.bool (m.testBit i)) := by
  simp [numC, numL, List.getElem?_append, h]
theorem numC_neg (m : Nat) (g : Bool) : (numC m g)[136]? = some (.bool g) := by
  simp [numC, numL, List.getElem?_append]
theorem numC_one (m : Nat) (g : Bool) : (numC m g).all (·.oneCell') = true := by
  simp [numC, numL, Value.oneCell']
theorem numC_set {m m' : Nat} {g : Bool} {i : Nat} {b : Bool} (hi : i < 136) (h : ∀ j, j < 136 → m'.testBit j = if j = i then b else m.testBit j) : (numC m g).setIfInBounds i (.bool b) = numC m' g := by
  apply Array.ext_getElem?
  intro j
  rw [Array.getElem?_setIfInBounds]
  by_cases hj : i = j
  · subst hj
    rw [if_pos rfl, numC_size, if_pos (by omega), numC_bit _ _ hi, h i hi, if_pos rfl]
  · rw [if_neg hj]
    by_cases hj2 : j < 136
    · rw [numC_bit _ _ hj2, numC_bit _ _ hj2, h j hj2, if_neg (fun e => hj e.symm)]
    · by_cases hj3 : j = 136
      · subst hj3; rw [numC_neg, numC_neg]
      · rw [Array.getElem?_eq_none (by rw [numC_size]; omega), Array.getElem?_eq_none (by rw [numC_size]; omega)]
theorem numC_setNeg (m : Nat) (g b : Bool) : (numC m g).setIfInBounds 136 (.bool b) = numC m b := by
  apply Array.ext_getElem?
  intro j
  rw [Array.getElem?_setIfInBounds]
  by_cases hj : 136 = j
  · subst hj
    rw [if_pos rfl, numC_size, if_pos (by omega), numC_neg]
  · rw [if_neg hj]
    by_cases hj2 : j < 136
    · rw [numC_bit _ _ hj2, numC_bit _ _ hj2]
    · rw [Array.getElem?_eq_none (by rw [numC_size]; omega), Array.getElem?_eq_none (by rw [numC_size]; omega)]
theorem numZ : (Array.replicate 137 (Value.bool false)) = numC 0 false := by
  apply Array.ext_getElem?
  intro j
  by_cases hj2 : j < 136
  · rw [numC_bit _ _ hj2, Array.getElem?_replicate, if_pos (by omega)]; simp
  · by_cases hj3 : j = 136
    · subst hj3; rw [numC_neg]; simp
    · rw [Array.getElem?_eq_none (by simp; omega), Array.getElem?_eq_none (by rw [numC_size]; omega)]
/-! Numbers as rows of bits -/
def setb (V i : Nat) (b : Bool) : Nat := if V.testBit i = b then V else V ^^^ 2 ^ i
theorem tb_setb (V i : Nat) (b : Bool) (j : Nat) : (setb V i b).testBit j = if j = i then b else V.testBit j := by
  unfold setb
  by_cases h : V.testBit i = b
  · rw [if_pos h]
    by_cases hj : j = i
    · subst hj; rw [if_pos rfl, h]
    · rw [if_neg hj]
  · rw [if_neg h, Nat.testBit_xor, Nat.testBit_two_pow]
    by_cases hj : j = i
    · subst hj
      rw [if_pos rfl]
      cases hb : V.testBit j <;> cases b <;> simp_all
    · rw [if_neg hj, decide_eq_false (fun e => hj e.symm)]
      simp
theorem numC_setb (m : Nat) (g : Bool) (i : Nat) (b : Bool) (hi : i < 136) : (numC m g).setIfInBounds i (.bool b) = numC (setb m i b) g := numC_set hi (fun j _ => tb_setb m i b j)
theorem numC_congr {m m' : Nat} {g : Bool} (h : ∀ j, j < 136 → m.testBit j = m'.testBit j) : numC m g = numC m' g := by
  apply Array.ext_getElem?
  intro j
  by_cases hj2 : j < 136
  · rw [numC_bit _ _ hj2, numC_bit _ _ hj2, h j hj2]
  · by_cases hj3 : j = 136
    · subst hj3; rw [numC_neg, numC_neg]
    · rw [Array.getElem?_eq_none (by rw [numC_size]; omega), Array.getElem?_eq_none (by rw [numC_size]; omega)]
theorem tb_div (x k : Nat) : (if x.testBit k then 1 else 0) = x / 2 ^ k % 2 := by
  rw [Nat.testBit_eq_decide_div_mod_eq]
  rcases Nat.mod_two_eq_zero_or_one (x / 2 ^ k) with h | h <;> simp [h]
theorem tb_eq {x y k : Nat} (h : x / 2 ^ k % 2 = y / 2 ^ k % 2) : x.testBit k = y.testBit k := by
  rw [Nat.testBit_eq_decide_div_mod_eq, Nat.testBit_eq_decide_div_mod_eq, h]
theorem split_at (x k : Nat) : x = x / 2 ^ k * 2 ^ k + x % 2 ^ k ∧ x % 2 ^ k < 2 ^ k := ⟨by have := Nat.div_add_mod x (2 ^ k); rw [Nat.mul_comm] at this; omega, Nat.mod_lt _ (Nat.two_pow_pos k)⟩
/-- carry into place k -/
def car (a b k : Nat) : Bool := decide (2 ^ k ≤ a % 2 ^ k + b % 2 ^ k)
theorem add_bit (a b k : Nat) : (a + b) / 2 ^ k = a / 2 ^ k + b / 2 ^ k + (if car a b k then 1 else 0) := by
  have ha := split_at a k; have hb := split_at b k
  have hp := Nat.two_pow_pos k
  unfold car
  have e : a + b = (a / 2 ^ k + b / 2 ^ k) * 2 ^ k + (a % 2 ^ k + b % 2 ^ k) := by rw [Nat.add_mul]; omega
  rw [e, Nat.add_comm, Nat.add_mul_div_right _ _ hp, Nat.add_comm]
  congr 1
  by_cases h : 2 ^ k ≤ a % 2 ^ k + b % 2 ^ k
  · have hd : (a % 2 ^ k + b % 2 ^ k) / 2 ^ k = 1 := Nat.div_eq_of_lt_le (by omega) (by omega)
    rw [decide_eq_true h, if_pos rfl, hd]
  · rw [decide_eq_false h, if_neg (by decide), Nat.div_eq_of_lt (by omega)]
theorem car_succ (a b k : Nat) : car a b (k + 1) = decide (2 ≤ a / 2 ^ k % 2 + b / 2 ^ k % 2 + (if car a b k then 1 else 0)) := by
  have h1 := Nat.mod_pow_succ (b := 2) (k := k) (x := a)
  have h2 := Nat.mod_pow_succ (b := 2) (k := k) (x := b)
  have ha := (split_at a k).2; have hb := (split_at b k).2
  unfold car
  rw [h1, h2, Nat.pow_succ]
  have c1 := Nat.mod_two_eq_zero_or_one (a / 2 ^ k)
  have c2 := Nat.mod_two_eq_zero_or_one (b / 2 ^ k)
  generalize a / 2 ^ k % 2 = x at *
  generalize b / 2 ^ k % 2 = y at *
  generalize a % 2 ^ k = p at *
  generalize b % 2 ^ k = q at *
  generalize 2 ^ k = P at *
  rw [Bool.eq_iff_iff]
  by_cases h : P ≤ p + q
  · rw [decide_eq_true h]
    rcases c1 with rfl | rfl <;> rcases c2 with rfl | rfl <;> simp <;> omega
  · rw [decide_eq_false h]
    rcases c1 with rfl | rfl <;> rcases c2 with rfl | rfl <;> simp <;> omega
/-- borrow from place k -/
def bor (a b k : Nat) : Bool := decide (a % 2 ^ k < b % 2 ^ k)
theorem sub_bit {a b : Nat} (h : b ≤ a) (k : Nat) : (a - b) / 2 ^ k + b / 2 ^ k + (if bor a b k then 1 else 0) = a / 2 ^ k := by
  have ha := split_at a k; have hb := split_at b k
  have hp := Nat.two_pow_pos k
  unfold bor
  by_cases hc : a % 2 ^ k < b % 2 ^ k
  · rw [decide_eq_true hc, if_pos rfl]
    have hlt : b / 2 ^ k + 1 ≤ a / 2 ^ k := by
      rcases Nat.lt_or_ge (b / 2 ^ k) (a / 2 ^ k) with h1 | h1
      · exact h1
      · have := Nat.mul_le_mul_right (2 ^ k) h1
        omega
    have e : a - b = (a / 2 ^ k - b / 2 ^ k - 1) * 2 ^ k + (a % 2 ^ k + 2 ^ k - b % 2 ^ k) := by
      have := Nat.mul_le_mul_right (2 ^ k) hlt
      rw [Nat.sub_mul, Nat.sub_mul, Nat.one_mul]
      rw [Nat.add_mul, Nat.one_mul] at this
      omega
    rw [e, Nat.add_comm ((a / 2 ^ k - b / 2 ^ k - 1) * 2 ^ k), Nat.add_mul_div_right _ _ hp, Nat.div_eq_of_lt (by omega)]
    omega
  · rw [decide_eq_false hc, if_neg (by decide)]
    have hle : b / 2 ^ k ≤ a / 2 ^ k := Nat.div_le_div_right h
    have e : a - b = (a / 2 ^ k - b / 2 ^ k) * 2 ^ k + (a % 2 ^ k - b % 2 ^ k) := by
      have := Nat.mul_le_mul_right (2 ^ k) hle
      rw [Nat.sub_mul]
      omega
    rw [e, Nat.add_comm ((a / 2 ^ k - b / 2 ^ k) * 2 ^ k), Nat.add_mul_div_right _ _ hp, Nat.div_eq_of_lt (by omega)]
    omega
theorem bor_succ (a b k : Nat) : bor a b (k + 1) = decide (a / 2 ^ k % 2 < b / 2 ^ k % 2 + (if bor a b k then 1 else 0)) := by
  have h1 := Nat.mod_pow_succ (b := 2) (k := k) (x := a)
  have h2 := Nat.mod_pow_succ (b := 2) (k := k) (x := b)
  have ha := (split_at a k).2; have hb := (split_at b k).2
  unfold bor
  rw [h1, h2]
  have c1 := Nat.mod_two_eq_zero_or_one (a / 2 ^ k)
  have c2 := Nat.mod_two_eq_zero_or_one (b / 2 ^ k)
  generalize a / 2 ^ k % 2 = x at *
  generalize b / 2 ^ k % 2 = y at *
  generalize a % 2 ^ k = p at *
  generalize b % 2 ^ k = q at *
  generalize 2 ^ k = P at *
  rw [Bool.eq_iff_iff]
  by_cases h : p < q
  · rw [decide_eq_true h]
    rcases c1 with rfl | rfl <;> rcases c2 with rfl | rfl <;> simp <;> omega
  · rw [decide_eq_false h]
    rcases c1 with rfl | rfl <;> rcases c2 with rfl | rfl <;> simp <;> omega
theorem add_tb (a b k : Nat) : (a + b).testBit k = ((a.testBit k ^^ b.testBit k) ^^ car a b k) := by
  rw [Nat.testBit_eq_decide_div_mod_eq, Nat.testBit_eq_decide_div_mod_eq, Nat.testBit_eq_decide_div_mod_eq, add_bit]
  have c1 := Nat.mod_two_eq_zero_or_one (a / 2 ^ k)
  have c2 := Nat.mod_two_eq_zero_or_one (b / 2 ^ k)
  generalize a / 2 ^ k = x at *
  generalize b / 2 ^ k = y at *
  rw [Bool.eq_iff_iff]
  cases car a b k <;> rcases c1 with c1 | c1 <;> rcases c2 with c2 | c2 <;> simp [c1, c2] <;> omega
theorem car_tb (a b k : Nat) : car a b (k + 1) = ((a.testBit k && b.testBit k) || (car a b k && (a.testBit k || b.testBit k))) := by
  rw [Nat.testBit_eq_decide_div_mod_eq, Nat.testBit_eq_decide_div_mod_eq, car_succ]
  have c1 := Nat.mod_two_eq_zero_or_one (a / 2 ^ k)
  have c2 := Nat.mod_two_eq_zero_or_one (b / 2 ^ k)
  cases car a b k <;> rcases c1 with c1 | c1 <;> rcases c2 with c2 | c2 <;> simp [c1, c2]
theorem sub_tb {a b : Nat} (h : b ≤ a) (k : Nat) : (a - b).testBit k = ((a.testBit k ^^ b.testBit k) ^^ bor a b k) := by
  rw [Nat.testBit_eq_decide_div_mod_eq, Nat.testBit_eq_decide_div_mod_eq, Nat.testBit_eq_decide_div_mod_eq]
  have e := sub_bit h k
  have c1 := Nat.mod_two_eq_zero_or_one (a / 2 ^ k)
  have c2 := Nat.mod_two_eq_zero_or_one (b / 2 ^ k)
  generalize a / 2 ^ k = x at *
  generalize b / 2 ^ k = y at *
  generalize (a - b) / 2 ^ k = z at *
  rw [Bool.eq_iff_iff]
  cases hb : bor a b k <;> rw [hb] at e <;> rcases c1 with c1 | c1 <;> rcases c2 with c2 | c2 <;> simp [c1, c2] at e ⊢ <;> omega
theorem bor_tb (a b k : Nat) : bor a b (k + 1) = ((!a.testBit k && b.testBit k) || (bor a b k && (!a.testBit k || b.testBit k))) := by
  rw [Nat.testBit_eq_decide_div_mod_eq, Nat.testBit_eq_decide_div_mod_eq, bor_succ]
  have c1 := Nat.mod_two_eq_zero_or_one (a / 2 ^ k)
  have c2 := Nat.mod_two_eq_zero_or_one (b / 2 ^ k)
  cases bor a b k <;> rcases c1 with c1 | c1 <;> rcases c2 with c2 | c2 <;> simp [c1, c2]
/-- What is known of the number that is filled from the lowest place on. -/
def Upto (V r k : Nat) : Prop := ∀ j, j < 136 → V.testBit j = if j < k then r.testBit j else false
theorem Upto.zero (r : Nat) : Upto 0 r 0 := fun j _ => by simp
theorem Upto.step {V r k : Nat} {b : Bool} (h : Upto V r k) (hb : r.testBit k = b) : Upto (setb V k b) r (k + 1) := by
  intro j hj
  rw [tb_setb, h j hj]
  by_cases e : j = k
  · subst e; rw [if_pos rfl, if_pos (by omega), hb]
  · rw [if_neg e]
    by_cases e2 : j < k
    · rw [if_pos e2, if_pos (by omega)]
    · rw [if_neg e2, if_neg (by omega)]
theorem Upto.done {V r k : Nat} {g : Bool} (h : Upto V r k) (hk : 136 ≤ k) : numC V g = numC r g := numC_congr fun j hj => by rw [h j hj, if_pos (by omega)]

theorem zcNum : Try.zeroCells113 = numC 0 false := by
  rw [← numZ]
  kernel_rfl
theorem sizeNum (m : Nat) (g : Bool) : (Try.prog.info? 113).map (·.size) = some (numC m g).size := by
  rw [numC_size]
  kernel_rfl
/-- the numbers of the call's own: block, bits, sign -/
abbrev NB := List (Nat × Nat × Bool)
def Own (w0 W : World) (l : NB) : Prop := Below w0.heap.size w0 W ∧ (∀ (i : Nat) (x : Nat × Nat × Bool), l[i]? = some x → w0.heap.size ≤ x.1 ∧ W.heap[x.1]? = some (.cells (numC x.2.1 x.2.2) 113 (0, 0))) ∧ ∀ (i j : Nat) (x y : Nat × Nat × Bool), l[i]? = some x → l[j]? = some y → i ≠ j → x.1 ≠ y.1
theorem num_setRow {B g : Nat} {w0 w : World} (hb : Below B w0 w) (hBg : B ≤ g) (cs : Array Value) : Below B w0 (w.setRow g cs) := hb.trans ⟨rfl, rfl, rfl, by simp [World.setRow], fun k hk => setRow_other w g k cs (by omega)⟩
theorem Own.start (w : World) : Own w w [] := ⟨Below.refl _ _, fun i x h => by simp at h, fun i j x y h => by simp at h⟩
theorem Own.below {w0 W : World} {l : NB} (h : Own w0 W l) : Below w0.heap.size w0 W := h.1
theorem Own.blk {w0 W : World} {l : NB} (h : Own w0 W l) (i : Nat) {g m : Nat} {s : Bool} (hi : l[i]? = some (g, m, s)) : W.heap[g]? = some (.cells (numC m s) 113 (0, 0)) := (h.2.1 i _ hi).2
theorem Own.call {w0 W W1 : World} {l : NB} (h : Own w0 W l) (hB : Below W.heap.size W W1) : Own w0 W1 l := ⟨below_step h.1 hB, fun i x hx => ⟨(h.2.1 i x hx).1, blk_below (h.2.1 i x hx).2 hB⟩, h.2.2⟩
theorem Own.alloc {w0 W W1 : World} {l : NB} (h : Own w0 W l) {g m : Nat} {s : Bool} (hg : g = W.heap.size) (hb : W1.heap[g]? = some (.cells (numC m s) 113 (0, 0))) (hB : Below W.heap.size W W1) : Own w0 W1 (l ++ [(g, m, s)]) := by
  have h1 := h.call hB
  have hlt : ∀ (i : Nat) (x : Nat × Nat × Bool), l[i]? = some x → x.1 < W.heap.size := fun i x hx => blk_lt (h.2.1 i x hx).2
  have hcase : ∀ (i : Nat) (x : Nat × Nat × Bool), (l ++ [(g, m, s)])[i]? = some x → (i < l.length ∧ l[i]? = some x) ∨ (i = l.length ∧ x = (g, m, s)) := fun i x hx => by
    by_cases hi : i < l.length
    · rw [List.getElem?_append_left hi] at hx; exact .inl ⟨hi, hx⟩
    · rw [List.getElem?_append_right (by omega)] at hx
      have h0 : i - l.length = 0 := by
        have := (List.getElem?_eq_some_iff.1 hx).1
        simp at this
        omega
      rw [h0] at hx
      simp at hx
      exact .inr ⟨by omega, hx.symm⟩
  refine ⟨h1.1, fun i x hx => ?_, fun i j x y hx hy hij => ?_⟩
  · rcases hcase i x hx with ⟨_, h2⟩ | ⟨_, rfl⟩
    · exact h1.2.1 i x h2
    · exact ⟨by rw [hg]; exact h.1.size, hb⟩
  · rcases hcase i x hx with ⟨_, h2⟩ | ⟨h2, rfl⟩ <;> rcases hcase j y hy with ⟨_, h3⟩ | ⟨h3, rfl⟩
    · exact h.2.2 i j x y h2 h3 hij
    · have := hlt i x h2; dsimp only; omega
    · have := hlt j y h3; dsimp only; omega
    · omega
theorem Own.put {w0 W W1 : World} {l : NB} (h : Own w0 W l) (i : Nat) {g m m' : Nat} {s s' : Bool} (hi : l[i]? = some (g, m, s)) (hb : W1.heap[g]? = some (.cells (numC m' s') 113 (0, 0))) (hB : Below w0.heap.size w0 W1) (ho : ∀ k, k ≠ g → W1.heap[k]? = W.heap[k]?) : Own w0 W1 (l.set i (g, m', s')) := by
  have hlt : i < l.length := (List.getElem?_eq_some_iff.1 hi).1
  refine ⟨hB, fun j x hx => ?_, fun j k x y hx hy hjk => ?_⟩
  · rw [List.getElem?_set] at hx
    by_cases e : i = j
    · rw [if_pos e, if_pos hlt] at hx
      cases hx
      exact ⟨(h.2.1 i _ hi).1, hb⟩
    · rw [if_neg e] at hx
      exact ⟨(h.2.1 j x hx).1, by rw [ho x.1 (h.2.2 j i x _ hx hi (Ne.symm e))]; exact (h.2.1 j x hx).2⟩
  · have hf : ∀ (j : Nat) (x : Nat × Nat × Bool), (l.set i (g, m', s'))[j]? = some x → ∃ y, l[j]? = some y ∧ y.1 = x.1 := fun j x hx => by
      rw [List.getElem?_set] at hx
      by_cases e : i = j
      · rw [if_pos e, if_pos hlt] at hx
        cases hx
        exact ⟨(g, m, s), e ▸ hi, rfl⟩
      · rw [if_neg e] at hx
        exact ⟨x, hx, rfl⟩
    obtain ⟨x', hx', e1⟩ := hf j x hx
    obtain ⟨y', hy', e2⟩ := hf k y hy
    rw [← e1, ← e2]
    exact h.2.2 j k x' y' hx' hy' hjk
theorem Own.bit {w0 W : World} {l : NB} (h : Own w0 W l) (i k : Nat) {g m : Nat} {s : Bool} (hi : l[i]? = some (g, m, s)) (hk : k < 136) (b : Bool) : Own w0 (W.setCell ⟨g, k, none⟩ (.bool b)) (l.set i (g, setb m k b, s)) :=
  h.put i hi (by rw [← numC_setb _ _ _ _ hk]; exact blk_set (h.blk i hi) k _) (below_set h.1 (h.2.1 i _ hi).1) (fun j hj => Below.heap_setCell W ⟨g, k, none⟩ _ j hj)
theorem Own.sign {w0 W : World} {l : NB} (h : Own w0 W l) (i : Nat) {g m : Nat} {s : Bool} (hi : l[i]? = some (g, m, s)) (b : Bool) : Own w0 (W.setCell ⟨g, 136, none⟩ (.bool b)) (l.set i (g, m, b)) :=
  h.put i hi (by rw [← numC_setNeg m s b]; exact blk_set (h.blk i hi) 136 _) (below_set h.1 (h.2.1 i _ hi).1) (fun j hj => Below.heap_setCell W ⟨g, 136, none⟩ _ j hj)
theorem Own.cell {w0 W : World} {l : NB} (h : Own w0 W l) (i k : Nat) {g m : Nat} {s : Bool} (hi : l[i]? = some (g, m, s)) (hk : k < 136) : W.cell? ⟨g, k, none⟩ = some (.bool (m.testBit k)) := (blk_cell (h.blk i hi) k).trans (numC_bit m s hk)
theorem Own.neg {w0 W : World} {l : NB} (h : Own w0 W l) (i : Nat) {g m : Nat} {s : Bool} (hi : l[i]? = some (g, m, s)) : W.cell? ⟨g, 136, none⟩ = some (.bool s) := (blk_cell (h.blk i hi) 136).trans (numC_neg m s)
theorem Own.free {w0 W : World} {l : NB} (h : Own w0 W l) (i k : Nat) {g m : Nat} {s : Bool} (hi : l[i]? = some (g, m, s)) : W.frozen? ⟨g, k, none⟩ = false := blk_frozen (h.blk i hi) k
section
variable {ops : Array Oper} {rest : List Oper} {o : Oper} {a : Act} {Q : Exit → Act → World → Prop} {w0 W : World} {l : NB}
/-- a number made -/
theorem num_new (hgd : o.guard = none) {N : Tmp} (_hd : o.dst = some N) {cs : Array Value} (hO : Own w0 W l) (m : Nat) (s : Bool) (hc : cs = numC m s)
    (hrun : (execOp a.eval o).run Try.prog W = .ok (.value (.pointer (some ⟨W.heap.size, 0, none⟩))) (W.alloc (.cells cs 113 (0, 0))))
    (h : ∀ g W1, Own w0 W1 (l ++ [(g, m, s)]) → wpList Try.prog ops Q rest (a.put o.dst (.pointer (some ⟨g, 0, none⟩))) W1) : wpList Try.prog ops Q (o :: rest) a W :=
  box_event hgd _hd hrun (fun g hg w1 hb hB => h g w1 (hO.alloc hg (by rw [← hc]; exact hb) hB))
/-- a number read whole -/
theorem num_load (hgd : o.guard = none) {N : Tmp} (_hd : o.dst = some N) (x : Operand) (ho : o.op = .load 113 x) (hO : Own w0 W l) (i : Nat) {g m : Nat} {s : Bool} (hi : l[i]? = some (g, m, s)) (hx : a.eval x = .pointer (some ⟨g, 0, none⟩))
    (h : wpList Try.prog ops Q rest (a.put o.dst (.agg (numC m s))) W) : wpList Try.prog ops Q (o :: rest) a W :=
  wpList_load_row hgd 113 x ho g hx 113 (numC m s) (0, 0) _ (hO.blk i hi) Try.underlying113 rfl (sizeNum _ _) h
/-- a number stored whole -/
theorem num_store (hgd : o.guard = none) (x y : Operand) (ho : o.op = .store 113 x y) (hO : Own w0 W l) (i : Nat) {g m m' : Nat} {s s' : Bool} (hi : l[i]? = some (g, m, s)) (hx : a.eval x = .pointer (some ⟨g, 0, none⟩)) (hy : a.eval y = .agg (numC m' s'))
    (h : ∀ W1, Own w0 W1 (l.set i (g, m', s')) → wpList Try.prog ops Q rest (a.put o.dst undef) W1) : wpList Try.prog ops Q (o :: rest) a W :=
  wpList_store_row hgd 113 x y ho g (numC m' s') hx hy 113 (numC m s) (hO.blk i hi) (sizeNum _ _) (by rw [numC_size, numC_size]) (numC_one _ _)
    (h _ (hO.put i hi (setRow_heap _ _ _ _ _ _ (hO.blk i hi)) (num_setRow hO.1 (hO.2.1 i _ hi).1 _) (fun k hk => setRow_other _ _ _ _ hk)))
end
theorem num_abs {c : Code} {Q : Exit → Act → World → Prop} {a : Act} {w0 W : World} {l : NB} (hO : Own w0 W l) (h : ∀ W1, Own w0 W1 l → c.wp Try.prog Q a W1) : c.wp Try.prog Q a W := h W hO
theorem num_load_run {o : Oper} {a : Act} {w0 W : World} {l : NB} (x : Operand) (ho : o.op = .load 113 x) (hO : Own w0 W l) (i : Nat) {g m : Nat} {s : Bool} (hi : l[i]? = some (g, m, s)) (hx : a.eval x = .pointer (some ⟨g, 0, none⟩)) :
    (execOp a.eval o).run Try.prog W = .ok (.value (.agg (numC m s))) W := by
  unfold execOp
  simp only [ho, hx, Instr.loadAt, Instr.sureAddr, Sem.run_bind, Sem.run_pure, Result.andThen_ok, run_loadVar_row W g 113 113 (numC m s) (0, 0) _ (hO.blk i hi) Try.underlying113 rfl (sizeNum _ _)]
theorem num_store_wp {o : Oper} {a : Act} {K : Act → World → Prop} {Q : Exit → Act → World → Prop} {w0 W : World} {l : NB} (x y : Operand) (ho : o.op = .store 113 x y) (hO : Own w0 W l) (i : Nat) {g m m' : Nat} {s s' : Bool} (hi : l[i]? = some (g, m, s)) (hx : a.eval x = .pointer (some ⟨g, 0, none⟩)) (hy : a.eval y = .agg (numC m' s'))
    (h : ∀ W1, Own w0 W1 (l.set i (g, m', s')) → K (a.put o.dst undef) W1) : o.wp Try.prog a W K Q :=
  wp_store_row 113 x y ho g (numC m' s') hx hy 113 (numC m s) (hO.blk i hi) (sizeNum _ _) (by rw [numC_size, numC_size]) (numC_one _ _)
    (h _ (hO.put i hi (setRow_heap _ _ _ _ _ _ (hO.blk i hi)) (num_setRow hO.1 (hO.2.1 i _ hi).1 _) (fun k hk => setRow_other _ _ _ _ hk)))
theorem Own.drew {w0 W : World} {l : NB} (h : Own w0 W l) : Own w0 W.drew l := h.call (below_drew (Below.refl _ _))
theorem num_result2 {fn : Func} {p q : Tmp} (hf : fn.results = #[.cell p 113, .cell q 113]) {w0 W : World} {l : NB} (hO : Own w0 W l) (i j : Nat) {g g' m m' : Nat} {s s' : Bool} (hi : l[i]? = some (g, m, s)) (hj : l[j]? = some (g', m', s')) (tmps : Array Value) (hp : tmps.getD p undef = .pointer (some ⟨g, 0, none⟩)) (hq : tmps.getD q undef = .pointer (some ⟨g', 0, none⟩)) :
    (results fn tmps).run Try.prog W = .ok (.tuple #[.agg (numC m s), .agg (numC m' s')]) W := by
  have hp' : tmps[p]?.getD undef = .pointer (some ⟨g, 0, none⟩) := by simpa using hp
  have hq' : tmps[q]?.getD undef = .pointer (some ⟨g', 0, none⟩) := by simpa using hq
  simp [results, hf, hp', hq', asAddr, run_loadVar_row W g 113 113 (numC m s) (0, 0) _ (hO.blk i hi) Try.underlying113 rfl (sizeNum _ _), run_loadVar_row W g' 113 113 (numC m' s') (0, 0) _ (hO.blk j hj) Try.underlying113 rfl (sizeNum _ _)]
theorem num_result {fn : Func} {p : Tmp} (hf : fn.results = #[.cell p 113]) {w0 W : World} {l : NB} (hO : Own w0 W l) (i : Nat) {g m : Nat} {s : Bool} (hi : l[i]? = some (g, m, s)) (tmps : Array Value) (hp : tmps.getD p undef = .pointer (some ⟨g, 0, none⟩)) :
    (results fn tmps).run Try.prog W = .ok (.agg (numC m s)) W := results_cell_row hf tmps W g 113 (numC m s) (0, 0) _ hp (hO.blk i hi) Try.underlying113 rfl (sizeNum _ _)
set_option maxHeartbeats 8000000 in
set_option maxRecDepth 100000 in
theorem num_nought (m : Nat) (g : Bool) (hm : m < 2 ^ 136) (w : World) :
    Calls Try.prog 92 #[.agg (numC m g)] w fun e w' => e = .returned (.bool (decide (m = 0))) ∧ Below w.heap.size w w' := by
  have HB := Aside0.mk (below_alloc (Below.refl w.heap.size w) (.cells (numC m g) 113))
  have BK := Aside0.mk (blk_new w (.cells (numC m g) 113))
  have HM := Aside0.mk hm
  clear hm
  go_enter Try.func92, Try.ntmps92
  go_wp2
  go_loopg [3] 136 (fun kq v3 wr => ∃ k : Nat, v3 = .int .i64 k ∧ Aside0 (k + kq = 136) ∧ Aside0 (m % 2 ^ k = 0) ∧ Aside0 (wr = w.alloc (.cells (numC m g) 113)))
  case atStart => exact ⟨0, rfl, ⟨rfl⟩, ⟨Nat.mod_one m⟩, ⟨rfl⟩⟩
  case round =>
    obtain ⟨k, rfl, HK, HA, HW⟩ := hrel
    obtain rfl := HW.out
    by_cases hk : k < 136
    · have hd : decide ((k : Int) < 136) = true := decide_eq_true (by omega)
      have hcell := (blk_cell BK.out k).trans (numC_bit m g hk)
      have h2 := Nat.mod_pow_succ (b := 2) (k := k) (x := m)
      cases hb : m.testBit k with
      | true =>
        rw [hb] at hcell
        have HN : Aside0 (decide (m = 0) = false) := ⟨decide_eq_false (fun e => by subst e; simp at hb)⟩
        clear hb h2
        go_wp2
        go_ret
        exact ⟨by rw [HN.out]; rfl, HB.out⟩
      | false =>
        rw [hb] at hcell
        have HN : Aside0 (m % 2 ^ (k + 1) = 0) := ⟨by
          rw [Nat.testBit_eq_decide_div_mod_eq] at hb
          have := HA.out
          have hb2 : m / 2 ^ k % 2 = 0 := by have := Nat.mod_two_eq_zero_or_one (m / 2 ^ k); simp at hb; omega
          rw [h2, this, hb2]; simp⟩
        clear hb h2
        go_wp2
        go_roundg (gk - 1)
        case measure => have := HK.out; omega
        case rel => exact ⟨k + 1, by go_num, ⟨by have := HK.out; omega⟩, HN, ⟨rfl⟩⟩
    · have hd : decide ((k : Int) < 136) = false := decide_eq_false (by omega)
      have HN : Aside0 (decide (m = 0) = true) := ⟨decide_eq_true (by
        have h1 := HA.out
        rwa [Nat.mod_eq_of_lt (Nat.lt_of_lt_of_le HM.out (Nat.pow_le_pow_right (by decide) (by omega)))] at h1)⟩
      go_wp2
      go_ret
      exact ⟨by rw [HN.out]; rfl, HB.out⟩

end Go.Proofs.Ytdfkbdcdgbjgcaa.Num
