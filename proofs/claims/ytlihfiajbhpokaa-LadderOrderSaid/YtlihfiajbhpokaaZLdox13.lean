/- Printed by this session's wip/drive.py over the translation; some functions by hand. -/
import Derived.Test.YtlihfiajbhpokaaZLdox0
import Derived.Test.YtlihfiajbhpokaaZLdox4
import Derived.Test.YtlihfiajbhpokaaZLdox6
import Derived.Test.YtlihfiajbhpokaaZLdox8
import Derived.Test.YtlihfiajbhpokaaZLdox10
import Derived.Test.YtlihfiajbhpokaaZLdox12
namespace Go.Proofs.Ytlihfiajbhpokaa.Ldo
open Go.RowKit Go.Proofs.YtlihfiajbhpokaaW.PrintWords Go.Proofs.YtlihfiajbhpokaaW.PrintLast Go.Proofs.YtlihfiajbhpokaaW.PrintMore
attribute [local go_sem] max2_int min2_int max_two min_two max_three min_three max_four min_four
set_option linter.unusedVariables false
set_option linter.unusedSimpArgs false
def jobberref12_Sorted.f (k : Nat) (l0 : List (S41)) : Option ((List (S41))) := (some (([] : List (S41)) : List (S41))).bind fun y166 => ((jobberref12_side.f k l0 1).bind fun t169 => ((jobberref12_sorted.f k t169).bind fun t172 => (if y166.length + t172.length < 2932031007402 then ((some (y166 ++ t172 : List (S41))).bind fun y175 => ((jobberref12_side.f k l0 2).bind fun t178 => ((jobberref12_sorted.f k t178).bind fun t181 => (if y175.length + t181.length < 2932031007402 then ((some (y175 ++ t181 : List (S41))).bind fun y184 => ((jobberref12_side.f k l0 0).bind fun t187 => (if y184.length + t187.length < 2932031007402 then (some (y184 ++ t187)) else (none)))) else (none))))) else (none))))
theorem jobberref12_Sorted.mono : ∀ a0 k, LeO (jobberref12_Sorted.f k a0) (jobberref12_Sorted.f (k + 1) a0) := by
  intro a0 k
  unfold jobberref12_Sorted.f
  repeat' first
      | (with_reducible exact jobberref12_side.mono _ _ _)
      | (with_reducible exact jobberref12_sorted.mono _ _)
      | (with_reducible exact LeO.refl _)
      | (with_reducible exact LeO.none _)
      | (with_reducible refine LeO.ite ?_ ?_)
      | (with_reducible refine LeO.bind ?_ (fun _ => ?_))
      | exact jobberref12_side.mono _ _ _
      | exact jobberref12_sorted.mono _ _
      | exact LeO.none _
      | refine LeO.ite ?_ ?_
      | refine LeO.bind ?_ (fun _ => ?_)
set_option maxHeartbeats 8000000 in
set_option maxRecDepth 100000 in
theorem jobberref12_Sorted.calls (k : Nat) (A0 : Option Addr) (c0 : Nat) (l0 : List (S41)) (r : List (S41)) (w : World) (hr0 : Kd.C k41 w A0 l0.length l0) (hc0 : l0.length ≤ c0) (h : jobberref12_Sorted.f k l0 = some r) :
    Calls Try.prog 11 #[.slice A0 l0.length c0] w fun e w' => ∃ v0_ : Value, e = .returned (v0_) ∧ Kd.R k41 41 w' w.heap.size (fun _ => True) v0_ r ∧ Below w.heap.size w w' := by
  have HR0 := Aside0.mk hr0
  have HC0 := Aside0.mk hc0
  clear hr0 hc0
  have HB := Aside0.mk (Below.refl w.heap.size w)
  have H : ((some (([] : List (S41)) : List (S41))).bind fun y166 => ((jobberref12_side.f k l0 1).bind fun t169 => ((jobberref12_sorted.f k t169).bind fun t172 => (if y166.length + t172.length < 2932031007402 then ((some (y166 ++ t172 : List (S41))).bind fun y175 => ((jobberref12_side.f k l0 2).bind fun t178 => ((jobberref12_sorted.f k t178).bind fun t181 => (if y175.length + t181.length < 2932031007402 then ((some (y175 ++ t181 : List (S41))).bind fun y184 => ((jobberref12_side.f k l0 0).bind fun t187 => (if y184.length + t187.length < 2932031007402 then (some (y184 ++ t187)) else (none)))) else (none))))) else (none))))) = some r := h
  clear h
  obtain ⟨y166, hy166⟩ : ∃ y_ : List (S41), y_ = (([] : List (S41))) := ⟨_, rfl⟩
  replace H : ((jobberref12_side.f k l0 1).bind fun t169 => ((jobberref12_sorted.f k t169).bind fun t172 => (if y166.length + t172.length < 2932031007402 then ((some (y166 ++ t172 : List (S41))).bind fun y175 => ((jobberref12_side.f k l0 2).bind fun t178 => ((jobberref12_sorted.f k t178).bind fun t181 => (if y175.length + t181.length < 2932031007402 then ((some (y175 ++ t181 : List (S41))).bind fun y184 => ((jobberref12_side.f k l0 0).bind fun t187 => (if y184.length + t187.length < 2932031007402 then (some (y184 ++ t187)) else (none)))) else (none))))) else (none)))) = some r := by first | (rw [hy166]; with_reducible exact H) | (have H2_ := (Option.bind_some _ _).symm.trans H; rw [hy166]; with_reducible exact H2_) | (have H2_ := (Option.bind_some _ _).symm.trans H; with_reducible exact H2_) | with_reducible exact H | (rw [hy166]; exact H) | exact H
  have Ny166 := Aside0.mk hy166
  clear hy166
  replace H := Option.bind_eq_some_iff.mp H
  obtain ⟨t169, A20, H⟩ := H
  replace H : ((jobberref12_sorted.f k t169).bind fun t172 => (if y166.length + t172.length < 2932031007402 then ((some (y166 ++ t172 : List (S41))).bind fun y175 => ((jobberref12_side.f k l0 2).bind fun t178 => ((jobberref12_sorted.f k t178).bind fun t181 => (if y175.length + t181.length < 2932031007402 then ((some (y175 ++ t181 : List (S41))).bind fun y184 => ((jobberref12_side.f k l0 0).bind fun t187 => (if y184.length + t187.length < 2932031007402 then (some (y184 ++ t187)) else (none)))) else (none))))) else (none))) = some r := H
  have A2 := Aside0.mk A20
  clear A20
  replace H := Option.bind_eq_some_iff.mp H
  obtain ⟨t172, A30, H⟩ := H
  replace H : (if y166.length + t172.length < 2932031007402 then ((some (y166 ++ t172 : List (S41))).bind fun y175 => ((jobberref12_side.f k l0 2).bind fun t178 => ((jobberref12_sorted.f k t178).bind fun t181 => (if y175.length + t181.length < 2932031007402 then ((some (y175 ++ t181 : List (S41))).bind fun y184 => ((jobberref12_side.f k l0 0).bind fun t187 => (if y184.length + t187.length < 2932031007402 then (some (y184 ++ t187)) else (none)))) else (none))))) else (none)) = some r := H
  have A3 := Aside0.mk A30
  clear A30
  by_cases c4 : y166.length + t172.length < 2932031007402
  · rw [if_pos c4] at H
    have LMc4 := Aside0.mk c4
    clear c4
    obtain ⟨y175, hy175⟩ : ∃ y_ : List (S41), y_ = (y166 ++ t172) := ⟨_, rfl⟩
    replace H : ((jobberref12_side.f k l0 2).bind fun t178 => ((jobberref12_sorted.f k t178).bind fun t181 => (if y175.length + t181.length < 2932031007402 then ((some (y175 ++ t181 : List (S41))).bind fun y184 => ((jobberref12_side.f k l0 0).bind fun t187 => (if y184.length + t187.length < 2932031007402 then (some (y184 ++ t187)) else (none)))) else (none)))) = some r := by first | (rw [hy175]; with_reducible exact H) | (have H2_ := (Option.bind_some _ _).symm.trans H; rw [hy175]; with_reducible exact H2_) | (have H2_ := (Option.bind_some _ _).symm.trans H; with_reducible exact H2_) | with_reducible exact H | (rw [hy175]; exact H) | exact H
    have Ny175 := Aside0.mk hy175
    clear hy175
    replace H := Option.bind_eq_some_iff.mp H
    obtain ⟨t178, A50, H⟩ := H
    replace H : ((jobberref12_sorted.f k t178).bind fun t181 => (if y175.length + t181.length < 2932031007402 then ((some (y175 ++ t181 : List (S41))).bind fun y184 => ((jobberref12_side.f k l0 0).bind fun t187 => (if y184.length + t187.length < 2932031007402 then (some (y184 ++ t187)) else (none)))) else (none))) = some r := H
    have A5 := Aside0.mk A50
    clear A50
    replace H := Option.bind_eq_some_iff.mp H
    obtain ⟨t181, A60, H⟩ := H
    replace H : (if y175.length + t181.length < 2932031007402 then ((some (y175 ++ t181 : List (S41))).bind fun y184 => ((jobberref12_side.f k l0 0).bind fun t187 => (if y184.length + t187.length < 2932031007402 then (some (y184 ++ t187)) else (none)))) else (none)) = some r := H
    have A6 := Aside0.mk A60
    clear A60
    by_cases c7 : y175.length + t181.length < 2932031007402
    · rw [if_pos c7] at H
      have LMc7 := Aside0.mk c7
      clear c7
      obtain ⟨y184, hy184⟩ : ∃ y_ : List (S41), y_ = (y175 ++ t181) := ⟨_, rfl⟩
      replace H : ((jobberref12_side.f k l0 0).bind fun t187 => (if y184.length + t187.length < 2932031007402 then (some (y184 ++ t187)) else (none))) = some r := by first | (rw [hy184]; with_reducible exact H) | (have H2_ := (Option.bind_some _ _).symm.trans H; rw [hy184]; with_reducible exact H2_) | (have H2_ := (Option.bind_some _ _).symm.trans H; with_reducible exact H2_) | with_reducible exact H | (rw [hy184]; exact H) | exact H
      have Ny184 := Aside0.mk hy184
      clear hy184
      replace H := Option.bind_eq_some_iff.mp H
      obtain ⟨t187, A80, H⟩ := H
      replace H : (if y184.length + t187.length < 2932031007402 then (some (y184 ++ t187)) else (none)) = some r := H
      have A8 := Aside0.mk A80
      clear A80
      by_cases c9 : y184.length + t187.length < 2932031007402
      · rw [if_pos c9] at H
        have LMc9 := Aside0.mk c9
        clear c9
        obtain ⟨y190, hy190⟩ : ∃ y_ : List (S41), y_ = (y184 ++ t187) := ⟨_, rfl⟩
        replace H : (some y190) = some r := by first | (rw [hy190]; with_reducible exact H) | (have H2_ := (Option.bind_some _ _).symm.trans H; rw [hy190]; with_reducible exact H2_) | (have H2_ := (Option.bind_some _ _).symm.trans H; with_reducible exact H2_) | with_reducible exact H | (rw [hy190]; exact H) | exact H
        have Ny190 := Aside0.mk hy190
        clear hy190
        obtain rfl := Option.some.inj H
        go_enter Try.func11, Try.ntmps11
        go_wp2_with (first | ((with_reducible refine gate_dst (N := 4) rfl ?_); refine Kd.R_lit k41 _ 41 ?hg (N := 4) ?hd (xs := ([] : List (S41))) (inner := []) (ok := fun _ => True) (okp := fun _ => True) ?hr ?hp (fun _ hk => hk) trivial (Below.refl _ _) (Nat.le_refl _) (by simp) ?_; (case hd => rfl); (case hg => rfl); (case hr => first | (go_simp; done) | (go_simp; rfl)); (case hp => exact (Reps.none _ _)); intro v167 w10 ho11 hb hg_ hnew_; clear hg_ hnew_; (first | rw [← Ny166.out] at ho11 | (simp only [Int.reduceToNat] at ho11; rw [← Ny166.out] at ho11)); have n0_ := Aside0.mk (Kd.R_lower ho11 (below_size (by repeat (first | (with_reducible first | exact HB.out | apply below_alloc | apply pw_below_drewN | apply below_drew1) | exact HB.out)))); have n1_ := Aside0.mk (below_step (by repeat (first | (with_reducible first | exact HB.out | apply below_alloc | apply pw_below_drewN | apply below_drew1) | exact HB.out)) hb); clear HB; have HO168 := n0_; have HB := n1_; clear n0_ n1_; clear hb ho11) | ((with_reducible refine gate_callee (f := 45) rfl ?_); refine goesL_ (some 6) rfl rfl Try.func45 (by kernel_rfl) rfl #[.slice A0 l0.length c0, .int .i64 1] rfl (by (try simp only [List.map_toArray, List.map_cons, List.map_nil]); first | done | rfl | (simp only [List.length_drop, List.length_take]; rfl)) ?_; (with_reducible refine (jobberref12_side.calls k _ _ l0 1 t169 _ ?side1 ?side2 A2.out).mono ?_); (case side1 => repeat (first | exact (Kd.C_below HR0.out HB.out) | (with_reducible refine Kd.C_alloc ?_ _) | (with_reducible refine Kd.C_drewN ?_ _) | (with_reducible refine Kd.C_drew ?_))); (case side2 => exact HC0.out); rintro e w12 ⟨v170, rfl, ho0, hb⟩; refine ⟨_, rfl, ?_⟩; have n0_ := Aside0.mk (Kd.R_elder' (by (with_reducible repeat (first | apply Kd.R_alloc | apply Kd.R_drewN | apply Kd.R_drew)); exact HO168.out) (Kd.R_base ho0) hb); have n1_ := Aside0.mk (Kd.R_lower (Kd.R_new' ho0 (Kd.R_lt (by (with_reducible repeat (first | apply Kd.R_alloc | apply Kd.R_drewN | apply Kd.R_drew)); exact HO168.out))) (below_size (by repeat (first | (with_reducible first | exact HB.out | apply below_alloc | apply pw_below_drewN | apply below_drew1) | exact HB.out)))); have n2_ := Aside0.mk (below_step (by repeat (first | (with_reducible first | exact HB.out | apply below_alloc | apply pw_below_drewN | apply below_drew1) | exact HB.out)) hb); clear HO168; clear HB; have HO168 := n0_; have HO171 := n1_; have HB := n2_; clear n0_ n1_ n2_; (try clear hb); (try clear hb2); (try clear hk); (try clear hi); (try clear ho0); obtain ⟨Ao13, co13, eo13⟩ := Kd.R_slice HO171.out; subst eo13) | ((with_reducible refine gate_callee (f := 44) rfl ?_); refine goesL_ (some 7) rfl rfl Try.func44 (by kernel_rfl) rfl #[.slice Ao13 t169.length co13] rfl (by (try simp only [List.map_toArray, List.map_cons, List.map_nil]); first | done | rfl | (simp only [List.length_drop, List.length_take]; rfl)) ?_; (with_reducible refine (jobberref12_sorted.calls k (fun k_ => some k_ = (.slice Ao13 t169.length co13 : Value).ownBlock) _ _ t169 t172 _ ?side1 A3.out).mono ?_); (case side1 => exact Kd.R_V (Kd.R_tight rfl (HO171.out))); rintro e w14 ⟨v173, rfl, ho0, hb⟩; refine ⟨_, rfl, ?_⟩; have n0_ := Aside0.mk (Kd.R_elder' (by (with_reducible repeat (first | apply Kd.R_alloc | apply Kd.R_drewN | apply Kd.R_drew)); exact HO168.out) (Kd.R_base ho0) hb); have n1_ := Aside0.mk (Kd.R_elder' (by (with_reducible repeat (first | apply Kd.R_alloc | apply Kd.R_drewN | apply Kd.R_drew)); exact HO171.out) (Kd.R_base ho0) hb); have n2_ := Aside0.mk (Kd.R_lower (Kd.R_new' (Kd.R_new' (Kd.R_mono (ok' := fun k_ => True) ho0 (fun _ hk_ => trivial)) (Kd.R_lt (by (with_reducible repeat (first | apply Kd.R_alloc | apply Kd.R_drewN | apply Kd.R_drew)); exact HO168.out))) (Kd.R_lt (by (with_reducible repeat (first | apply Kd.R_alloc | apply Kd.R_drewN | apply Kd.R_drew)); exact HO171.out))) (below_size (by repeat (first | (with_reducible first | exact HB.out | apply below_alloc | apply pw_below_drewN | apply below_drew1) | exact HB.out)))); have n3_ := Aside0.mk (below_step (by repeat (first | (with_reducible first | exact HB.out | apply below_alloc | apply pw_below_drewN | apply below_drew1) | exact HB.out)) hb); clear HO168; clear HO171; clear HB; have HO168 := n0_; have HO171 := n1_; have HO174 := n2_; have HB := n3_; clear n0_ n1_ n2_ n3_; (try clear hb); (try clear hb2); (try clear hk); (try clear hi); (try clear ho0); obtain ⟨Ao16, co16, eo16⟩ := Kd.R_slice HO174.out; subst eo16) | ((with_reducible refine gate_builtin (b := .append) (xs := #[.tmp 4, .tmp 7]) rfl ?_); at_builtin; refine Kd.R_append_rows k41 (w0 := w) w.heap.size rfl (.tmp 4) (.tmp 7) 24 41 (.agg #[(.int .u64 0), (.int .i64 0), (.int .i64 0), (.int .i64 0), (.int .i64 0), (.int .u64 0)]) 48 rfl Try.underlying24 info41 rfl (by decide) (by omega) v167 y166 t172 _ _ _ (fun k_ => some k_ ≠ (.slice Ao13 t169.length co13 : Value).ownBlock ∧ some k_ ≠ (.slice Ao16 t172.length co16 : Value).ownBlock) (fun _ => False) rfl rfl ?aO ?aR (fun _ _ h => h) (fun _ h => h.elim) ?aF ?aB ?aS ?aL ?_; (case aR => repeat (first | exact (Kd.R_reads' HO174.out).2.2 | (with_reducible refine Kd.C_alloc ?_ _) | (with_reducible refine Kd.C_drewN ?_ _) | (with_reducible refine Kd.C_drew ?_))); (case aB => exact (by repeat (first | (with_reducible first | exact HB.out | apply below_alloc | apply pw_below_drewN | apply below_drew1) | exact HB.out))); (case aF => exact (fun k_ hk => ⟨Kd.fresh' (Kd.R_lt (by (with_reducible repeat (first | apply Kd.R_alloc | apply Kd.R_drewN | apply Kd.R_drew)); exact HO171.out)) k_ hk, Kd.fresh' (Kd.R_lt (by (with_reducible repeat (first | apply Kd.R_alloc | apply Kd.R_drewN | apply Kd.R_drew)); exact HO174.out)) k_ hk⟩)); (case aO => exact (by (with_reducible repeat (first | apply Kd.R_alloc | apply Kd.R_drewN | apply Kd.R_drew)); exact Kd.R_mono HO168.out (fun _ hk => ⟨hk.1.2, hk.2⟩))); (case aS => exact (below_size (by repeat (first | (with_reducible first | exact HB.out | apply below_alloc | apply pw_below_drewN | apply below_drew1) | exact HB.out)))); (case aL => have := LMc4.out; omega); intro v176 w15 ho hb hg hat; rw [← Ny175.out] at ho; have n0_ := Aside0.mk (Kd.R_after (ok := (fun k_ => some k_ ≠ (.slice Ao16 t172.length co16 : Value).ownBlock)) (by (with_reducible repeat (first | apply Kd.R_alloc | apply Kd.R_drewN | apply Kd.R_drew)); exact Kd.R_mono HO171.out (fun _ hk => ⟨hk.2, hk.1.2⟩)) hg hat); have n1_ := Aside0.mk (Kd.R_after (ok := (fun k_ => some k_ ≠ (.slice Ao13 t169.length co13 : Value).ownBlock)) (by (with_reducible repeat (first | apply Kd.R_alloc | apply Kd.R_drewN | apply Kd.R_drew)); exact Kd.R_mono HO174.out (fun _ hk => ⟨hk.2, hk.1.2⟩)) hg hat); have n2_ := Aside0.mk (hb); have n3_ := Aside0.mk (ho); clear HO171; clear HO174; clear HB; clear HO168; have HO171 := n0_; have HO174 := n1_; have HB := n2_; have HO177 := n3_; clear n0_ n1_ n2_ n3_; clear ho hb hg hat) | ((with_reducible refine gate_callee (f := 45) rfl ?_); refine goesL_ (some 11) rfl rfl Try.func45 (by kernel_rfl) rfl #[.slice A0 l0.length c0, .int .i64 2] rfl (by (try simp only [List.map_toArray, List.map_cons, List.map_nil]); first | done | rfl | (simp only [List.length_drop, List.length_take]; rfl)) ?_; (with_reducible refine (jobberref12_side.calls k _ _ l0 2 t178 _ ?side1 ?side2 A5.out).mono ?_); (case side1 => repeat (first | exact (Kd.C_below HR0.out HB.out) | (with_reducible refine Kd.C_alloc ?_ _) | (with_reducible refine Kd.C_drewN ?_ _) | (with_reducible refine Kd.C_drew ?_))); (case side2 => exact HC0.out); rintro e w17 ⟨v179, rfl, ho0, hb⟩; refine ⟨_, rfl, ?_⟩; have n0_ := Aside0.mk (Kd.R_elder' (by (with_reducible repeat (first | apply Kd.R_alloc | apply Kd.R_drewN | apply Kd.R_drew)); exact HO171.out) (Kd.R_base ho0) hb); have n1_ := Aside0.mk (Kd.R_elder' (by (with_reducible repeat (first | apply Kd.R_alloc | apply Kd.R_drewN | apply Kd.R_drew)); exact HO174.out) (Kd.R_base ho0) hb); have n2_ := Aside0.mk (Kd.R_elder' (by (with_reducible repeat (first | apply Kd.R_alloc | apply Kd.R_drewN | apply Kd.R_drew)); exact HO177.out) (Kd.R_base ho0) hb); have n3_ := Aside0.mk (Kd.R_lower (Kd.R_new' (Kd.R_new' (Kd.R_new' ho0 (Kd.R_lt (by (with_reducible repeat (first | apply Kd.R_alloc | apply Kd.R_drewN | apply Kd.R_drew)); exact HO171.out))) (Kd.R_lt (by (with_reducible repeat (first | apply Kd.R_alloc | apply Kd.R_drewN | apply Kd.R_drew)); exact HO174.out))) (Kd.R_lt (by (with_reducible repeat (first | apply Kd.R_alloc | apply Kd.R_drewN | apply Kd.R_drew)); exact HO177.out))) (below_size (by repeat (first | (with_reducible first | exact HB.out | apply below_alloc | apply pw_below_drewN | apply below_drew1) | exact HB.out)))); have n4_ := Aside0.mk (below_step (by repeat (first | (with_reducible first | exact HB.out | apply below_alloc | apply pw_below_drewN | apply below_drew1) | exact HB.out)) hb); clear HO171; clear HO174; clear HO177; clear HB; have HO171 := n0_; have HO174 := n1_; have HO177 := n2_; have HO180 := n3_; have HB := n4_; clear n0_ n1_ n2_ n3_ n4_; (try clear hb); (try clear hb2); (try clear hk); (try clear hi); (try clear ho0); obtain ⟨Ao18, co18, eo18⟩ := Kd.R_slice HO180.out; subst eo18) | ((with_reducible refine gate_callee (f := 44) rfl ?_); refine goesL_ (some 12) rfl rfl Try.func44 (by kernel_rfl) rfl #[.slice Ao18 t178.length co18] rfl (by (try simp only [List.map_toArray, List.map_cons, List.map_nil]); first | done | rfl | (simp only [List.length_drop, List.length_take]; rfl)) ?_; (with_reducible refine (jobberref12_sorted.calls k (fun k_ => some k_ = (.slice Ao18 t178.length co18 : Value).ownBlock) _ _ t178 t181 _ ?side1 A6.out).mono ?_); (case side1 => exact Kd.R_V (Kd.R_tight rfl (HO180.out))); rintro e w19 ⟨v182, rfl, ho0, hb⟩; refine ⟨_, rfl, ?_⟩; have n0_ := Aside0.mk (Kd.R_elder' (by (with_reducible repeat (first | apply Kd.R_alloc | apply Kd.R_drewN | apply Kd.R_drew)); exact HO171.out) (Kd.R_base ho0) hb); have n1_ := Aside0.mk (Kd.R_elder' (by (with_reducible repeat (first | apply Kd.R_alloc | apply Kd.R_drewN | apply Kd.R_drew)); exact HO174.out) (Kd.R_base ho0) hb); have n2_ := Aside0.mk (Kd.R_elder' (by (with_reducible repeat (first | apply Kd.R_alloc | apply Kd.R_drewN | apply Kd.R_drew)); exact HO177.out) (Kd.R_base ho0) hb); have n3_ := Aside0.mk (Kd.R_elder' (by (with_reducible repeat (first | apply Kd.R_alloc | apply Kd.R_drewN | apply Kd.R_drew)); exact HO180.out) (Kd.R_base ho0) hb); have n4_ := Aside0.mk (Kd.R_lower (Kd.R_new' (Kd.R_new' (Kd.R_new' (Kd.R_new' (Kd.R_mono (ok' := fun k_ => True) ho0 (fun _ hk_ => trivial)) (Kd.R_lt (by (with_reducible repeat (first | apply Kd.R_alloc | apply Kd.R_drewN | apply Kd.R_drew)); exact HO171.out))) (Kd.R_lt (by (with_reducible repeat (first | apply Kd.R_alloc | apply Kd.R_drewN | apply Kd.R_drew)); exact HO174.out))) (Kd.R_lt (by (with_reducible repeat (first | apply Kd.R_alloc | apply Kd.R_drewN | apply Kd.R_drew)); exact HO177.out))) (Kd.R_lt (by (with_reducible repeat (first | apply Kd.R_alloc | apply Kd.R_drewN | apply Kd.R_drew)); exact HO180.out))) (below_size (by repeat (first | (with_reducible first | exact HB.out | apply below_alloc | apply pw_below_drewN | apply below_drew1) | exact HB.out)))); have n5_ := Aside0.mk (below_step (by repeat (first | (with_reducible first | exact HB.out | apply below_alloc | apply pw_below_drewN | apply below_drew1) | exact HB.out)) hb); clear HO171; clear HO174; clear HO177; clear HO180; clear HB; have HO171 := n0_; have HO174 := n1_; have HO177 := n2_; have HO180 := n3_; have HO183 := n4_; have HB := n5_; clear n0_ n1_ n2_ n3_ n4_ n5_; (try clear hb); (try clear hb2); (try clear hk); (try clear hi); (try clear ho0); obtain ⟨Ao21, co21, eo21⟩ := Kd.R_slice HO183.out; subst eo21) | ((with_reducible refine gate_builtin (b := .append) (xs := #[.tmp 9, .tmp 12]) rfl ?_); at_builtin; refine Kd.R_append_rows k41 (w0 := w) w.heap.size rfl (.tmp 9) (.tmp 12) 24 41 (.agg #[(.int .u64 0), (.int .i64 0), (.int .i64 0), (.int .i64 0), (.int .i64 0), (.int .u64 0)]) 48 rfl Try.underlying24 info41 rfl (by decide) (by omega) v176 y175 t181 _ _ _ (fun k_ => some k_ ≠ (.slice Ao13 t169.length co13 : Value).ownBlock ∧ some k_ ≠ (.slice Ao16 t172.length co16 : Value).ownBlock ∧ some k_ ≠ (.slice Ao18 t178.length co18 : Value).ownBlock ∧ some k_ ≠ (.slice Ao21 t181.length co21 : Value).ownBlock) (fun _ => False) rfl rfl ?aO ?aR (fun _ _ h => h) (fun _ h => h.elim) ?aF ?aB ?aS ?aL ?_; (case aR => repeat (first | exact (Kd.R_reads' HO183.out).2.2 | (with_reducible refine Kd.C_alloc ?_ _) | (with_reducible refine Kd.C_drewN ?_ _) | (with_reducible refine Kd.C_drew ?_))); (case aB => exact (by repeat (first | (with_reducible first | exact HB.out | apply below_alloc | apply pw_below_drewN | apply below_drew1) | exact HB.out))); (case aF => exact (fun k_ hk => ⟨Kd.fresh' (Kd.R_lt (by (with_reducible repeat (first | apply Kd.R_alloc | apply Kd.R_drewN | apply Kd.R_drew)); exact HO171.out)) k_ hk, Kd.fresh' (Kd.R_lt (by (with_reducible repeat (first | apply Kd.R_alloc | apply Kd.R_drewN | apply Kd.R_drew)); exact HO174.out)) k_ hk, Kd.fresh' (Kd.R_lt (by (with_reducible repeat (first | apply Kd.R_alloc | apply Kd.R_drewN | apply Kd.R_drew)); exact HO180.out)) k_ hk, Kd.fresh' (Kd.R_lt (by (with_reducible repeat (first | apply Kd.R_alloc | apply Kd.R_drewN | apply Kd.R_drew)); exact HO183.out)) k_ hk⟩)); (case aO => exact (by (with_reducible repeat (first | apply Kd.R_alloc | apply Kd.R_drewN | apply Kd.R_drew)); exact Kd.R_mono HO177.out (fun _ hk => ⟨hk.1.1.1, ⟨hk.1.1.2, ⟨hk.1.2, hk.2⟩⟩⟩))); (case aS => exact (below_size (by repeat (first | (with_reducible first | exact HB.out | apply below_alloc | apply pw_below_drewN | apply below_drew1) | exact HB.out)))); (case aL => have := LMc7.out; omega); intro v185 w20 ho hb hg hat; rw [← Ny184.out] at ho; have n0_ := Aside0.mk (Kd.R_after (ok := (fun k_ => some k_ ≠ (.slice Ao16 t172.length co16 : Value).ownBlock ∧ some k_ ≠ (.slice Ao18 t178.length co18 : Value).ownBlock ∧ some k_ ≠ (.slice Ao21 t181.length co21 : Value).ownBlock)) (by (with_reducible repeat (first | apply Kd.R_alloc | apply Kd.R_drewN | apply Kd.R_drew)); exact Kd.R_mono HO171.out (fun _ hk => ⟨⟨hk.1.1.1, ⟨hk.1.2, hk.2⟩⟩, hk.1.1.2⟩)) hg hat); have n1_ := Aside0.mk (Kd.R_after (ok := (fun k_ => some k_ ≠ (.slice Ao13 t169.length co13 : Value).ownBlock ∧ some k_ ≠ (.slice Ao18 t178.length co18 : Value).ownBlock ∧ some k_ ≠ (.slice Ao21 t181.length co21 : Value).ownBlock)) (by (with_reducible repeat (first | apply Kd.R_alloc | apply Kd.R_drewN | apply Kd.R_drew)); exact Kd.R_mono HO174.out (fun _ hk => ⟨⟨hk.1.1.1, ⟨hk.1.2, hk.2⟩⟩, hk.1.1.2⟩)) hg hat); have n2_ := Aside0.mk (Kd.R_after (ok := (fun k_ => some k_ ≠ (.slice Ao13 t169.length co13 : Value).ownBlock ∧ some k_ ≠ (.slice Ao16 t172.length co16 : Value).ownBlock ∧ some k_ ≠ (.slice Ao21 t181.length co21 : Value).ownBlock)) (by (with_reducible repeat (first | apply Kd.R_alloc | apply Kd.R_drewN | apply Kd.R_drew)); exact Kd.R_mono HO180.out (fun _ hk => ⟨⟨hk.1.1.1.2, ⟨hk.1.1.2, hk.2⟩⟩, hk.1.2⟩)) hg hat); have n3_ := Aside0.mk (Kd.R_after (ok := (fun k_ => some k_ ≠ (.slice Ao13 t169.length co13 : Value).ownBlock ∧ some k_ ≠ (.slice Ao16 t172.length co16 : Value).ownBlock ∧ some k_ ≠ (.slice Ao18 t178.length co18 : Value).ownBlock)) (by (with_reducible repeat (first | apply Kd.R_alloc | apply Kd.R_drewN | apply Kd.R_drew)); exact Kd.R_mono HO183.out (fun _ hk => ⟨⟨hk.1.1.1.2, ⟨hk.1.1.2, hk.2⟩⟩, hk.1.2⟩)) hg hat); have n4_ := Aside0.mk (hb); have n5_ := Aside0.mk (ho); clear HO171; clear HO174; clear HO180; clear HO183; clear HB; clear HO177; have HO171 := n0_; have HO174 := n1_; have HO180 := n2_; have HO183 := n3_; have HB := n4_; have HO186 := n5_; clear n0_ n1_ n2_ n3_ n4_ n5_; clear ho hb hg hat) | ((with_reducible refine gate_callee (f := 45) rfl ?_); refine goesL_ (some 16) rfl rfl Try.func45 (by kernel_rfl) rfl #[.slice A0 l0.length c0, .int .i64 0] rfl (by (try simp only [List.map_toArray, List.map_cons, List.map_nil]); first | done | rfl | (simp only [List.length_drop, List.length_take]; rfl)) ?_; (with_reducible refine (jobberref12_side.calls k _ _ l0 0 t187 _ ?side1 ?side2 A8.out).mono ?_); (case side1 => repeat (first | exact (Kd.C_below HR0.out HB.out) | (with_reducible refine Kd.C_alloc ?_ _) | (with_reducible refine Kd.C_drewN ?_ _) | (with_reducible refine Kd.C_drew ?_))); (case side2 => exact HC0.out); rintro e w22 ⟨v188, rfl, ho0, hb⟩; refine ⟨_, rfl, ?_⟩; have n0_ := Aside0.mk (Kd.R_elder' (by (with_reducible repeat (first | apply Kd.R_alloc | apply Kd.R_drewN | apply Kd.R_drew)); exact HO171.out) (Kd.R_base ho0) hb); have n1_ := Aside0.mk (Kd.R_elder' (by (with_reducible repeat (first | apply Kd.R_alloc | apply Kd.R_drewN | apply Kd.R_drew)); exact HO174.out) (Kd.R_base ho0) hb); have n2_ := Aside0.mk (Kd.R_elder' (by (with_reducible repeat (first | apply Kd.R_alloc | apply Kd.R_drewN | apply Kd.R_drew)); exact HO180.out) (Kd.R_base ho0) hb); have n3_ := Aside0.mk (Kd.R_elder' (by (with_reducible repeat (first | apply Kd.R_alloc | apply Kd.R_drewN | apply Kd.R_drew)); exact HO183.out) (Kd.R_base ho0) hb); have n4_ := Aside0.mk (Kd.R_elder' (by (with_reducible repeat (first | apply Kd.R_alloc | apply Kd.R_drewN | apply Kd.R_drew)); exact HO186.out) (Kd.R_base ho0) hb); have n5_ := Aside0.mk (Kd.R_lower (Kd.R_new' (Kd.R_new' (Kd.R_new' (Kd.R_new' (Kd.R_new' ho0 (Kd.R_lt (by (with_reducible repeat (first | apply Kd.R_alloc | apply Kd.R_drewN | apply Kd.R_drew)); exact HO171.out))) (Kd.R_lt (by (with_reducible repeat (first | apply Kd.R_alloc | apply Kd.R_drewN | apply Kd.R_drew)); exact HO174.out))) (Kd.R_lt (by (with_reducible repeat (first | apply Kd.R_alloc | apply Kd.R_drewN | apply Kd.R_drew)); exact HO180.out))) (Kd.R_lt (by (with_reducible repeat (first | apply Kd.R_alloc | apply Kd.R_drewN | apply Kd.R_drew)); exact HO183.out))) (Kd.R_lt (by (with_reducible repeat (first | apply Kd.R_alloc | apply Kd.R_drewN | apply Kd.R_drew)); exact HO186.out))) (below_size (by repeat (first | (with_reducible first | exact HB.out | apply below_alloc | apply pw_below_drewN | apply below_drew1) | exact HB.out)))); have n6_ := Aside0.mk (below_step (by repeat (first | (with_reducible first | exact HB.out | apply below_alloc | apply pw_below_drewN | apply below_drew1) | exact HB.out)) hb); clear HO171; clear HO174; clear HO180; clear HO183; clear HO186; clear HB; have HO171 := n0_; have HO174 := n1_; have HO180 := n2_; have HO183 := n3_; have HO186 := n4_; have HO189 := n5_; have HB := n6_; clear n0_ n1_ n2_ n3_ n4_ n5_ n6_; (try clear hb); (try clear hb2); (try clear hk); (try clear hi); (try clear ho0); obtain ⟨Ao24, co24, eo24⟩ := Kd.R_slice HO189.out; subst eo24) | ((with_reducible refine gate_builtin (b := .append) (xs := #[.tmp 14, .tmp 16]) rfl ?_); at_builtin; refine Kd.R_append_rows k41 (w0 := w) w.heap.size rfl (.tmp 14) (.tmp 16) 24 41 (.agg #[(.int .u64 0), (.int .i64 0), (.int .i64 0), (.int .i64 0), (.int .i64 0), (.int .u64 0)]) 48 rfl Try.underlying24 info41 rfl (by decide) (by omega) v185 y184 t187 _ _ _ (fun k_ => some k_ ≠ (.slice Ao13 t169.length co13 : Value).ownBlock ∧ some k_ ≠ (.slice Ao16 t172.length co16 : Value).ownBlock ∧ some k_ ≠ (.slice Ao18 t178.length co18 : Value).ownBlock ∧ some k_ ≠ (.slice Ao21 t181.length co21 : Value).ownBlock ∧ some k_ ≠ (.slice Ao24 t187.length co24 : Value).ownBlock) (fun _ => False) rfl rfl ?aO ?aR (fun _ _ h => h) (fun _ h => h.elim) ?aF ?aB ?aS ?aL ?_; (case aR => repeat (first | exact (Kd.R_reads' HO189.out).2.2 | (with_reducible refine Kd.C_alloc ?_ _) | (with_reducible refine Kd.C_drewN ?_ _) | (with_reducible refine Kd.C_drew ?_))); (case aB => exact (by repeat (first | (with_reducible first | exact HB.out | apply below_alloc | apply pw_below_drewN | apply below_drew1) | exact HB.out))); (case aF => exact (fun k_ hk => ⟨Kd.fresh' (Kd.R_lt (by (with_reducible repeat (first | apply Kd.R_alloc | apply Kd.R_drewN | apply Kd.R_drew)); exact HO171.out)) k_ hk, Kd.fresh' (Kd.R_lt (by (with_reducible repeat (first | apply Kd.R_alloc | apply Kd.R_drewN | apply Kd.R_drew)); exact HO174.out)) k_ hk, Kd.fresh' (Kd.R_lt (by (with_reducible repeat (first | apply Kd.R_alloc | apply Kd.R_drewN | apply Kd.R_drew)); exact HO180.out)) k_ hk, Kd.fresh' (Kd.R_lt (by (with_reducible repeat (first | apply Kd.R_alloc | apply Kd.R_drewN | apply Kd.R_drew)); exact HO183.out)) k_ hk, Kd.fresh' (Kd.R_lt (by (with_reducible repeat (first | apply Kd.R_alloc | apply Kd.R_drewN | apply Kd.R_drew)); exact HO189.out)) k_ hk⟩)); (case aO => exact (by (with_reducible repeat (first | apply Kd.R_alloc | apply Kd.R_drewN | apply Kd.R_drew)); exact Kd.R_mono HO186.out (fun _ hk => ⟨hk.1.1, ⟨hk.1.2.1, ⟨hk.1.2.2.1, ⟨hk.1.2.2.2, hk.2⟩⟩⟩⟩))); (case aS => exact (below_size (by repeat (first | (with_reducible first | exact HB.out | apply below_alloc | apply pw_below_drewN | apply below_drew1) | exact HB.out)))); (case aL => have := LMc9.out; omega); intro v191 w23 ho hb hg hat; rw [← Ny190.out] at ho; have n0_ := Aside0.mk (Kd.R_after (ok := (fun k_ => some k_ ≠ (.slice Ao16 t172.length co16 : Value).ownBlock ∧ some k_ ≠ (.slice Ao18 t178.length co18 : Value).ownBlock ∧ some k_ ≠ (.slice Ao21 t181.length co21 : Value).ownBlock ∧ some k_ ≠ (.slice Ao24 t187.length co24 : Value).ownBlock)) (by (with_reducible repeat (first | apply Kd.R_alloc | apply Kd.R_drewN | apply Kd.R_drew)); exact Kd.R_mono HO171.out (fun _ hk => ⟨⟨hk.1.1.1, ⟨hk.1.1.2.1, ⟨hk.1.1.2.2, hk.2⟩⟩⟩, hk.1.2⟩)) hg hat); have n1_ := Aside0.mk (Kd.R_after (ok := (fun k_ => some k_ ≠ (.slice Ao13 t169.length co13 : Value).ownBlock ∧ some k_ ≠ (.slice Ao18 t178.length co18 : Value).ownBlock ∧ some k_ ≠ (.slice Ao21 t181.length co21 : Value).ownBlock ∧ some k_ ≠ (.slice Ao24 t187.length co24 : Value).ownBlock)) (by (with_reducible repeat (first | apply Kd.R_alloc | apply Kd.R_drewN | apply Kd.R_drew)); exact Kd.R_mono HO174.out (fun _ hk => ⟨⟨hk.1.1.1, ⟨hk.1.1.2.1, ⟨hk.1.1.2.2, hk.2⟩⟩⟩, hk.1.2⟩)) hg hat); have n2_ := Aside0.mk (Kd.R_after (ok := (fun k_ => some k_ ≠ (.slice Ao13 t169.length co13 : Value).ownBlock ∧ some k_ ≠ (.slice Ao16 t172.length co16 : Value).ownBlock ∧ some k_ ≠ (.slice Ao21 t181.length co21 : Value).ownBlock ∧ some k_ ≠ (.slice Ao24 t187.length co24 : Value).ownBlock)) (by (with_reducible repeat (first | apply Kd.R_alloc | apply Kd.R_drewN | apply Kd.R_drew)); exact Kd.R_mono HO180.out (fun _ hk => ⟨⟨hk.1.1.1, ⟨hk.1.1.2.1, ⟨hk.1.1.2.2, hk.2⟩⟩⟩, hk.1.2⟩)) hg hat); have n3_ := Aside0.mk (Kd.R_after (ok := (fun k_ => some k_ ≠ (.slice Ao13 t169.length co13 : Value).ownBlock ∧ some k_ ≠ (.slice Ao16 t172.length co16 : Value).ownBlock ∧ some k_ ≠ (.slice Ao18 t178.length co18 : Value).ownBlock ∧ some k_ ≠ (.slice Ao24 t187.length co24 : Value).ownBlock)) (by (with_reducible repeat (first | apply Kd.R_alloc | apply Kd.R_drewN | apply Kd.R_drew)); exact Kd.R_mono HO183.out (fun _ hk => ⟨⟨hk.1.1.1, ⟨hk.1.1.2.1, ⟨hk.1.1.2.2, hk.2⟩⟩⟩, hk.1.2⟩)) hg hat); have n4_ := Aside0.mk (Kd.R_after (ok := (fun k_ => some k_ ≠ (.slice Ao13 t169.length co13 : Value).ownBlock ∧ some k_ ≠ (.slice Ao16 t172.length co16 : Value).ownBlock ∧ some k_ ≠ (.slice Ao18 t178.length co18 : Value).ownBlock ∧ some k_ ≠ (.slice Ao21 t181.length co21 : Value).ownBlock)) (by (with_reducible repeat (first | apply Kd.R_alloc | apply Kd.R_drewN | apply Kd.R_drew)); exact Kd.R_mono HO189.out (fun _ hk => ⟨⟨hk.1.1.1.1.2, ⟨hk.1.1.1.2, ⟨hk.1.1.2, hk.1.2⟩⟩⟩, hk.2⟩)) hg hat); have n5_ := Aside0.mk (hb); have n6_ := Aside0.mk (ho); clear HO171; clear HO174; clear HO180; clear HO183; clear HO189; clear HB; clear HO186; have HO171 := n0_; have HO174 := n1_; have HO180 := n2_; have HO183 := n3_; have HO189 := n4_; have HB := n5_; have HO192 := n6_; clear n0_ n1_ n2_ n3_ n4_ n5_ n6_; clear ho hb hg hat))
        go_ret
        exact ⟨_, by first | rfl | (simp [errW_none, errW_some] <;> rfl) | (simp [*, errW_none, errW_some] <;> rfl), by (with_reducible repeat (first | apply Kd.R_alloc | apply Kd.R_drewN | apply Kd.R_drew)); exact Kd.R_mono HO192.out (fun _ hk => trivial), by repeat (first | (with_reducible first | exact HB.out | apply below_alloc | apply pw_below_drewN | apply below_drew1) | exact HB.out)⟩
      · rw [if_neg c9] at H
        exact absurd H (by simp)
    · rw [if_neg c7] at H
      exact absurd H (by simp)
  · rw [if_neg c4] at H
    exact absurd H (by simp)
def jobberref12_Good.f (a0_0 : Int) (a0_1 : Int) (a0_2 : Int) (a0_3 : Int) (a0_4 : Int) (a0_5 : Int) : Option (Bool) := if a0_1 ≥ 0 then (if a0_1 < 8 then (if a0_2 = 1 then (if a0_3 ≥ 1 then (if a0_3 ≤ 1099511627776 then (if a0_4 ≥ 1 then (some (decide (a0_4 ≤ 1099511627776))) else (some false)) else (some false)) else (some false)) else (if a0_2 = 2 then (if a0_3 ≥ 1 then (if a0_3 ≤ 1099511627776 then (if a0_4 ≥ 1 then (some (decide (a0_4 ≤ 1099511627776))) else (some false)) else (some false)) else (some false)) else (some false))) else (some false)) else (some false)
set_option maxHeartbeats 8000000 in
set_option maxRecDepth 100000 in
theorem jobberref12_Good.calls (a0_0 : Int) (a0_1 : Int) (a0_2 : Int) (a0_3 : Int) (a0_4 : Int) (a0_5 : Int) (r : Bool) (w : World) (h : jobberref12_Good.f a0_0 a0_1 a0_2 a0_3 a0_4 a0_5 = some r) :
    Calls Try.prog 21 #[.agg #[.int .u64 a0_0, .int .i64 a0_1, .int .i64 a0_2, .int .i64 a0_3, .int .i64 a0_4, .int .u64 a0_5]] w fun e w' => e = .returned (.bool r) ∧ Below w.heap.size w w' := by
  have hu41 := Try.underlying41
  have HB := Aside0.mk (Below.refl w.heap.size w)
  have H : (if a0_1 ≥ 0 then (if a0_1 < 8 then (if a0_2 = 1 then (if a0_3 ≥ 1 then (if a0_3 ≤ 1099511627776 then (if a0_4 ≥ 1 then (some (decide (a0_4 ≤ 1099511627776))) else (some false)) else (some false)) else (some false)) else (if a0_2 = 2 then (if a0_3 ≥ 1 then (if a0_3 ≤ 1099511627776 then (if a0_4 ≥ 1 then (some (decide (a0_4 ≤ 1099511627776))) else (some false)) else (some false)) else (some false)) else (some false))) else (some false)) else (some false)) = some r := h
  clear h
  by_cases c2 : a0_1 ≥ 0
  · rw [if_pos c2] at H
    have c2b0 : decide (0 ≤ a0_1) = true := decide_eq_true c2
    clear c2
    by_cases c3 : a0_1 < 8
    · rw [if_pos c3] at H
      have c3b0 : decide (a0_1 < 8) = true := decide_eq_true c3
      clear c3
      by_cases c4 : a0_2 = 1
      · rw [if_pos c4] at H
        have c4b0 : (a0_2 == 1) = true := beq_iff_eq.mpr c4
        have c4b1 : (a0_2 != 1) = false := bne_eq_false_iff_eq.mpr c4
        clear c4
        by_cases c5 : a0_3 ≥ 1
        · rw [if_pos c5] at H
          have c5b0 : decide (1 ≤ a0_3) = true := decide_eq_true c5
          clear c5
          by_cases c6 : a0_3 ≤ 1099511627776
          · rw [if_pos c6] at H
            have c6b0 : decide (a0_3 ≤ 1099511627776) = true := decide_eq_true c6
            clear c6
            by_cases c7 : a0_4 ≥ 1
            · rw [if_pos c7] at H
              have c7b0 : decide (1 ≤ a0_4) = true := decide_eq_true c7
              clear c7
              obtain rfl := Option.some.inj H
              go_enter Try.func21, Try.ntmps21
              go_wp2_with (first | ((with_reducible refine gate_dst (N := 1) rfl ?_); refine box_event ?hg (N := 1) ?hd (cs := #[.int .u64 a0_0, .int .i64 a0_1, .int .i64 a0_2, .int .i64 a0_3, .int .i64 a0_4, .int .u64 a0_5]) (t := 41) ?hr ?_; (case hd => rfl); (case hg => rfl); (case hr => first | (go_simp; done) | (go_simp; rfl)); intro gb193 hg w8 hbox hb; have n0_ := Aside0.mk (below_step (by repeat (first | (with_reducible first | exact HB.out | apply below_alloc | apply pw_below_drewN | apply below_drew1) | exact HB.out)) hb); have n1_ := Aside0.mk (hbox); have n2_ := Aside0.mk ((by rw [hg]; exact (below_size (by repeat (first | (with_reducible first | exact HB.out | apply below_alloc | apply pw_below_drewN | apply below_drew1) | exact HB.out))) : w.heap.size ≤ gb193)); have n3_ := Aside0.mk ((by rw [hg]; exact (below_size (by repeat (first | (with_reducible first | exact HB.out | apply below_alloc | apply pw_below_drewN | apply below_drew1) | exact HB.out))) : w.heap.size ≤ gb193)); clear HB; have HB := n0_; have BK193 := n1_; have GW193 := n2_; have GE193 := n3_; clear n0_ n1_ n2_ n3_; clear hb hbox hg; have hcz9_0 : w8.cell? ⟨gb193, 0, none⟩ = some (.int .u64 a0_0) := (blk_cell BK193.out 0).trans rfl; have hcz9_1 : w8.cell? ⟨gb193, 1, none⟩ = some (.int .i64 a0_1) := (blk_cell BK193.out 1).trans rfl; have hcz9_2 : w8.cell? ⟨gb193, 2, none⟩ = some (.int .i64 a0_2) := (blk_cell BK193.out 2).trans rfl; have hcz9_3 : w8.cell? ⟨gb193, 3, none⟩ = some (.int .i64 a0_3) := (blk_cell BK193.out 3).trans rfl; have hcz9_4 : w8.cell? ⟨gb193, 4, none⟩ = some (.int .i64 a0_4) := (blk_cell BK193.out 4).trans rfl; have hcz9_5 : w8.cell? ⟨gb193, 5, none⟩ = some (.int .u64 a0_5) := (blk_cell BK193.out 5).trans rfl; have hfz9_0 := blk_frozen BK193.out 0; have hfz9_1 := blk_frozen BK193.out 1; have hfz9_2 := blk_frozen BK193.out 2; have hfz9_3 := blk_frozen BK193.out 3; have hfz9_4 := blk_frozen BK193.out 4; have hfz9_5 := blk_frozen BK193.out 5))
              go_ret
              exact ⟨by first | rfl | (simp [errW_none, errW_some] <;> rfl) | (simp [*, errW_none, errW_some] <;> rfl), by repeat (first | (with_reducible first | exact HB.out | apply below_alloc | apply pw_below_drewN | apply below_drew1 | refine below_set ?_ GE193.out) | exact HB.out)⟩
            · rw [if_neg c7] at H
              have c7b0 : decide (1 ≤ a0_4) = false := decide_eq_false c7
              clear c7
              obtain rfl := Option.some.inj H
              go_enter Try.func21, Try.ntmps21
              go_wp2_with (first | ((with_reducible refine gate_dst (N := 1) rfl ?_); refine box_event ?hg (N := 1) ?hd (cs := #[.int .u64 a0_0, .int .i64 a0_1, .int .i64 a0_2, .int .i64 a0_3, .int .i64 a0_4, .int .u64 a0_5]) (t := 41) ?hr ?_; (case hd => rfl); (case hg => rfl); (case hr => first | (go_simp; done) | (go_simp; rfl)); intro gb193 hg w10 hbox hb; have n0_ := Aside0.mk (below_step (by repeat (first | (with_reducible first | exact HB.out | apply below_alloc | apply pw_below_drewN | apply below_drew1) | exact HB.out)) hb); have n1_ := Aside0.mk (hbox); have n2_ := Aside0.mk ((by rw [hg]; exact (below_size (by repeat (first | (with_reducible first | exact HB.out | apply below_alloc | apply pw_below_drewN | apply below_drew1) | exact HB.out))) : w.heap.size ≤ gb193)); have n3_ := Aside0.mk ((by rw [hg]; exact (below_size (by repeat (first | (with_reducible first | exact HB.out | apply below_alloc | apply pw_below_drewN | apply below_drew1) | exact HB.out))) : w.heap.size ≤ gb193)); clear HB; have HB := n0_; have BK193 := n1_; have GW193 := n2_; have GE193 := n3_; clear n0_ n1_ n2_ n3_; clear hb hbox hg; have hcz11_0 : w10.cell? ⟨gb193, 0, none⟩ = some (.int .u64 a0_0) := (blk_cell BK193.out 0).trans rfl; have hcz11_1 : w10.cell? ⟨gb193, 1, none⟩ = some (.int .i64 a0_1) := (blk_cell BK193.out 1).trans rfl; have hcz11_2 : w10.cell? ⟨gb193, 2, none⟩ = some (.int .i64 a0_2) := (blk_cell BK193.out 2).trans rfl; have hcz11_3 : w10.cell? ⟨gb193, 3, none⟩ = some (.int .i64 a0_3) := (blk_cell BK193.out 3).trans rfl; have hcz11_4 : w10.cell? ⟨gb193, 4, none⟩ = some (.int .i64 a0_4) := (blk_cell BK193.out 4).trans rfl; have hcz11_5 : w10.cell? ⟨gb193, 5, none⟩ = some (.int .u64 a0_5) := (blk_cell BK193.out 5).trans rfl; have hfz11_0 := blk_frozen BK193.out 0; have hfz11_1 := blk_frozen BK193.out 1; have hfz11_2 := blk_frozen BK193.out 2; have hfz11_3 := blk_frozen BK193.out 3; have hfz11_4 := blk_frozen BK193.out 4; have hfz11_5 := blk_frozen BK193.out 5))
              go_ret
              exact ⟨by first | rfl | (simp [errW_none, errW_some] <;> rfl) | (simp [*, errW_none, errW_some] <;> rfl), by repeat (first | (with_reducible first | exact HB.out | apply below_alloc | apply pw_below_drewN | apply below_drew1 | refine below_set ?_ GE193.out) | exact HB.out)⟩
          · rw [if_neg c6] at H
            have c6b0 : decide (a0_3 ≤ 1099511627776) = false := decide_eq_false c6
            clear c6
            obtain rfl := Option.some.inj H
            go_enter Try.func21, Try.ntmps21
            go_wp2_with (first | ((with_reducible refine gate_dst (N := 1) rfl ?_); refine box_event ?hg (N := 1) ?hd (cs := #[.int .u64 a0_0, .int .i64 a0_1, .int .i64 a0_2, .int .i64 a0_3, .int .i64 a0_4, .int .u64 a0_5]) (t := 41) ?hr ?_; (case hd => rfl); (case hg => rfl); (case hr => first | (go_simp; done) | (go_simp; rfl)); intro gb193 hg w12 hbox hb; have n0_ := Aside0.mk (below_step (by repeat (first | (with_reducible first | exact HB.out | apply below_alloc | apply pw_below_drewN | apply below_drew1) | exact HB.out)) hb); have n1_ := Aside0.mk (hbox); have n2_ := Aside0.mk ((by rw [hg]; exact (below_size (by repeat (first | (with_reducible first | exact HB.out | apply below_alloc | apply pw_below_drewN | apply below_drew1) | exact HB.out))) : w.heap.size ≤ gb193)); have n3_ := Aside0.mk ((by rw [hg]; exact (below_size (by repeat (first | (with_reducible first | exact HB.out | apply below_alloc | apply pw_below_drewN | apply below_drew1) | exact HB.out))) : w.heap.size ≤ gb193)); clear HB; have HB := n0_; have BK193 := n1_; have GW193 := n2_; have GE193 := n3_; clear n0_ n1_ n2_ n3_; clear hb hbox hg; have hcz13_0 : w12.cell? ⟨gb193, 0, none⟩ = some (.int .u64 a0_0) := (blk_cell BK193.out 0).trans rfl; have hcz13_1 : w12.cell? ⟨gb193, 1, none⟩ = some (.int .i64 a0_1) := (blk_cell BK193.out 1).trans rfl; have hcz13_2 : w12.cell? ⟨gb193, 2, none⟩ = some (.int .i64 a0_2) := (blk_cell BK193.out 2).trans rfl; have hcz13_3 : w12.cell? ⟨gb193, 3, none⟩ = some (.int .i64 a0_3) := (blk_cell BK193.out 3).trans rfl; have hcz13_4 : w12.cell? ⟨gb193, 4, none⟩ = some (.int .i64 a0_4) := (blk_cell BK193.out 4).trans rfl; have hcz13_5 : w12.cell? ⟨gb193, 5, none⟩ = some (.int .u64 a0_5) := (blk_cell BK193.out 5).trans rfl; have hfz13_0 := blk_frozen BK193.out 0; have hfz13_1 := blk_frozen BK193.out 1; have hfz13_2 := blk_frozen BK193.out 2; have hfz13_3 := blk_frozen BK193.out 3; have hfz13_4 := blk_frozen BK193.out 4; have hfz13_5 := blk_frozen BK193.out 5))
            go_ret
            exact ⟨by first | rfl | (simp [errW_none, errW_some] <;> rfl) | (simp [*, errW_none, errW_some] <;> rfl), by repeat (first | (with_reducible first | exact HB.out | apply below_alloc | apply pw_below_drewN | apply below_drew1 | refine below_set ?_ GE193.out) | exact HB.out)⟩
        · rw [if_neg c5] at H
          have c5b0 : decide (1 ≤ a0_3) = false := decide_eq_false c5
          clear c5
          obtain rfl := Option.some.inj H
          go_enter Try.func21, Try.ntmps21
          go_wp2_with (first | ((with_reducible refine gate_dst (N := 1) rfl ?_); refine box_event ?hg (N := 1) ?hd (cs := #[.int .u64 a0_0, .int .i64 a0_1, .int .i64 a0_2, .int .i64 a0_3, .int .i64 a0_4, .int .u64 a0_5]) (t := 41) ?hr ?_; (case hd => rfl); (case hg => rfl); (case hr => first | (go_simp; done) | (go_simp; rfl)); intro gb193 hg w14 hbox hb; have n0_ := Aside0.mk (below_step (by repeat (first | (with_reducible first | exact HB.out | apply below_alloc | apply pw_below_drewN | apply below_drew1) | exact HB.out)) hb); have n1_ := Aside0.mk (hbox); have n2_ := Aside0.mk ((by rw [hg]; exact (below_size (by repeat (first | (with_reducible first | exact HB.out | apply below_alloc | apply pw_below_drewN | apply below_drew1) | exact HB.out))) : w.heap.size ≤ gb193)); have n3_ := Aside0.mk ((by rw [hg]; exact (below_size (by repeat (first | (with_reducible first | exact HB.out | apply below_alloc | apply pw_below_drewN | apply below_drew1) | exact HB.out))) : w.heap.size ≤ gb193)); clear HB; have HB := n0_; have BK193 := n1_; have GW193 := n2_; have GE193 := n3_; clear n0_ n1_ n2_ n3_; clear hb hbox hg; have hcz15_0 : w14.cell? ⟨gb193, 0, none⟩ = some (.int .u64 a0_0) := (blk_cell BK193.out 0).trans rfl; have hcz15_1 : w14.cell? ⟨gb193, 1, none⟩ = some (.int .i64 a0_1) := (blk_cell BK193.out 1).trans rfl; have hcz15_2 : w14.cell? ⟨gb193, 2, none⟩ = some (.int .i64 a0_2) := (blk_cell BK193.out 2).trans rfl; have hcz15_3 : w14.cell? ⟨gb193, 3, none⟩ = some (.int .i64 a0_3) := (blk_cell BK193.out 3).trans rfl; have hcz15_4 : w14.cell? ⟨gb193, 4, none⟩ = some (.int .i64 a0_4) := (blk_cell BK193.out 4).trans rfl; have hcz15_5 : w14.cell? ⟨gb193, 5, none⟩ = some (.int .u64 a0_5) := (blk_cell BK193.out 5).trans rfl; have hfz15_0 := blk_frozen BK193.out 0; have hfz15_1 := blk_frozen BK193.out 1; have hfz15_2 := blk_frozen BK193.out 2; have hfz15_3 := blk_frozen BK193.out 3; have hfz15_4 := blk_frozen BK193.out 4; have hfz15_5 := blk_frozen BK193.out 5))
          go_ret
          exact ⟨by first | rfl | (simp [errW_none, errW_some] <;> rfl) | (simp [*, errW_none, errW_some] <;> rfl), by repeat (first | (with_reducible first | exact HB.out | apply below_alloc | apply pw_below_drewN | apply below_drew1 | refine below_set ?_ GE193.out) | exact HB.out)⟩
      · rw [if_neg c4] at H
        have c4b0 : (a0_2 == 1) = false := beq_eq_false_iff_ne.mpr c4
        have c4b1 : (a0_2 != 1) = true := bne_iff_ne.mpr c4
        by_cases c16 : a0_2 = 2
        · rw [if_pos c16] at H
          have c16b0 : (a0_2 == 2) = true := beq_iff_eq.mpr c16
          have c16b1 : (a0_2 != 2) = false := bne_eq_false_iff_eq.mpr c16
          clear c16
          by_cases c17 : a0_3 ≥ 1
          · rw [if_pos c17] at H
            have c17b0 : decide (1 ≤ a0_3) = true := decide_eq_true c17
            clear c17
            by_cases c18 : a0_3 ≤ 1099511627776
            · rw [if_pos c18] at H
              have c18b0 : decide (a0_3 ≤ 1099511627776) = true := decide_eq_true c18
              clear c18
              by_cases c19 : a0_4 ≥ 1
              · rw [if_pos c19] at H
                have c19b0 : decide (1 ≤ a0_4) = true := decide_eq_true c19
                clear c19
                obtain rfl := Option.some.inj H
                go_enter Try.func21, Try.ntmps21
                go_wp2_with (first | ((with_reducible refine gate_dst (N := 1) rfl ?_); refine box_event ?hg (N := 1) ?hd (cs := #[.int .u64 a0_0, .int .i64 a0_1, .int .i64 a0_2, .int .i64 a0_3, .int .i64 a0_4, .int .u64 a0_5]) (t := 41) ?hr ?_; (case hd => rfl); (case hg => rfl); (case hr => first | (go_simp; done) | (go_simp; rfl)); intro gb193 hg w20 hbox hb; have n0_ := Aside0.mk (below_step (by repeat (first | (with_reducible first | exact HB.out | apply below_alloc | apply pw_below_drewN | apply below_drew1) | exact HB.out)) hb); have n1_ := Aside0.mk (hbox); have n2_ := Aside0.mk ((by rw [hg]; exact (below_size (by repeat (first | (with_reducible first | exact HB.out | apply below_alloc | apply pw_below_drewN | apply below_drew1) | exact HB.out))) : w.heap.size ≤ gb193)); have n3_ := Aside0.mk ((by rw [hg]; exact (below_size (by repeat (first | (with_reducible first | exact HB.out | apply below_alloc | apply pw_below_drewN | apply below_drew1) | exact HB.out))) : w.heap.size ≤ gb193)); clear HB; have HB := n0_; have BK193 := n1_; have GW193 := n2_; have GE193 := n3_; clear n0_ n1_ n2_ n3_; clear hb hbox hg; have hcz21_0 : w20.cell? ⟨gb193, 0, none⟩ = some (.int .u64 a0_0) := (blk_cell BK193.out 0).trans rfl; have hcz21_1 : w20.cell? ⟨gb193, 1, none⟩ = some (.int .i64 a0_1) := (blk_cell BK193.out 1).trans rfl; have hcz21_2 : w20.cell? ⟨gb193, 2, none⟩ = some (.int .i64 a0_2) := (blk_cell BK193.out 2).trans rfl; have hcz21_3 : w20.cell? ⟨gb193, 3, none⟩ = some (.int .i64 a0_3) := (blk_cell BK193.out 3).trans rfl; have hcz21_4 : w20.cell? ⟨gb193, 4, none⟩ = some (.int .i64 a0_4) := (blk_cell BK193.out 4).trans rfl; have hcz21_5 : w20.cell? ⟨gb193, 5, none⟩ = some (.int .u64 a0_5) := (blk_cell BK193.out 5).trans rfl; have hfz21_0 := blk_frozen BK193.out 0; have hfz21_1 := blk_frozen BK193.out 1; have hfz21_2 := blk_frozen BK193.out 2; have hfz21_3 := blk_frozen BK193.out 3; have hfz21_4 := blk_frozen BK193.out 4; have hfz21_5 := blk_frozen BK193.out 5))
                go_ret
                exact ⟨by first | rfl | (simp [errW_none, errW_some] <;> rfl) | (simp [*, errW_none, errW_some] <;> rfl), by repeat (first | (with_reducible first | exact HB.out | apply below_alloc | apply pw_below_drewN | apply below_drew1 | refine below_set ?_ GE193.out) | exact HB.out)⟩
              · rw [if_neg c19] at H
                have c19b0 : decide (1 ≤ a0_4) = false := decide_eq_false c19
                clear c19
                obtain rfl := Option.some.inj H
                go_enter Try.func21, Try.ntmps21
                go_wp2_with (first | ((with_reducible refine gate_dst (N := 1) rfl ?_); refine box_event ?hg (N := 1) ?hd (cs := #[.int .u64 a0_0, .int .i64 a0_1, .int .i64 a0_2, .int .i64 a0_3, .int .i64 a0_4, .int .u64 a0_5]) (t := 41) ?hr ?_; (case hd => rfl); (case hg => rfl); (case hr => first | (go_simp; done) | (go_simp; rfl)); intro gb193 hg w22 hbox hb; have n0_ := Aside0.mk (below_step (by repeat (first | (with_reducible first | exact HB.out | apply below_alloc | apply pw_below_drewN | apply below_drew1) | exact HB.out)) hb); have n1_ := Aside0.mk (hbox); have n2_ := Aside0.mk ((by rw [hg]; exact (below_size (by repeat (first | (with_reducible first | exact HB.out | apply below_alloc | apply pw_below_drewN | apply below_drew1) | exact HB.out))) : w.heap.size ≤ gb193)); have n3_ := Aside0.mk ((by rw [hg]; exact (below_size (by repeat (first | (with_reducible first | exact HB.out | apply below_alloc | apply pw_below_drewN | apply below_drew1) | exact HB.out))) : w.heap.size ≤ gb193)); clear HB; have HB := n0_; have BK193 := n1_; have GW193 := n2_; have GE193 := n3_; clear n0_ n1_ n2_ n3_; clear hb hbox hg; have hcz23_0 : w22.cell? ⟨gb193, 0, none⟩ = some (.int .u64 a0_0) := (blk_cell BK193.out 0).trans rfl; have hcz23_1 : w22.cell? ⟨gb193, 1, none⟩ = some (.int .i64 a0_1) := (blk_cell BK193.out 1).trans rfl; have hcz23_2 : w22.cell? ⟨gb193, 2, none⟩ = some (.int .i64 a0_2) := (blk_cell BK193.out 2).trans rfl; have hcz23_3 : w22.cell? ⟨gb193, 3, none⟩ = some (.int .i64 a0_3) := (blk_cell BK193.out 3).trans rfl; have hcz23_4 : w22.cell? ⟨gb193, 4, none⟩ = some (.int .i64 a0_4) := (blk_cell BK193.out 4).trans rfl; have hcz23_5 : w22.cell? ⟨gb193, 5, none⟩ = some (.int .u64 a0_5) := (blk_cell BK193.out 5).trans rfl; have hfz23_0 := blk_frozen BK193.out 0; have hfz23_1 := blk_frozen BK193.out 1; have hfz23_2 := blk_frozen BK193.out 2; have hfz23_3 := blk_frozen BK193.out 3; have hfz23_4 := blk_frozen BK193.out 4; have hfz23_5 := blk_frozen BK193.out 5))
                go_ret
                exact ⟨by first | rfl | (simp [errW_none, errW_some] <;> rfl) | (simp [*, errW_none, errW_some] <;> rfl), by repeat (first | (with_reducible first | exact HB.out | apply below_alloc | apply pw_below_drewN | apply below_drew1 | refine below_set ?_ GE193.out) | exact HB.out)⟩
            · rw [if_neg c18] at H
              have c18b0 : decide (a0_3 ≤ 1099511627776) = false := decide_eq_false c18
              clear c18
              obtain rfl := Option.some.inj H
              go_enter Try.func21, Try.ntmps21
              go_wp2_with (first | ((with_reducible refine gate_dst (N := 1) rfl ?_); refine box_event ?hg (N := 1) ?hd (cs := #[.int .u64 a0_0, .int .i64 a0_1, .int .i64 a0_2, .int .i64 a0_3, .int .i64 a0_4, .int .u64 a0_5]) (t := 41) ?hr ?_; (case hd => rfl); (case hg => rfl); (case hr => first | (go_simp; done) | (go_simp; rfl)); intro gb193 hg w24 hbox hb; have n0_ := Aside0.mk (below_step (by repeat (first | (with_reducible first | exact HB.out | apply below_alloc | apply pw_below_drewN | apply below_drew1) | exact HB.out)) hb); have n1_ := Aside0.mk (hbox); have n2_ := Aside0.mk ((by rw [hg]; exact (below_size (by repeat (first | (with_reducible first | exact HB.out | apply below_alloc | apply pw_below_drewN | apply below_drew1) | exact HB.out))) : w.heap.size ≤ gb193)); have n3_ := Aside0.mk ((by rw [hg]; exact (below_size (by repeat (first | (with_reducible first | exact HB.out | apply below_alloc | apply pw_below_drewN | apply below_drew1) | exact HB.out))) : w.heap.size ≤ gb193)); clear HB; have HB := n0_; have BK193 := n1_; have GW193 := n2_; have GE193 := n3_; clear n0_ n1_ n2_ n3_; clear hb hbox hg; have hcz25_0 : w24.cell? ⟨gb193, 0, none⟩ = some (.int .u64 a0_0) := (blk_cell BK193.out 0).trans rfl; have hcz25_1 : w24.cell? ⟨gb193, 1, none⟩ = some (.int .i64 a0_1) := (blk_cell BK193.out 1).trans rfl; have hcz25_2 : w24.cell? ⟨gb193, 2, none⟩ = some (.int .i64 a0_2) := (blk_cell BK193.out 2).trans rfl; have hcz25_3 : w24.cell? ⟨gb193, 3, none⟩ = some (.int .i64 a0_3) := (blk_cell BK193.out 3).trans rfl; have hcz25_4 : w24.cell? ⟨gb193, 4, none⟩ = some (.int .i64 a0_4) := (blk_cell BK193.out 4).trans rfl; have hcz25_5 : w24.cell? ⟨gb193, 5, none⟩ = some (.int .u64 a0_5) := (blk_cell BK193.out 5).trans rfl; have hfz25_0 := blk_frozen BK193.out 0; have hfz25_1 := blk_frozen BK193.out 1; have hfz25_2 := blk_frozen BK193.out 2; have hfz25_3 := blk_frozen BK193.out 3; have hfz25_4 := blk_frozen BK193.out 4; have hfz25_5 := blk_frozen BK193.out 5))
              go_ret
              exact ⟨by first | rfl | (simp [errW_none, errW_some] <;> rfl) | (simp [*, errW_none, errW_some] <;> rfl), by repeat (first | (with_reducible first | exact HB.out | apply below_alloc | apply pw_below_drewN | apply below_drew1 | refine below_set ?_ GE193.out) | exact HB.out)⟩
          · rw [if_neg c17] at H
            have c17b0 : decide (1 ≤ a0_3) = false := decide_eq_false c17
            clear c17
            obtain rfl := Option.some.inj H
            go_enter Try.func21, Try.ntmps21
            go_wp2_with (first | ((with_reducible refine gate_dst (N := 1) rfl ?_); refine box_event ?hg (N := 1) ?hd (cs := #[.int .u64 a0_0, .int .i64 a0_1, .int .i64 a0_2, .int .i64 a0_3, .int .i64 a0_4, .int .u64 a0_5]) (t := 41) ?hr ?_; (case hd => rfl); (case hg => rfl); (case hr => first | (go_simp; done) | (go_simp; rfl)); intro gb193 hg w26 hbox hb; have n0_ := Aside0.mk (below_step (by repeat (first | (with_reducible first | exact HB.out | apply below_alloc | apply pw_below_drewN | apply below_drew1) | exact HB.out)) hb); have n1_ := Aside0.mk (hbox); have n2_ := Aside0.mk ((by rw [hg]; exact (below_size (by repeat (first | (with_reducible first | exact HB.out | apply below_alloc | apply pw_below_drewN | apply below_drew1) | exact HB.out))) : w.heap.size ≤ gb193)); have n3_ := Aside0.mk ((by rw [hg]; exact (below_size (by repeat (first | (with_reducible first | exact HB.out | apply below_alloc | apply pw_below_drewN | apply below_drew1) | exact HB.out))) : w.heap.size ≤ gb193)); clear HB; have HB := n0_; have BK193 := n1_; have GW193 := n2_; have GE193 := n3_; clear n0_ n1_ n2_ n3_; clear hb hbox hg; have hcz27_0 : w26.cell? ⟨gb193, 0, none⟩ = some (.int .u64 a0_0) := (blk_cell BK193.out 0).trans rfl; have hcz27_1 : w26.cell? ⟨gb193, 1, none⟩ = some (.int .i64 a0_1) := (blk_cell BK193.out 1).trans rfl; have hcz27_2 : w26.cell? ⟨gb193, 2, none⟩ = some (.int .i64 a0_2) := (blk_cell BK193.out 2).trans rfl; have hcz27_3 : w26.cell? ⟨gb193, 3, none⟩ = some (.int .i64 a0_3) := (blk_cell BK193.out 3).trans rfl; have hcz27_4 : w26.cell? ⟨gb193, 4, none⟩ = some (.int .i64 a0_4) := (blk_cell BK193.out 4).trans rfl; have hcz27_5 : w26.cell? ⟨gb193, 5, none⟩ = some (.int .u64 a0_5) := (blk_cell BK193.out 5).trans rfl; have hfz27_0 := blk_frozen BK193.out 0; have hfz27_1 := blk_frozen BK193.out 1; have hfz27_2 := blk_frozen BK193.out 2; have hfz27_3 := blk_frozen BK193.out 3; have hfz27_4 := blk_frozen BK193.out 4; have hfz27_5 := blk_frozen BK193.out 5))
            go_ret
            exact ⟨by first | rfl | (simp [errW_none, errW_some] <;> rfl) | (simp [*, errW_none, errW_some] <;> rfl), by repeat (first | (with_reducible first | exact HB.out | apply below_alloc | apply pw_below_drewN | apply below_drew1 | refine below_set ?_ GE193.out) | exact HB.out)⟩
        · rw [if_neg c16] at H
          have c16b0 : (a0_2 == 2) = false := beq_eq_false_iff_ne.mpr c16
          have c16b1 : (a0_2 != 2) = true := bne_iff_ne.mpr c16
          obtain rfl := Option.some.inj H
          go_enter Try.func21, Try.ntmps21
          go_wp2_with (first | ((with_reducible refine gate_dst (N := 1) rfl ?_); refine box_event ?hg (N := 1) ?hd (cs := #[.int .u64 a0_0, .int .i64 a0_1, .int .i64 a0_2, .int .i64 a0_3, .int .i64 a0_4, .int .u64 a0_5]) (t := 41) ?hr ?_; (case hd => rfl); (case hg => rfl); (case hr => first | (go_simp; done) | (go_simp; rfl)); intro gb193 hg w28 hbox hb; have n0_ := Aside0.mk (below_step (by repeat (first | (with_reducible first | exact HB.out | apply below_alloc | apply pw_below_drewN | apply below_drew1) | exact HB.out)) hb); have n1_ := Aside0.mk (hbox); have n2_ := Aside0.mk ((by rw [hg]; exact (below_size (by repeat (first | (with_reducible first | exact HB.out | apply below_alloc | apply pw_below_drewN | apply below_drew1) | exact HB.out))) : w.heap.size ≤ gb193)); have n3_ := Aside0.mk ((by rw [hg]; exact (below_size (by repeat (first | (with_reducible first | exact HB.out | apply below_alloc | apply pw_below_drewN | apply below_drew1) | exact HB.out))) : w.heap.size ≤ gb193)); clear HB; have HB := n0_; have BK193 := n1_; have GW193 := n2_; have GE193 := n3_; clear n0_ n1_ n2_ n3_; clear hb hbox hg; have hcz29_0 : w28.cell? ⟨gb193, 0, none⟩ = some (.int .u64 a0_0) := (blk_cell BK193.out 0).trans rfl; have hcz29_1 : w28.cell? ⟨gb193, 1, none⟩ = some (.int .i64 a0_1) := (blk_cell BK193.out 1).trans rfl; have hcz29_2 : w28.cell? ⟨gb193, 2, none⟩ = some (.int .i64 a0_2) := (blk_cell BK193.out 2).trans rfl; have hcz29_3 : w28.cell? ⟨gb193, 3, none⟩ = some (.int .i64 a0_3) := (blk_cell BK193.out 3).trans rfl; have hcz29_4 : w28.cell? ⟨gb193, 4, none⟩ = some (.int .i64 a0_4) := (blk_cell BK193.out 4).trans rfl; have hcz29_5 : w28.cell? ⟨gb193, 5, none⟩ = some (.int .u64 a0_5) := (blk_cell BK193.out 5).trans rfl; have hfz29_0 := blk_frozen BK193.out 0; have hfz29_1 := blk_frozen BK193.out 1; have hfz29_2 := blk_frozen BK193.out 2; have hfz29_3 := blk_frozen BK193.out 3; have hfz29_4 := blk_frozen BK193.out 4; have hfz29_5 := blk_frozen BK193.out 5))
          go_ret
          exact ⟨by first | rfl | (simp [errW_none, errW_some] <;> rfl) | (simp [*, errW_none, errW_some] <;> rfl), by repeat (first | (with_reducible first | exact HB.out | apply below_alloc | apply pw_below_drewN | apply below_drew1 | refine below_set ?_ GE193.out) | exact HB.out)⟩
    · rw [if_neg c3] at H
      have c3b0 : decide (a0_1 < 8) = false := decide_eq_false c3
      clear c3
      obtain rfl := Option.some.inj H
      go_enter Try.func21, Try.ntmps21
      go_wp2_with (first | ((with_reducible refine gate_dst (N := 1) rfl ?_); refine box_event ?hg (N := 1) ?hd (cs := #[.int .u64 a0_0, .int .i64 a0_1, .int .i64 a0_2, .int .i64 a0_3, .int .i64 a0_4, .int .u64 a0_5]) (t := 41) ?hr ?_; (case hd => rfl); (case hg => rfl); (case hr => first | (go_simp; done) | (go_simp; rfl)); intro gb193 hg w30 hbox hb; have n0_ := Aside0.mk (below_step (by repeat (first | (with_reducible first | exact HB.out | apply below_alloc | apply pw_below_drewN | apply below_drew1) | exact HB.out)) hb); have n1_ := Aside0.mk (hbox); have n2_ := Aside0.mk ((by rw [hg]; exact (below_size (by repeat (first | (with_reducible first | exact HB.out | apply below_alloc | apply pw_below_drewN | apply below_drew1) | exact HB.out))) : w.heap.size ≤ gb193)); have n3_ := Aside0.mk ((by rw [hg]; exact (below_size (by repeat (first | (with_reducible first | exact HB.out | apply below_alloc | apply pw_below_drewN | apply below_drew1) | exact HB.out))) : w.heap.size ≤ gb193)); clear HB; have HB := n0_; have BK193 := n1_; have GW193 := n2_; have GE193 := n3_; clear n0_ n1_ n2_ n3_; clear hb hbox hg; have hcz31_0 : w30.cell? ⟨gb193, 0, none⟩ = some (.int .u64 a0_0) := (blk_cell BK193.out 0).trans rfl; have hcz31_1 : w30.cell? ⟨gb193, 1, none⟩ = some (.int .i64 a0_1) := (blk_cell BK193.out 1).trans rfl; have hcz31_2 : w30.cell? ⟨gb193, 2, none⟩ = some (.int .i64 a0_2) := (blk_cell BK193.out 2).trans rfl; have hcz31_3 : w30.cell? ⟨gb193, 3, none⟩ = some (.int .i64 a0_3) := (blk_cell BK193.out 3).trans rfl; have hcz31_4 : w30.cell? ⟨gb193, 4, none⟩ = some (.int .i64 a0_4) := (blk_cell BK193.out 4).trans rfl; have hcz31_5 : w30.cell? ⟨gb193, 5, none⟩ = some (.int .u64 a0_5) := (blk_cell BK193.out 5).trans rfl; have hfz31_0 := blk_frozen BK193.out 0; have hfz31_1 := blk_frozen BK193.out 1; have hfz31_2 := blk_frozen BK193.out 2; have hfz31_3 := blk_frozen BK193.out 3; have hfz31_4 := blk_frozen BK193.out 4; have hfz31_5 := blk_frozen BK193.out 5))
      go_ret
      exact ⟨by first | rfl | (simp [errW_none, errW_some] <;> rfl) | (simp [*, errW_none, errW_some] <;> rfl), by repeat (first | (with_reducible first | exact HB.out | apply below_alloc | apply pw_below_drewN | apply below_drew1 | refine below_set ?_ GE193.out) | exact HB.out)⟩
  · rw [if_neg c2] at H
    have c2b0 : decide (0 ≤ a0_1) = false := decide_eq_false c2
    clear c2
    obtain rfl := Option.some.inj H
    go_enter Try.func21, Try.ntmps21
    go_wp2_with (first | ((with_reducible refine gate_dst (N := 1) rfl ?_); refine box_event ?hg (N := 1) ?hd (cs := #[.int .u64 a0_0, .int .i64 a0_1, .int .i64 a0_2, .int .i64 a0_3, .int .i64 a0_4, .int .u64 a0_5]) (t := 41) ?hr ?_; (case hd => rfl); (case hg => rfl); (case hr => first | (go_simp; done) | (go_simp; rfl)); intro gb193 hg w32 hbox hb; have n0_ := Aside0.mk (below_step (by repeat (first | (with_reducible first | exact HB.out | apply below_alloc | apply pw_below_drewN | apply below_drew1) | exact HB.out)) hb); have n1_ := Aside0.mk (hbox); have n2_ := Aside0.mk ((by rw [hg]; exact (below_size (by repeat (first | (with_reducible first | exact HB.out | apply below_alloc | apply pw_below_drewN | apply below_drew1) | exact HB.out))) : w.heap.size ≤ gb193)); have n3_ := Aside0.mk ((by rw [hg]; exact (below_size (by repeat (first | (with_reducible first | exact HB.out | apply below_alloc | apply pw_below_drewN | apply below_drew1) | exact HB.out))) : w.heap.size ≤ gb193)); clear HB; have HB := n0_; have BK193 := n1_; have GW193 := n2_; have GE193 := n3_; clear n0_ n1_ n2_ n3_; clear hb hbox hg; have hcz33_0 : w32.cell? ⟨gb193, 0, none⟩ = some (.int .u64 a0_0) := (blk_cell BK193.out 0).trans rfl; have hcz33_1 : w32.cell? ⟨gb193, 1, none⟩ = some (.int .i64 a0_1) := (blk_cell BK193.out 1).trans rfl; have hcz33_2 : w32.cell? ⟨gb193, 2, none⟩ = some (.int .i64 a0_2) := (blk_cell BK193.out 2).trans rfl; have hcz33_3 : w32.cell? ⟨gb193, 3, none⟩ = some (.int .i64 a0_3) := (blk_cell BK193.out 3).trans rfl; have hcz33_4 : w32.cell? ⟨gb193, 4, none⟩ = some (.int .i64 a0_4) := (blk_cell BK193.out 4).trans rfl; have hcz33_5 : w32.cell? ⟨gb193, 5, none⟩ = some (.int .u64 a0_5) := (blk_cell BK193.out 5).trans rfl; have hfz33_0 := blk_frozen BK193.out 0; have hfz33_1 := blk_frozen BK193.out 1; have hfz33_2 := blk_frozen BK193.out 2; have hfz33_3 := blk_frozen BK193.out 3; have hfz33_4 := blk_frozen BK193.out 4; have hfz33_5 := blk_frozen BK193.out 5))
    go_ret
    exact ⟨by first | rfl | (simp [errW_none, errW_some] <;> rfl) | (simp [*, errW_none, errW_some] <;> rfl), by repeat (first | (with_reducible first | exact HB.out | apply below_alloc | apply pw_below_drewN | apply below_drew1 | refine below_set ?_ GE193.out) | exact HB.out)⟩
def tor (x : S33) : S41 := ⟨x.f0, x.f1, x.f2, x.f3, x.f4, x.f5⟩
theorem St.appendRw {W w : World} {F0 : Nat → Prop} {l : List Part} {α : Type} {d : Kd α} {e : Nat} {v : Value} {xs : List α} (h : St W F0 w (Rw d e v xs :: l)) :
    ∃ F, d.R e w 0 F v xs ∧ ∀ (w' : World) (v' : Value) (zs : List α), d.R e w' 0 (fun k => F k ∨ w.heap.size ≤ k) v' zs → w.grownBy w' v.ownBlock → St W F0 w' (Rw d e v' zs :: l) := by
  obtain ⟨F, hA, hF, hu⟩ := h.upd
  exact ⟨F, hA, fun w' v' zs hr hg => hu w' _ (fun k => F k ∨ w.heap.size ≤ k) (Fr.of_grown hg (fun k e => hA.1 k e)) (fun k hk => hk) Rw.loc hr⟩
set_option maxHeartbeats 16000000 in
set_option maxRecDepth 100000 in
theorem ref_r7 {Q : Exit → Act → World → Prop} {ops : Array Oper} (hops : findR 7 ((Try.f37.body).getD .skip) = some ops) {W wr : World} {F0 : Nat → Prop} {l : List Part} {dfs : List Deferred} {g gb c kf : Nat} {A : Option Addr} {xs r : List S41} {o : S33}
    (hs : St W F0 wr (Pt gb #[.int .u64 o.f0, .int .i64 o.f1, .int .i64 o.f2, .int .i64 o.f3, .int .i64 o.f4, .int .u64 o.f5] 41 :: Pt g #[.slice A xs.length c] 64 :: Rw k41 41 (.slice A xs.length c) xs :: l)) (hlen : xs.length < 64) (hr : jobberref12_Sorted.f kf (xs ++ [tor o]) = some r)
    {T1 T2 T4 T5 T6 T7 T8 T9 T10 T11 T12 T13 T14 T15 T16 T17 T18 T19 T20 T21 T22 T23 T24 T25 T26 T27 T28 T29 T30 T31 : Value}
    (hK : ∀ (u19 u20 u21 u22 u23 u24 u25 u26 u27 u28 u29 u30 u31 : Value) (w' : World) (vr : Value), St W F0 w' (Pt g #[vr] 64 :: Rw k41 41 vr r :: l) → Q .normal { tmps := #[.pointer (some ⟨g, 0, none⟩), T1, T2, .pointer (some ⟨gb, 0, none⟩), T4, T5, T6, T7, T8, T9, T10, T11, T12, T13, T14, T15, T16, T17, T18, u19, u20, u21, u22, u23, u24, u25, u26, u27, u28, u29, u30, u31], defers := dfs } w') :
    (Code.region 7 ops true).wp Try.prog Q { tmps := #[.pointer (some ⟨g, 0, none⟩), T1, T2, .pointer (some ⟨gb, 0, none⟩), T4, T5, T6, T7, T8, T9, T10, T11, T12, T13, T14, T15, T16, T17, T18, T19, T20, T21, T22, T23, T24, T25, T26, T27, T28, T29, T30, T31], defers := dfs } wr := by
  have hops' := Option.some.inj (hops.symm.trans (show findR 7 ((Try.f37.body).getD .skip) = some _ from rfl))
  subst hops'
  clear hops
  have hu := Try.underlying41
  have HLN := Aside0.mk hlen
  have HS : Aside0 (St W F0 wr.drew (Pt gb #[.int .u64 o.f0, .int .i64 o.f1, .int .i64 o.f2, .int .i64 o.f3, .int .i64 o.f4, .int .u64 o.f5] 41 :: Pt g #[.slice A xs.length c] 64 :: Rw k41 41 (.slice A xs.length c) xs :: l)) := ⟨hs.drew1⟩
  clear hs hlen
  refine wp_mono (Q := onlyN (Q .normal)) ?_ onlyN_to
  refine start_ (n := 14) (S := fun w' => w'.cell? ⟨g, 0, none⟩ = some (.slice A xs.length c) ∧ w'.cell? ⟨gb, 0, none⟩ = some (.int .u64 o.f0) ∧ w'.cell? ⟨gb, 1, none⟩ = some (.int .i64 o.f1) ∧ w'.cell? ⟨gb, 2, none⟩ = some (.int .i64 o.f2) ∧ w'.cell? ⟨gb, 3, none⟩ = some (.int .i64 o.f3) ∧ w'.cell? ⟨gb, 4, none⟩ = some (.int .i64 o.f4) ∧ w'.cell? ⟨gb, 5, none⟩ = some (.int .u64 o.f5)) (ds := [10, 13]) #[false, false, false, false, false, false, false, false, false, false, false, false, false, false] (by kernel_rfl) rfl rfl ⟨(blk_cell (HS.out.blk 1 rfl) 0).trans rfl, (blk_cell (HS.out.blk 0 rfl) 0).trans rfl, (blk_cell (HS.out.blk 0 rfl) 1).trans rfl, (blk_cell (HS.out.blk 0 rfl) 2).trans rfl, (blk_cell (HS.out.blk 0 rfl) 3).trans rfl, (blk_cell (HS.out.blk 0 rfl) 4).trans rfl, (blk_cell (HS.out.blk 0 rfl) 5).trans rfl⟩ (fun hHeld => ?_)
  refine pure_ (i := 0) (N := some 19) (v := ?_) (a' := ?_) #[true, false, false, false, false, false, false, false, false, false, false, false, false, false] rfl rfl (by kernel_rfl) (fun _ _ _ h => h) (Or.inl ⟨by rfl, ?_⟩) ?_ ?_
  rotate_left
  · intro w'
    go_simp
    with_reducible rfl
  rotate_left
  · simp only [Act.put, List.setIfInBounds_toArray, List.set_cons_zero, List.set_cons_succ, i64_w, i32_w]
    rfl
  refine pure_ (i := 2) (N := some 21) (v := ?_) (a' := ?_) #[true, false, true, false, false, false, false, false, false, false, false, false, false, false] rfl rfl (by kernel_rfl) (fun _ _ _ h => h) (Or.inl ⟨by rfl, ?_⟩) ?_ ?_
  rotate_left
  · intro w'
    go_simp
    with_reducible rfl
  rotate_left
  · simp only [Act.put, List.setIfInBounds_toArray, List.set_cons_zero, List.set_cons_succ, i64_w, i32_w]
    rfl
  refine pure_ (i := 3) (N := some 22) (v := ?_) (a' := ?_) #[true, false, true, true, false, false, false, false, false, false, false, false, false, false] rfl rfl (by kernel_rfl) (fun _ _ _ h => h) (Or.inl ⟨by rfl, ?_⟩) ?_ ?_
  rotate_left
  · intro w'
    go_simp
    with_reducible rfl
  rotate_left
  · simp only [Act.put, List.setIfInBounds_toArray, List.set_cons_zero, List.set_cons_succ, i64_w, i32_w]
    rfl
  refine pure_ (i := 4) (N := some 23) (v := ?_) (a' := ?_) #[true, false, true, true, true, false, false, false, false, false, false, false, false, false] rfl rfl (by kernel_rfl) (fun _ _ _ h => h) (Or.inl ⟨by rfl, ?_⟩) ?_ ?_
  rotate_left
  · intro w'
    go_simp
    with_reducible rfl
  rotate_left
  · simp only [Act.put, List.setIfInBounds_toArray, List.set_cons_zero, List.set_cons_succ, i64_w, i32_w]
    rfl
  refine take_ (i := 5) (N := some 24) (v := ?_) (a' := ?_) #[true, false, true, true, true, true, false, false, false, false, false, false, false, false] rfl rfl (by kernel_rfl) (fun _ _ _ h => h) (Or.inl ⟨by rfl, ?_⟩) hHeld ?_ ?_
  rotate_left
  · rintro w' ⟨s0, s1, s2, s3, s4, s5, s6⟩
    go_simp
    with_reducible rfl
  rotate_left
  · simp only [Act.put, List.setIfInBounds_toArray, List.set_cons_zero, List.set_cons_succ, i64_w, i32_w]
    rfl
  refine take_ (i := 7) (N := some 26) (v := ?_) (a' := ?_) #[true, false, true, true, true, true, false, true, false, false, false, false, false, false] rfl rfl (by kernel_rfl) (fun _ _ _ h => h) (Or.inl ⟨by rfl, ?_⟩) hHeld ?_ ?_
  rotate_left
  · rintro w' ⟨s0, s1, s2, s3, s4, s5, s6⟩
    go_simp
    with_reducible rfl
  rotate_left
  · simp only [Act.put, List.setIfInBounds_toArray, List.set_cons_zero, List.set_cons_succ, i64_w, i32_w]
    rfl
  refine join_ (σ := Value × Value × Value) 5 #[true, true, true, true, true, true, true, true, true, false, false, false, false, false] (fun s => [(20, s.1), (25, s.2.1), (27, s.2.2)]) (fun s w' => St W F0 w' (Rw k41 41 s.2.1 xs :: Rw k41 41 s.2.2 [tor o] :: Pt gb #[.int .u64 o.f0, .int .i64 o.f1, .int .i64 o.f2, .int .i64 o.f3, .int .i64 o.f4, .int .u64 o.f5] 41 :: Pt g #[.slice A xs.length c] 64 :: Rw k41 41 (.slice A xs.length c) xs :: l)) ?_ ?_
  rotate_left
  · intro hCont
    refine two_ (i := 1) (j := 8) (Ni := some 20) (Nj := some 27) #[true, true, true, true, true, true, false, true, false, false, false, false, false, false] #[true, false, true, true, true, true, false, true, true, false, false, false, false, false] rfl rfl rfl rfl (by kernel_rfl) (by decide) (by decide) (fun K hK => ?_) (fun K hK => ?_)
    · skip
      refine Kd.R_lit_step k41 (w0 := _) _ 41 (by rfl) (N := 20) rfl (xs := ([] : List S41)) (inner := []) (ok := fun _ => True) (okp := fun _ => True) ?hr ?hp (fun _ hk => hk) trivial (Below.refl _ _) (Nat.le_refl _) (by simp) ?_
      case hr => first | (go_simp; done) | (go_simp; rfl)
      case hp => exact (Reps.none _ _)
      intro va w3 ho_ hb_ _ _
      have HS1 : Aside0 (St W F0 w3 (Rw k41 41 va [] :: Pt gb #[.int .u64 o.f0, .int .i64 o.f1, .int .i64 o.f2, .int .i64 o.f3, .int .i64 o.f4, .int .u64 o.f5] 41 :: Pt g #[.slice A xs.length c] 64 :: Rw k41 41 (.slice A xs.length c) xs :: l)) := ⟨HS.out.row hb_ ho_⟩
      clear ho_ hb_
      refine hK.out _ _ ⟨(blk_cell (HS1.out.blk 2 rfl) 0).trans rfl, (blk_cell (HS1.out.blk 1 rfl) 0).trans rfl, (blk_cell (HS1.out.blk 1 rfl) 1).trans rfl, (blk_cell (HS1.out.blk 1 rfl) 2).trans rfl, (blk_cell (HS1.out.blk 1 rfl) 3).trans rfl, (blk_cell (HS1.out.blk 1 rfl) 4).trans rfl, (blk_cell (HS1.out.blk 1 rfl) 5).trans rfl⟩ (fun hHeld => ?_)
      clear hK K
      refine norm_ (a' := ?_) ?_ ?_
      rotate_left
      · show Act.put _ (some 20) _ = _
        simp only [Act.put, List.setIfInBounds_toArray, List.set_cons_zero, List.set_cons_succ, i64_w, i32_w]
        rfl
      refine two_ (i := 6) (j := 8) (Ni := some 25) (Nj := some 27) #[true, true, true, true, true, true, true, true, false, false, false, false, false, false] #[true, true, true, true, true, true, false, true, true, false, false, false, false, false] rfl rfl rfl rfl (by kernel_rfl) (by decide) (by decide) (fun K hK => ?_) (fun K hK => ?_)
      · skip
        obtain ⟨Fa, hRa, hua⟩ := HS1.out.appendRw
        obtain ⟨oko, hRo⟩ := HS1.out.rd 3 rfl
        refine Kd.R_append_rows_step k41 (w0 := _) 0 (by rfl) (.tmp 20) (.tmp 24) 24 41 (.agg #[(.int .u64 0), (.int .i64 0), (.int .i64 0), (.int .i64 0), (.int .i64 0), (.int .u64 0)]) 48 rfl Try.underlying24 info41 rfl (by decide) (by omega) va [] xs _ _ _ (fun k => Fa k ∨ _ ≤ k) (fun _ => False) rfl rfl (Kd.R_mono hRa (fun k h => .inl h)) (Kd.R_reads' hRo).2.2 (fun _ _ h => h) (fun _ h => h.elim) (fun k hk => .inr hk) (Below.refl _ _) (Nat.zero_le _) (by have := HLN.out; simp only [List.length_nil]; omega) ?_
        intro vb w3 ho_ hb_ hg_ hat_
        have HS1_6 : Aside0 (St W F0 w3 (Rw k41 41 vb xs :: Pt gb #[.int .u64 o.f0, .int .i64 o.f1, .int .i64 o.f2, .int .i64 o.f3, .int .i64 o.f4, .int .u64 o.f5] 41 :: Pt g #[.slice A xs.length c] 64 :: Rw k41 41 (.slice A xs.length c) xs :: l)) := ⟨hua _ _ _ ho_ hg_⟩
        clear ho_ hb_ hg_ hat_ hRa hua hRo Fa oko
        refine hK.out _ _ ⟨(blk_cell (HS1_6.out.blk 2 rfl) 0).trans rfl, (blk_cell (HS1_6.out.blk 1 rfl) 0).trans rfl, (blk_cell (HS1_6.out.blk 1 rfl) 1).trans rfl, (blk_cell (HS1_6.out.blk 1 rfl) 2).trans rfl, (blk_cell (HS1_6.out.blk 1 rfl) 3).trans rfl, (blk_cell (HS1_6.out.blk 1 rfl) 4).trans rfl, (blk_cell (HS1_6.out.blk 1 rfl) 5).trans rfl⟩ (fun hHeld => ?_)
        clear hK K
        refine norm_ (a' := ?_) ?_ ?_
        rotate_left
        · show Act.put _ (some 25) _ = _
          simp only [Act.put, List.setIfInBounds_toArray, List.set_cons_zero, List.set_cons_succ, i64_w, i32_w]
          rfl
        refine one_ (i := 8) (N := some 27) #[true, true, true, true, true, true, true, true, true, false, false, false, false, false] rfl rfl (by kernel_rfl) (by decide) (fun K hK => ?_)
        refine Kd.R_lit_step k41 (w0 := _) _ 41 (by rfl) (N := 27) rfl (xs := [tor o]) (inner := [.int .u64 o.f0, .int .i64 o.f1, .int .i64 o.f2, .int .i64 o.f3, .int .i64 o.f4, .int .u64 o.f5]) (ok := fun _ => True) (okp := fun _ => True) ?hr ?hp (fun _ hk => hk) trivial (Below.refl _ _) (Nat.le_refl _) (by simp) ?_
        case hr => first | (go_simp; done) | (go_simp; rfl)
        case hp => exact (Reps.snoc (ps := []) (cs := []) (Reps.none _ _) (k41_mkM _ _ _ (tor o)) rfl)
        intro vc w3 ho_ hb_ _ _
        have HS1_6_8 : Aside0 (St W F0 w3 (Rw k41 41 vc [tor o] :: Rw k41 41 vb xs :: Pt gb #[.int .u64 o.f0, .int .i64 o.f1, .int .i64 o.f2, .int .i64 o.f3, .int .i64 o.f4, .int .u64 o.f5] 41 :: Pt g #[.slice A xs.length c] 64 :: Rw k41 41 (.slice A xs.length c) xs :: l)) := ⟨HS1_6.out.row hb_ ho_⟩
        clear ho_ hb_
        refine hK.out _ _ ⟨(blk_cell (HS1_6_8.out.blk 3 rfl) 0).trans rfl, (blk_cell (HS1_6_8.out.blk 2 rfl) 0).trans rfl, (blk_cell (HS1_6_8.out.blk 2 rfl) 1).trans rfl, (blk_cell (HS1_6_8.out.blk 2 rfl) 2).trans rfl, (blk_cell (HS1_6_8.out.blk 2 rfl) 3).trans rfl, (blk_cell (HS1_6_8.out.blk 2 rfl) 4).trans rfl, (blk_cell (HS1_6_8.out.blk 2 rfl) 5).trans rfl⟩ (fun hHeld => ?_)
        clear hK K
        refine norm_ (a' := ?_) ?_ ?_
        rotate_left
        · show Act.put _ (some 27) _ = _
          simp only [Act.put, List.setIfInBounds_toArray, List.set_cons_zero, List.set_cons_succ, i64_w, i32_w]
          rfl
        exact norm_ (by simp only [putAll, Act.put, List.setIfInBounds_toArray, List.set_cons_zero, List.set_cons_succ]) (hCont (va, vb, vc) _ (HS1_6_8.out.perm2))
      · skip
        refine Kd.R_lit_step k41 (w0 := _) _ 41 (by rfl) (N := 27) rfl (xs := [tor o]) (inner := [.int .u64 o.f0, .int .i64 o.f1, .int .i64 o.f2, .int .i64 o.f3, .int .i64 o.f4, .int .u64 o.f5]) (ok := fun _ => True) (okp := fun _ => True) ?hr ?hp (fun _ hk => hk) trivial (Below.refl _ _) (Nat.le_refl _) (by simp) ?_
        case hr => first | (go_simp; done) | (go_simp; rfl)
        case hp => exact (Reps.snoc (ps := []) (cs := []) (Reps.none _ _) (k41_mkM _ _ _ (tor o)) rfl)
        intro vc w3 ho_ hb_ _ _
        have HS1_8 : Aside0 (St W F0 w3 (Rw k41 41 vc [tor o] :: Rw k41 41 va [] :: Pt gb #[.int .u64 o.f0, .int .i64 o.f1, .int .i64 o.f2, .int .i64 o.f3, .int .i64 o.f4, .int .u64 o.f5] 41 :: Pt g #[.slice A xs.length c] 64 :: Rw k41 41 (.slice A xs.length c) xs :: l)) := ⟨HS1.out.row hb_ ho_⟩
        clear ho_ hb_
        refine hK.out _ _ ⟨(blk_cell (HS1_8.out.blk 3 rfl) 0).trans rfl, (blk_cell (HS1_8.out.blk 2 rfl) 0).trans rfl, (blk_cell (HS1_8.out.blk 2 rfl) 1).trans rfl, (blk_cell (HS1_8.out.blk 2 rfl) 2).trans rfl, (blk_cell (HS1_8.out.blk 2 rfl) 3).trans rfl, (blk_cell (HS1_8.out.blk 2 rfl) 4).trans rfl, (blk_cell (HS1_8.out.blk 2 rfl) 5).trans rfl⟩ (fun hHeld => ?_)
        clear hK K
        refine norm_ (a' := ?_) ?_ ?_
        rotate_left
        · show Act.put _ (some 27) _ = _
          simp only [Act.put, List.setIfInBounds_toArray, List.set_cons_zero, List.set_cons_succ, i64_w, i32_w]
          rfl
        refine one_ (i := 6) (N := some 25) #[true, true, true, true, true, true, true, true, true, false, false, false, false, false] rfl rfl (by kernel_rfl) (by decide) (fun K hK => ?_)
        obtain ⟨Fa, hRa, hua⟩ := (HS1_8.out.front 1 rfl).appendRw
        obtain ⟨oko, hRo⟩ := HS1_8.out.rd 4 rfl
        refine Kd.R_append_rows_step k41 (w0 := _) 0 (by rfl) (.tmp 20) (.tmp 24) 24 41 (.agg #[(.int .u64 0), (.int .i64 0), (.int .i64 0), (.int .i64 0), (.int .i64 0), (.int .u64 0)]) 48 rfl Try.underlying24 info41 rfl (by decide) (by omega) va [] xs _ _ _ (fun k => Fa k ∨ _ ≤ k) (fun _ => False) rfl rfl (Kd.R_mono hRa (fun k h => .inl h)) (Kd.R_reads' hRo).2.2 (fun _ _ h => h) (fun _ h => h.elim) (fun k hk => .inr hk) (Below.refl _ _) (Nat.zero_le _) (by have := HLN.out; simp only [List.length_nil]; omega) ?_
        intro vb w3 ho_ hb_ hg_ hat_
        have HS1_8_6 : Aside0 (St W F0 w3 (Rw k41 41 vb xs :: Rw k41 41 vc [tor o] :: Pt gb #[.int .u64 o.f0, .int .i64 o.f1, .int .i64 o.f2, .int .i64 o.f3, .int .i64 o.f4, .int .u64 o.f5] 41 :: Pt g #[.slice A xs.length c] 64 :: Rw k41 41 (.slice A xs.length c) xs :: l)) := ⟨hua _ _ _ ho_ hg_⟩
        clear ho_ hb_ hg_ hat_ hRa hua hRo Fa oko
        refine hK.out _ _ ⟨(blk_cell (HS1_8_6.out.blk 3 rfl) 0).trans rfl, (blk_cell (HS1_8_6.out.blk 2 rfl) 0).trans rfl, (blk_cell (HS1_8_6.out.blk 2 rfl) 1).trans rfl, (blk_cell (HS1_8_6.out.blk 2 rfl) 2).trans rfl, (blk_cell (HS1_8_6.out.blk 2 rfl) 3).trans rfl, (blk_cell (HS1_8_6.out.blk 2 rfl) 4).trans rfl, (blk_cell (HS1_8_6.out.blk 2 rfl) 5).trans rfl⟩ (fun hHeld => ?_)
        clear hK K
        refine norm_ (a' := ?_) ?_ ?_
        rotate_left
        · show Act.put _ (some 25) _ = _
          simp only [Act.put, List.setIfInBounds_toArray, List.set_cons_zero, List.set_cons_succ, i64_w, i32_w]
          rfl
        exact norm_ (by simp only [putAll, Act.put, List.setIfInBounds_toArray, List.set_cons_zero, List.set_cons_succ]) (hCont (va, vb, vc) _ (HS1_8_6.out))
    · skip
      refine Kd.R_lit_step k41 (w0 := _) _ 41 (by rfl) (N := 27) rfl (xs := [tor o]) (inner := [.int .u64 o.f0, .int .i64 o.f1, .int .i64 o.f2, .int .i64 o.f3, .int .i64 o.f4, .int .u64 o.f5]) (ok := fun _ => True) (okp := fun _ => True) ?hr ?hp (fun _ hk => hk) trivial (Below.refl _ _) (Nat.le_refl _) (by simp) ?_
      case hr => first | (go_simp; done) | (go_simp; rfl)
      case hp => exact (Reps.snoc (ps := []) (cs := []) (Reps.none _ _) (k41_mkM _ _ _ (tor o)) rfl)
      intro vc w3 ho_ hb_ _ _
      have HS8 : Aside0 (St W F0 w3 (Rw k41 41 vc [tor o] :: Pt gb #[.int .u64 o.f0, .int .i64 o.f1, .int .i64 o.f2, .int .i64 o.f3, .int .i64 o.f4, .int .u64 o.f5] 41 :: Pt g #[.slice A xs.length c] 64 :: Rw k41 41 (.slice A xs.length c) xs :: l)) := ⟨HS.out.row hb_ ho_⟩
      clear ho_ hb_
      refine hK.out _ _ ⟨(blk_cell (HS8.out.blk 2 rfl) 0).trans rfl, (blk_cell (HS8.out.blk 1 rfl) 0).trans rfl, (blk_cell (HS8.out.blk 1 rfl) 1).trans rfl, (blk_cell (HS8.out.blk 1 rfl) 2).trans rfl, (blk_cell (HS8.out.blk 1 rfl) 3).trans rfl, (blk_cell (HS8.out.blk 1 rfl) 4).trans rfl, (blk_cell (HS8.out.blk 1 rfl) 5).trans rfl⟩ (fun hHeld => ?_)
      clear hK K
      refine norm_ (a' := ?_) ?_ ?_
      rotate_left
      · show Act.put _ (some 27) _ = _
        simp only [Act.put, List.setIfInBounds_toArray, List.set_cons_zero, List.set_cons_succ, i64_w, i32_w]
        rfl
      refine one_ (i := 1) (N := some 20) #[true, true, true, true, true, true, false, true, true, false, false, false, false, false] rfl rfl (by kernel_rfl) (by decide) (fun K hK => ?_)
      refine Kd.R_lit_step k41 (w0 := _) _ 41 (by rfl) (N := 20) rfl (xs := ([] : List S41)) (inner := []) (ok := fun _ => True) (okp := fun _ => True) ?hr ?hp (fun _ hk => hk) trivial (Below.refl _ _) (Nat.le_refl _) (by simp) ?_
      case hr => first | (go_simp; done) | (go_simp; rfl)
      case hp => exact (Reps.none _ _)
      intro va w3 ho_ hb_ _ _
      have HS8_1 : Aside0 (St W F0 w3 (Rw k41 41 va [] :: Rw k41 41 vc [tor o] :: Pt gb #[.int .u64 o.f0, .int .i64 o.f1, .int .i64 o.f2, .int .i64 o.f3, .int .i64 o.f4, .int .u64 o.f5] 41 :: Pt g #[.slice A xs.length c] 64 :: Rw k41 41 (.slice A xs.length c) xs :: l)) := ⟨HS8.out.row hb_ ho_⟩
      clear ho_ hb_
      refine hK.out _ _ ⟨(blk_cell (HS8_1.out.blk 3 rfl) 0).trans rfl, (blk_cell (HS8_1.out.blk 2 rfl) 0).trans rfl, (blk_cell (HS8_1.out.blk 2 rfl) 1).trans rfl, (blk_cell (HS8_1.out.blk 2 rfl) 2).trans rfl, (blk_cell (HS8_1.out.blk 2 rfl) 3).trans rfl, (blk_cell (HS8_1.out.blk 2 rfl) 4).trans rfl, (blk_cell (HS8_1.out.blk 2 rfl) 5).trans rfl⟩ (fun hHeld => ?_)
      clear hK K
      refine norm_ (a' := ?_) ?_ ?_
      rotate_left
      · show Act.put _ (some 20) _ = _
        simp only [Act.put, List.setIfInBounds_toArray, List.set_cons_zero, List.set_cons_succ, i64_w, i32_w]
        rfl
      refine one_ (i := 6) (N := some 25) #[true, true, true, true, true, true, true, true, true, false, false, false, false, false] rfl rfl (by kernel_rfl) (by decide) (fun K hK => ?_)
      obtain ⟨Fa, hRa, hua⟩ := HS8_1.out.appendRw
      obtain ⟨oko, hRo⟩ := HS8_1.out.rd 4 rfl
      refine Kd.R_append_rows_step k41 (w0 := _) 0 (by rfl) (.tmp 20) (.tmp 24) 24 41 (.agg #[(.int .u64 0), (.int .i64 0), (.int .i64 0), (.int .i64 0), (.int .i64 0), (.int .u64 0)]) 48 rfl Try.underlying24 info41 rfl (by decide) (by omega) va [] xs _ _ _ (fun k => Fa k ∨ _ ≤ k) (fun _ => False) rfl rfl (Kd.R_mono hRa (fun k h => .inl h)) (Kd.R_reads' hRo).2.2 (fun _ _ h => h) (fun _ h => h.elim) (fun k hk => .inr hk) (Below.refl _ _) (Nat.zero_le _) (by have := HLN.out; simp only [List.length_nil]; omega) ?_
      intro vb w3 ho_ hb_ hg_ hat_
      have HS8_1_6 : Aside0 (St W F0 w3 (Rw k41 41 vb xs :: Rw k41 41 vc [tor o] :: Pt gb #[.int .u64 o.f0, .int .i64 o.f1, .int .i64 o.f2, .int .i64 o.f3, .int .i64 o.f4, .int .u64 o.f5] 41 :: Pt g #[.slice A xs.length c] 64 :: Rw k41 41 (.slice A xs.length c) xs :: l)) := ⟨hua _ _ _ ho_ hg_⟩
      clear ho_ hb_ hg_ hat_ hRa hua hRo Fa oko
      refine hK.out _ _ ⟨(blk_cell (HS8_1_6.out.blk 3 rfl) 0).trans rfl, (blk_cell (HS8_1_6.out.blk 2 rfl) 0).trans rfl, (blk_cell (HS8_1_6.out.blk 2 rfl) 1).trans rfl, (blk_cell (HS8_1_6.out.blk 2 rfl) 2).trans rfl, (blk_cell (HS8_1_6.out.blk 2 rfl) 3).trans rfl, (blk_cell (HS8_1_6.out.blk 2 rfl) 4).trans rfl, (blk_cell (HS8_1_6.out.blk 2 rfl) 5).trans rfl⟩ (fun hHeld => ?_)
      clear hK K
      refine norm_ (a' := ?_) ?_ ?_
      rotate_left
      · show Act.put _ (some 25) _ = _
        simp only [Act.put, List.setIfInBounds_toArray, List.set_cons_zero, List.set_cons_succ, i64_w, i32_w]
        rfl
      exact norm_ (by simp only [putAll, Act.put, List.setIfInBounds_toArray, List.set_cons_zero, List.set_cons_succ]) (hCont (va, vb, vc) _ (HS8_1_6.out))
  rintro ⟨va, vb, vc⟩ w5 hF
  dsimp only at hF
  obtain ⟨okc, hRc⟩ := hF.rd 1 rfl
  obtain ⟨Ac, cc, rfl⟩ := Kd.R_slice hRc
  clear hRc okc
  have HSF := Aside0.mk hF
  clear hF
  have hHeld : w5.cell? ⟨g, 0, none⟩ = some (.slice A xs.length c) ∧ w5.cell? ⟨gb, 0, none⟩ = some (.int .u64 o.f0) ∧ w5.cell? ⟨gb, 1, none⟩ = some (.int .i64 o.f1) ∧ w5.cell? ⟨gb, 2, none⟩ = some (.int .i64 o.f2) ∧ w5.cell? ⟨gb, 3, none⟩ = some (.int .i64 o.f3) ∧ w5.cell? ⟨gb, 4, none⟩ = some (.int .i64 o.f4) ∧ w5.cell? ⟨gb, 5, none⟩ = some (.int .u64 o.f5) := ⟨(blk_cell (HSF.out.blk 3 rfl) 0).trans rfl, (blk_cell (HSF.out.blk 2 rfl) 0).trans rfl, (blk_cell (HSF.out.blk 2 rfl) 1).trans rfl, (blk_cell (HSF.out.blk 2 rfl) 2).trans rfl, (blk_cell (HSF.out.blk 2 rfl) 3).trans rfl, (blk_cell (HSF.out.blk 2 rfl) 4).trans rfl, (blk_cell (HSF.out.blk 2 rfl) 5).trans rfl⟩
  refine norm_ (a' := ?_) ?_ ?_
  rotate_left
  · simp only [putAll, Act.put, List.setIfInBounds_toArray, List.set_cons_zero, List.set_cons_succ]
    rfl
  refine one_ (i := 9) (N := some 28) #[true, true, true, true, true, true, true, true, true, true, false, false, false, false] rfl rfl (by kernel_rfl) (by decide) (fun K hK => ?_)
  obtain ⟨Fa, hRa, hua⟩ := HSF.out.appendRw
  obtain ⟨oko, hRo⟩ := HSF.out.rd 1 rfl
  refine Kd.R_append_rows_step k41 (w0 := _) 0 (by rfl) (.tmp 25) (.tmp 27) 24 41 (.agg #[(.int .u64 0), (.int .i64 0), (.int .i64 0), (.int .i64 0), (.int .i64 0), (.int .u64 0)]) 48 rfl Try.underlying24 info41 rfl (by decide) (by omega) vb xs [tor o] _ _ _ (fun k => Fa k ∨ _ ≤ k) (fun _ => False) rfl rfl (Kd.R_mono hRa (fun k h => .inl h)) (Kd.R_reads' hRo).2.2 (fun _ _ h => h) (fun _ h => h.elim) (fun k hk => .inr hk) (Below.refl _ _) (Nat.zero_le _) (by have := HLN.out; simp only [List.length_singleton]; omega) ?_
  intro vd w3 ho_ hb_ hg_ hat_
  have HS9q := hua _ _ _ ho_ hg_
  obtain ⟨okd, hRd⟩ := HS9q.rd 0 rfl
  obtain ⟨Ad, cd, rfl⟩ := Kd.R_slice hRd
  have HS9 : Aside0 (St W F0 w3 (Rw k41 41 (.slice Ad (xs ++ [tor o]).length cd) (xs ++ [tor o]) :: Rw k41 41 (.slice Ac ([tor o] : List S41).length cc) [tor o] :: Pt gb #[.int .u64 o.f0, .int .i64 o.f1, .int .i64 o.f2, .int .i64 o.f3, .int .i64 o.f4, .int .u64 o.f5] 41 :: Pt g #[.slice A xs.length c] 64 :: Rw k41 41 (.slice A xs.length c) xs :: l)) := ⟨HS9q⟩
  clear HS9q hRd okd
  clear ho_ hb_ hg_ hat_ hRa hua hRo Fa oko
  refine hK.out _ _ ⟨(blk_cell (HS9.out.blk 3 rfl) 0).trans rfl, (blk_cell (HS9.out.blk 2 rfl) 0).trans rfl, (blk_cell (HS9.out.blk 2 rfl) 1).trans rfl, (blk_cell (HS9.out.blk 2 rfl) 2).trans rfl, (blk_cell (HS9.out.blk 2 rfl) 3).trans rfl, (blk_cell (HS9.out.blk 2 rfl) 4).trans rfl, (blk_cell (HS9.out.blk 2 rfl) 5).trans rfl⟩ (fun hHeld => ?_)
  clear hK K
  refine norm_ (a' := ?_) ?_ ?_
  rotate_left
  · show Act.put _ (some 28) _ = _
    simp only [Act.put, List.setIfInBounds_toArray, List.set_cons_zero, List.set_cons_succ, i64_w, i32_w]
    rfl
  refine last_ (i := 10) (N := some 29) #[true, true, true, true, true, true, true, true, true, true, true, false, false, false] rfl rfl (by kernel_rfl) (by decide) (fun K hK => ?_)
  obtain ⟨ok9, hR9⟩ := HS9.out.rd 0 rfl
  have q9 := Kd.R_reads' hR9
  clear hR9
  refine goes_ Try.func11 (by kernel_rfl) rfl #[.slice Ad (xs ++ [tor o]).length cd] (by rfl) rfl rfl (by simp only [List.map_toArray, List.map_cons, List.map_nil]; rfl) ?_
  with_reducible refine (jobberref12_Sorted.calls kf Ad cd (xs ++ [tor o]) r _ q9.2.2 q9.2.1 hr).mono ?_
  rintro e w6 ⟨vr, rfl, ho_, hb_⟩
  refine ⟨_, rfl, ?_⟩
  obtain ⟨Ar, cr, rfl⟩ := Kd.R_slice ho_
  have HS10 : Aside0 (St W F0 w6 (Rw k41 41 (.slice Ar r.length cr) r :: Rw k41 41 (.slice Ad (xs ++ [tor o]).length cd) (xs ++ [tor o]) :: Rw k41 41 (.slice Ac ([tor o] : List S41).length cc) [tor o] :: Pt gb #[.int .u64 o.f0, .int .i64 o.f1, .int .i64 o.f2, .int .i64 o.f3, .int .i64 o.f4, .int .u64 o.f5] 41 :: Pt g #[.slice A xs.length c] 64 :: Rw k41 41 (.slice A xs.length c) xs :: l)) := ⟨HS9.out.row hb_ ho_⟩
  clear ho_ hb_ q9 ok9
  have z0 : w6.cell? ⟨g, 0, none⟩ = some (.slice A xs.length c) := (blk_cell (HS10.out.blk 4 rfl) 0).trans rfl
  have fz0 : w6.frozen? ⟨g, 0, none⟩ = false := blk_frozen (HS10.out.blk 4 rfl) 0
  refine hK.out _ _ ?_
  clear hK K
  refine norm_ (a' := ?_) ?_ ?_
  rotate_left
  · show Act.put _ (some 29) _ = _
    simp only [Act.put, List.setIfInBounds_toArray, List.set_cons_zero, List.set_cons_succ, i64_w, i32_w]
    rfl
  refine pure_ (i := 11) (N := some 30) (v := ?_) (a' := ?_) #[true, true, true, true, true, true, true, true, true, true, true, true, false, false] rfl rfl (by kernel_rfl) (fun _ _ _ h => h) (Or.inl ⟨by rfl, ?_⟩) ?_ ?_
  rotate_left
  · intro w'
    go_simp
    with_reducible rfl
  rotate_left
  · simp only [Act.put, List.setIfInBounds_toArray, List.set_cons_zero, List.set_cons_succ, i64_w, i32_w]
    rfl
  refine pure_ (i := 12) (N := some 31) (v := ?_) (a' := ?_) #[true, true, true, true, true, true, true, true, true, true, true, true, true, false] rfl rfl (by kernel_rfl) (fun _ _ _ h => h) (Or.inl ⟨by rfl, ?_⟩) ?_ ?_
  rotate_left
  · intro w'
    go_simp
    with_reducible rfl
  rotate_left
  · simp only [Act.put, List.setIfInBounds_toArray, List.set_cons_zero, List.set_cons_succ, i64_w, i32_w]
    rfl
  refine last_ (i := 13) (N := none) #[true, true, true, true, true, true, true, true, true, true, true, true, true, true] rfl rfl (by kernel_rfl) (by decide) (fun K hK => ?_)
  refine skip_ (w1 := ?_) (by rfl) rfl ?_ ?_
  rotate_left
  · go_simp
    rfl
  refine hK.out _ _ ?_
  clear hK K
  refine done_ (by kernel_rfl) ?_
  refine onlyN_mk ?_
  refine hK _ _ _ _ _ _ _ _ _ _ _ _ _ _ (.slice Ar r.length cr) ?_
  exact (((((HS10.out.front 4 rfl).put 0 (.slice Ar r.length cr) rfl).front 2 rfl).drop.front 2 rfl).drop.front 2 rfl).drop.front 2 rfl |>.drop
set_option maxHeartbeats 8000000 in
set_option maxRecDepth 100000 in
theorem ref_at (w : World) (g : Nat) (A : Option Addr) (n c : Nat) (xs : List S41) (id : Int) (hc : w.cell? ⟨g, 0, none⟩ = some (.slice A n c)) (hr : Kd.C k41 w A n xs) (hn : n ≤ 64) (hno : ∀ x ∈ xs, x.f0 ≠ id) :
    Calls Try.prog 77 #[.pointer (some ⟨g, 0, none⟩), .int .u64 id] w fun e w' => e = .returned (.int .i64 (-1)) ∧ Below w.heap.size w w' := by
  have hu := Try.underlying41
  have HC := Aside0.mk hc
  have HR := Aside0.mk hr
  have HN := Aside0.mk (And.intro hn hno)
  have HB := Aside0.mk (Below.refl w.heap.size w)
  clear hc hr hn hno
  go_enter Try.func77, Try.ntmps77
  go_wp2
  go_loopg [5] n (fun kq v5 wr => ∃ i : Nat, v5 = .int .i64 (i : Int) ∧ Aside0 (i + kq = n) ∧ Aside0 (Below w.heap.size w wr))
  case atStart => exact ⟨0, rfl, ⟨by omega⟩, HB⟩
  case round =>
    clear HB
    obtain ⟨i, rfl, HI, HB⟩ := hrel
    have c0 : wr.cell? ⟨g, 0, none⟩ = some (.slice A n c) := cell_kept (fun k hk => HB.out.block k hk) HC.out
    by_cases hlt : i < n
    · have hlt' : (i : Int) < (n : Int) := by omega
      have hd : decide ((i : Int) < (n : Int)) = true := decide_eq_true hlt'
      have hi0 : (0 : Int) ≤ (i : Int) := Int.natCast_nonneg i
      obtain ⟨ad, hA, x0, _⟩ := at_T41 (Kd.C_below HR.out HB.out) (i : Int) hi0 hlt'
      obtain ⟨x, hx⟩ : ∃ x, rd_T41 xs (i : Int) = x := ⟨_, rfl⟩
      rw [hx] at x0
      replace x0 : wr.cell? (ad.add (i * 6)) = some (.int .u64 x.f0) := x0
      rw [hA] at c0
      have hmem : x ∈ xs := by
        rw [← hx, rd_T41, List.getD_eq_getElem?_getD, Int.toNat_natCast, List.getElem?_eq_getElem (by have := HR.out.1; omega)]
        exact List.getElem_mem _
      have hne : (x.f0 == id) = false := beq_eq_false_iff_ne.2 (HN.out.2 x hmem)
      have hwi : wrap64 ((i : Int) + 1) = ((i + 1 : Nat) : Int) := by have := HN.out.1; unfold wrap64; omega
      clear hmem hx hlt hA
      go_wp2
      go_roundg (gk - 1)
      case measure => have := HI.out; omega
      case rel => exact ⟨i + 1, by first | rfl | rw [hwi] | go_num, ⟨by have := HI.out; omega⟩, HB⟩
    · have hlt' : ¬ (i : Int) < (n : Int) := by omega
      have hd : decide ((i : Int) < (n : Int)) = false := decide_eq_false hlt'
      go_wp2
      go_ret
      exact ⟨rfl, HB.out⟩
set_option maxHeartbeats 16000000 in
set_option maxRecDepth 100000 in
theorem ref_add {W w : World} {F0 : Nat → Prop} {l : List Part} {g : Nat} {v : Value} {xs : List S41} (S : St W F0 w (Pt g #[v] 64 :: Rw k41 41 v xs :: l)) (o : S33) (b : Bool) (hb : jobberref12_Good.f o.f0 o.f1 o.f2 o.f3 o.f4 o.f5 = some b) (hlen : xs.length < 64) (hno : ∀ x ∈ xs, x.f0 ≠ o.f0) (k : Nat) (r : List S41) (hr : jobberref12_Sorted.f k (xs ++ [tor o]) = some r) :
    Calls Try.prog 37 #[.pointer (some ⟨g, 0, none⟩), .agg #[.int .u64 o.f0, .int .i64 o.f1, .int .i64 o.f2, .int .i64 o.f3, .int .i64 o.f4, .int .u64 o.f5]] w fun e w' => (∃ n : Int, e = .returned (.int .i64 n)) ∧ ∃ v', St W F0 w' (Pt g #[v'] 64 :: Rw k41 41 v' (if b = true then r else xs) :: l) := by
  have hu := Try.underlying41
  obtain ⟨ok, hR⟩ := S.rd 1 rfl
  obtain ⟨A, c, rfl⟩ := Kd.R_slice hR
  have HC := Aside0.mk (Kd.R_reads' hR).2.2
  have HLN := Aside0.mk hlen
  have HNO := Aside0.mk hno
  clear hR hlen hno
  go_enter Try.func37, Try.ntmps37
  cases b with
  | false =>
    go_wp2_with (first | ((with_reducible refine gate_dst (N := 3) rfl ?_); refine box_event ?hg (N := 3) ?hd (cs := #[.int .u64 o.f0, .int .i64 o.f1, .int .i64 o.f2, .int .i64 o.f3, .int .i64 o.f4, .int .u64 o.f5]) (t := 41) ?hr ?_; (case hd => rfl); (case hg => rfl); (case hr => first | (go_simp; done) | (go_simp; rfl)); intro gb hg_ w0 hbB hb; have S0 := S.box hg_ hb hbB; clear S hg_ hbB hb; have y0 : w0.cell? ⟨gb, 0, none⟩ = some (.int .u64 o.f0) := (blk_cell (S0.blk 0 rfl) 0).trans rfl; have y1 : w0.cell? ⟨gb, 1, none⟩ = some (.int .i64 o.f1) := (blk_cell (S0.blk 0 rfl) 1).trans rfl; have y2 : w0.cell? ⟨gb, 2, none⟩ = some (.int .i64 o.f2) := (blk_cell (S0.blk 0 rfl) 2).trans rfl; have y3 : w0.cell? ⟨gb, 3, none⟩ = some (.int .i64 o.f3) := (blk_cell (S0.blk 0 rfl) 3).trans rfl; have y4 : w0.cell? ⟨gb, 4, none⟩ = some (.int .i64 o.f4) := (blk_cell (S0.blk 0 rfl) 4).trans rfl; have y5 : w0.cell? ⟨gb, 5, none⟩ = some (.int .u64 o.f5) := (blk_cell (S0.blk 0 rfl) 5).trans rfl) | (go_at_call 21; refine (jobberref12_Good.calls _ _ _ _ _ _ _ _ hb).mono ?_; rintro e w1 ⟨rfl, hbl⟩; have S1 := S0.call hbl; clear S0 hbl))
    go_ret
    exact ⟨⟨_, rfl⟩, _, S1.drop⟩
  | true =>
    have d0 : decide ((64 : Int) ≤ (xs.length : Int)) = false := decide_eq_false (by have := HLN.out; omega)
    go_wp2_with (first
      | ((with_reducible refine gate_dst (N := 3) rfl ?_); refine box_event ?hg (N := 3) ?hd (cs := #[.int .u64 o.f0, .int .i64 o.f1, .int .i64 o.f2, .int .i64 o.f3, .int .i64 o.f4, .int .u64 o.f5]) (t := 41) ?hr ?_; (case hd => rfl); (case hg => rfl); (case hr => first | (go_simp; done) | (go_simp; rfl)); intro gb hg_ w0 hbB hb; have S0 := S.box hg_ hb hbB; clear S hg_ hbB hb; have y0 : w0.cell? ⟨gb, 0, none⟩ = some (.int .u64 o.f0) := (blk_cell (S0.blk 0 rfl) 0).trans rfl; have y1 : w0.cell? ⟨gb, 1, none⟩ = some (.int .i64 o.f1) := (blk_cell (S0.blk 0 rfl) 1).trans rfl; have y2 : w0.cell? ⟨gb, 2, none⟩ = some (.int .i64 o.f2) := (blk_cell (S0.blk 0 rfl) 2).trans rfl; have y3 : w0.cell? ⟨gb, 3, none⟩ = some (.int .i64 o.f3) := (blk_cell (S0.blk 0 rfl) 3).trans rfl; have y4 : w0.cell? ⟨gb, 4, none⟩ = some (.int .i64 o.f4) := (blk_cell (S0.blk 0 rfl) 4).trans rfl; have y5 : w0.cell? ⟨gb, 5, none⟩ = some (.int .u64 o.f5) := (blk_cell (S0.blk 0 rfl) 5).trans rfl)
      | (go_at_call 21; refine (jobberref12_Good.calls _ _ _ _ _ _ _ _ hb).mono ?_; rintro e w1 ⟨rfl, hbl⟩; have S1 := S0.call hbl; clear S0 hbl y0 y1 y2 y3 y4 y5; have y0 : w1.cell? ⟨gb, 0, none⟩ = some (.int .u64 o.f0) := (blk_cell (S1.blk 0 rfl) 0).trans rfl; have y1 : w1.cell? ⟨gb, 1, none⟩ = some (.int .i64 o.f1) := (blk_cell (S1.blk 0 rfl) 1).trans rfl; have y2 : w1.cell? ⟨gb, 2, none⟩ = some (.int .i64 o.f2) := (blk_cell (S1.blk 0 rfl) 2).trans rfl; have y3 : w1.cell? ⟨gb, 3, none⟩ = some (.int .i64 o.f3) := (blk_cell (S1.blk 0 rfl) 3).trans rfl; have y4 : w1.cell? ⟨gb, 4, none⟩ = some (.int .i64 o.f4) := (blk_cell (S1.blk 0 rfl) 4).trans rfl; have y5 : w1.cell? ⟨gb, 5, none⟩ = some (.int .u64 o.f5) := (blk_cell (S1.blk 0 rfl) 5).trans rfl)
      | (go_at_call 77; refine Calls.named ?_; intro w1' hw1; have S1' : St W F0 w1' _ := (by rw [hw1]; exact S1); clear hw1 S1 y0 y1 y2 y3 y4 y5; obtain ⟨ok1, hR1⟩ := S1'.rd 2 rfl; refine (ref_at _ g A xs.length c xs o.f0 ((blk_cell (S1'.blk 1 rfl) 0).trans rfl) (Kd.R_reads' hR1).2.2 (by have := HLN.out; omega) HNO.out).mono ?_; rintro e w2 ⟨rfl, hbl⟩; have S3 := S1'.call hbl; clear S1' hbl hR1 ok1 HC; have z0 : w2.cell? ⟨g, 0, none⟩ = some (.slice A xs.length c) := (blk_cell (S3.blk 1 rfl) 0).trans rfl)
)
    refine ref_r7 rfl S3 HLN.out hr ?_
    intro u19 u20 u21 u22 u23 u24 u25 u26 u27 u28 u29 u30 u31 w5 vr S4
    go_wp2
    go_ret
    exact ⟨⟨_, rfl⟩, _, S4⟩
theorem St.rebase {w W wl : World} {l : List Part} (h : St w (fun _ => False) W l) (hb : Below W.heap.size W wl) : St wl (fun k => w.heap.size ≤ k ∧ k < W.heap.size) wl l :=
  ⟨Fr.refl _ _, (h.st.bound.step hb.size (fun k _ hl => hb.block k hl)).mono fun k hk => .inl ⟨hk.1.elim (fun f => f.elim) (fun q => q), hk.2⟩⟩
theorem St.unbase {w W wl w' : World} {l : List Part} (hb : Below w.heap.size w wl) (h : St wl (fun k => w.heap.size ≤ k ∧ k < W.heap.size) w' l) : St w (fun _ => False) w' l :=
  ⟨(Fr.of_below hb).trans h.1 (fun _ hk => .inr hk.1), h.2.mono fun k hk => .inr (hk.elim (fun q => q.1) (fun q => Nat.le_trans hb.size q))⟩
def quP (rs : Nat → List RowM) (s : Nat) (y : Fin (rs s).length) : List SOr := ((rs s)[y.1]).2
def flR (l : List RowM) : List SOr := l.flatMap Prod.snd
theorem flR_fin (rs : Nat → List RowM) (s : Nat) : (List.finRange (rs s).length).flatMap (quP rs s) = flR (rs s) := by
  rw [flR, List.flatMap_def, List.flatMap_def]
  refine congrArg List.flatten (List.ext_getElem (by simp) fun i h1 h2 => ?_)
  simp [quP]
theorem flR_pre (rs : Nat → List RowM) (s : Nat) (pre : List (Fin (rs s).length)) (y : Fin (rs s).length) : (pre ++ [y]).flatMap (quP rs s) = pre.flatMap (quP rs s) ++ ((rs s)[y.1]).2 := by
  rw [List.flatMap_append]; simp [quP]
section
open Go.Shelf
attribute [local go_sem] Oper.semAt_some
attribute [local go_sem ↓ high] appO_of
set_option maxHeartbeats 8000000 in
set_option maxRecDepth 100000 in
theorem all_range {Q : Exit → Act → World → Prop} {cd : Code} (hcd : blkF 1 ((Try.f38.body).getD .skip) = some cd) {g m : Nat} {rs : Nat → List RowM} {A : Nat → Option Addr} {c : Nat → Nat} {w W : World} (h : BkF g rs m A c w) (hne : Full rs) (s : Nat) (hs : s = 1 ∨ s = 2)
    {v : Value} {acc : List SOr} (S : St w (fun _ => False) W [Pt w.heap.size #[v] 22, OwP 33 6 v acc.length (ocs acc)]) (hl : (rs s).length ≤ 1000) (hq : ∀ y : Fin (rs s).length, ((rs s)[y.1]).2.length ≤ 1000) (ha : acc.length + 1000 * (rs s).length ≤ 4000000) {dfs : List Deferred} (hM : Marks w.heap.size W dfs) {T1 T4 T5 T6 T7 T8 T9 T10 T11 T12 T13 T14 T15 T16 T17 T18 T19 T20 T21 : Value}
    (hN : ∀ D W' v', St w (fun _ => False) W' [Pt w.heap.size #[v'] 22, OwP 33 6 v' (acc ++ flR (rs s)).length (ocs (acc ++ flR (rs s)))] → Marks w.heap.size W' ({ target := .collected D, args := #[] } :: dfs) → Q .normal { tmps := #[.pointer (some ⟨g, 0, none⟩), T1, .pointer (some ⟨w.heap.size, 0, none⟩), .int .i64 (s : Int), T4, T5, T6, T7, T8, T9, .pointer (some ⟨g, 0, none⟩), .int .i64 (s : Int), .func (.func 98) #[] #[.pointer (some ⟨W.heap.size, 0, none⟩), .pointer (some ⟨W.heap.size + 1, 0, none⟩)], T13, T14, T15, T16, T17, T18, T19, T20, T21], defers := { target := .collected D, args := #[] } :: dfs } W') :
    cd.wpIn Fence.wide 4 Try.prog Q { tmps := #[.pointer (some ⟨g, 0, none⟩), T1, .pointer (some ⟨w.heap.size, 0, none⟩), .int .i64 (s : Int), T4, T5, T6, T7, T8, T9, T10, T11, T12, T13, T14, T15, T16, T17, T18, T19, T20, T21], defers := dfs } W := by
  have hcd' := Option.some.inj (hcd.symm.trans (show blkF 1 ((Try.f38.body).getD .skip) = some _ from rfl))
  subst hcd'
  clear hcd
  have mixed : Try.prog.follows .mixedOrders = true := by kernel_rfl
  have HF := Aside0.mk h
  have HS := Aside0.mk hs
  have HL := Aside0.mk (And.intro hl (And.intro hq (And.intro ha hne)))
  have HMK := Aside0.mk hM
  have HN := Aside0.mk hN
  have hwb : Below w.heap.size w W := S.below
  clear h hs hl hq ha hM hN hne
  gi_wp2_with (refine ⟨trivial, ?_⟩; gi_at_call 78; refine (callsIn_wide.2 (ladder_rows _ _ _)).mono ?_; rintro e w' ⟨rfl, rfl⟩)
  obtain ⟨wl, hwl⟩ : ∃ wl, wl = (W.alloc (.cells #[.pointer (some ⟨g, 0, none⟩)] 61)).alloc (.cells #[.int .i64 (s : Int)] 3) := ⟨_, rfl⟩
  rw [← hwl]
  have hsz : wl.heap.size = W.heap.size + 2 := by rw [hwl]; simp
  have hbl : Below W.heap.size W wl := by rw [hwl]; exact below_alloc (below_alloc (Below.refl _ _) _) _
  have hn0 : wl.heap[W.heap.size]? = some (.cells #[.pointer (some ⟨g, 0, none⟩)] 61 (0, 0)) := by rw [hwl]; exact blk_alloc (blk_new W _) _
  have hn1 : wl.heap[W.heap.size + 1]? = some (.cells #[.int .i64 (s : Int)] 3 (0, 0)) := by
    rw [hwl]; have := blk_new (W.alloc (.cells #[.pointer (some ⟨g, 0, none⟩)] 61)) (.cells #[.int .i64 (s : Int)] 3); simpa using this
  have hwl2 : Below w.heap.size w wl := below_step hwb hbl
  have HMK1 : Aside0 (Marks w.heap.size wl dfs) := ⟨HMK.out.keep fun D _ h _ => (hbl.block D (Array.getElem?_eq_some_iff.1 h).1).trans h⟩
  have HML : Aside0 (∀ D', { target := .collected D', args := #[] } ∈ dfs → D' < wl.heap.size) := ⟨fun D' h => HMK1.out.lt D' h⟩
  have HSZ := Aside0.mk hsz
  have HWB := Aside0.mk hwl2
  have HWS : Aside0 (w.heap.size < W.heap.size) := ⟨blk_lt (S.blk 0 rfl)⟩
  have hst0 := S.rebase hbl
  have HKX : Aside0 (∀ W', KX wl.heap.size (fun k => w.heap.size ≤ k ∧ k < W.heap.size) wl W' → BkF g rs m A c W') := ⟨fun W' k => HF.out.kept (Nat.le_trans HWB.out.size k.1) fun i hi => (k.2 i (by have := HSZ.out; have := HWS.out; omega) (fun q => by omega)).trans (HWB.out.block i hi)⟩
  clear hsz hbl hwl hwl2 hwb S HMK
  refine wpIn_rangeFunc_ownF rfl (by decide) (gf := 98) (lb := #[.pointer (some ⟨W.heap.size, 0, none⟩), .pointer (some ⟨W.heap.size + 1, 0, none⟩)]) rfl trivial (enters_of Try.func98 (by kernel_rfl) rfl)
    (rows1_stops (some ⟨g, 0, none⟩) (s : Int) ⟨g, s - 1, none⟩ (A s) (rs s).length (c s) W.heap.size (W.heap.size + 1) wl.heap.size (fun k => w.heap.size ≤ k ∧ k < W.heap.size) wl (Nat.le_refl _) (by have := HSZ.out; omega) (by have := HSZ.out; omega) (fun q => by omega) (fun q => by omega) hn0 hn1 (HF.out.hA s) (HF.out.hm s)
      (fun W' h => (HKX.out W' h).side s HS.out) (fun W' h => (HKX.out W' h).head s HS.out)) KX.trans (KX.book (Nat.le_refl _)) (Below.refl _ _) (fun _ => rfl)
    (fun pre W' => ∃ v, (St wl (fun k => w.heap.size ≤ k ∧ k < W.heap.size) W' [Pt w.heap.size #[v] 22, OwP 33 6 v (acc ++ pre.flatMap (quP rs s)).length (ocs (acc ++ pre.flatMap (quP rs s)))]) ∧ ∀ D, { target := .collected D, args := #[] } ∈ dfs → W'.heap[D]? = wl.heap[D]?)
    (fun cd pre W' => False)
    (fun z A B row hs hg hr => by
      obtain ⟨v, h, hd⟩ := hs
      exact ⟨v, h.regrow hg hr, fun D hD => (hg.block D (by have := HML.out D hD; have := h.fr.size; omega) (fun e => by have := (hr _ e.symm).1; have := HML.out D hD; omega)).trans (hd D hD)⟩)
    (fun cd z A B row hs hg hr => hs.elim)
    ⟨v, by rw [List.flatMap_nil, List.append_nil]; exact hst0, fun _ _ => rfl⟩
    (fun x => { tmps := #[.pointer (some ⟨g, 0, none⟩), T1, .pointer (some ⟨w.heap.size, 0, none⟩), .int .i64 (s : Int), T4, .pointer ((A s).map fun a => a.add (x.1 * 2)), T6, T7, T8, T9, .pointer (some ⟨g, 0, none⟩), .int .i64 (s : Int), .func (.func 98) #[] #[.pointer (some ⟨W.heap.size, 0, none⟩), .pointer (some ⟨W.heap.size + 1, 0, none⟩)], .int .i64 (x.1 : Int), .pointer ((A s).map fun a => a.add (x.1 * 2)), T15, T16, T17, T18, T19, T20, T21], defers := [] }) ?assign ?body ?done ?stop
  case assign =>
    intro l x W' K hK
    gi_wp2
    exact hK
  case body =>
    rintro l pre y W' ⟨v, hst, hdf⟩ hlen
    clear hst0
    obtain ⟨ad, had⟩ := HF.out.hA s (by omega)
    rw [had]
    have hkx : KX wl.heap.size (fun k => w.heap.size ≤ k ∧ k < W.heap.size) wl W' := ⟨hst.fr.size, fun k hk hn => hst.fr.block k hk hn⟩
    obtain ⟨vq, _, e0, FQ, hQ⟩ := (HKX.out W' hkx).row s y ad had
    have hqn : ((rs s)[y.1]).2 ≠ [] := HL.out.2.2.2 s y.1 _ _ (List.getElem?_eq_getElem y.2)
    have hql := HL.out.2.1 y
    have hal : (acc ++ pre.flatMap (quP rs s)).length ≤ 4000000 := by
      have : ∀ p : List (Fin (rs s).length), (p.flatMap (quP rs s)).length ≤ 1000 * p.length := by
        intro p
        induction p with
        | nil => simp
        | cons z p ih => rw [List.flatMap_cons, List.length_append, List.length_cons]; have := HL.out.2.1 z; unfold quP at *; omega
      have := this pre
      have := HL.out.2.2.1
      have h1 : 1000 * pre.length ≤ 1000 * (rs s).length := Nat.mul_le_mul_left _ (by omega)
      rw [List.length_append]; omega
    obtain ⟨q, hqe⟩ : ∃ q, ((rs s)[y.1]).2 = q := ⟨_, rfl⟩
    rw [hqe] at hQ hqn hql
    have hq0 := List.length_pos_iff.2 hqn
    obtain ⟨gq, cq, rfl, hcq⟩ := OwP.some_ hQ hq0
    obtain ⟨i0, hi0, hz0, hzs, hzb⟩ := info_parts inf_ord
    have ht := Try.underlying22
    have k0 : W'.cell? ⟨w.heap.size, 0, none⟩ = some v := (blk_cell (hst.blk 0 rfl) 0).trans rfl
    have S1 := hst.drew1
    obtain ⟨F1, hO1⟩ := S1.get 1 rfl
    have S2 := (S1.front 1 rfl)
    obtain ⟨v', w', hrun, hO, hg, _, hat⟩ := run_append_own_at (P := Try.prog) (w := W'.drew) 0 22 22 33 i0 _ 6 48 ht hi0 hz0 hzs hzb (by rfl) (by decide) v _ _ hO1.2.1 ⟨gq, 0, none⟩ q.length cq (ocs q) (by rw [ocs_len]) (fun j u hj => by rw [Addr.add_lit, Nat.zero_add]; exact hcq j u hj) (fun u hu => hQ.2.2 u hu) (by unfold maxLen; omega) (by omega) (Nat.zero_le _)
    rw [appO_of] at hrun
    have S3 := S2.appendOwn (m := q.length) hO hg hat (fun u hu => hQ.2.2 u hu)
    obtain ⟨Av, cv, rfl⟩ : ∃ Av cv, v' = .slice Av ((acc ++ pre.flatMap (quP rs s)).length + q.length) cv := by
      obtain ⟨F3, hO3⟩ := S3.get 0 rfl
      rcases hO3.block with ⟨_, z, _⟩ | ⟨_, _, _, z, _⟩
      · omega
      · exact ⟨_, _, z⟩
    have k1 : w'.cell? ⟨w.heap.size, 0, none⟩ = some v := (blk_cell (S3.blk 1 rfl) 0).trans rfl
    have fk1 : w'.frozen? ⟨w.heap.size, 0, none⟩ = false := blk_frozen (S3.blk 1 rfl) 0
    have hko : KeepsOthers W' w' := (KeepsOthers.drew _).trans (KeepsOthers.of_grownBy hg fun j o e ho => by
      obtain ⟨cur, t, f, hh⟩ := OwP.cellsAt hO1 j e
      rw [hh] at ho; cases ho; rfl)
    have S4 := S3.perm2.put 0 (.slice Av ((acc ++ pre.flatMap (quP rs s)).length + q.length) cv) rfl
    have hcs : ocs (acc ++ pre.flatMap (quP rs s)) ++ ocs q = ocs (acc ++ (pre ++ [y]).flatMap (quP rs s)) := by
      rw [flR_pre, hqe, ← List.append_assoc, ocs_append (acc ++ _)]
    have hln : (acc ++ pre.flatMap (quP rs s)).length + q.length = (acc ++ (pre ++ [y]).flatMap (quP rs s)).length := by
      rw [flR_pre, hqe, ← List.append_assoc]; exact List.length_append.symm
    rw [hcs, hln] at S4
    rw [hln] at hrun S3
    obtain ⟨nn, hnn⟩ : ∃ nn, (acc ++ (pre ++ [y]).flatMap (quP rs s)).length = nn := ⟨_, rfl⟩
    rw [hnn] at hrun S4
    have hde : ∀ D, { target := .collected D, args := #[] } ∈ dfs → (w'.setCell ⟨w.heap.size, 0, none⟩ (.slice Av nn cv)).heap[D]? = wl.heap[D]? := fun D hD => by
      obtain ⟨rest, hrest⟩ : ∃ o, wl.heap[D]? = some (.deferred (some o)) := by
        have : ∀ {ds : List Deferred}, Marks w.heap.size wl ds → { target := .collected D, args := #[] } ∈ ds → wl.heap[D]? = some (.deferred (some [])) := by
          intro ds
          induction ds with
          | nil => intro _ h; exact nomatch h
          | cons d ds ih =>
            rintro ⟨⟨D2, z1, z2, z3, z4⟩, z5⟩ h
            rcases List.mem_cons.1 h with e | e
            · rw [z2] at e
              have : D = D2 := by injection e with e _; injection e
              rw [this]; exact z3
            · exact ih z5 e
        exact ⟨_, this HMK1.out hD⟩
      have e1 := hdf D hD
      rw [hrest] at e1
      rw [hrest]
      exact (KeepsOthers.setCell w' _ _).same D _ (hko.same D _ e1 rfl) rfl
    have HFIN : Aside0 (KeepsOthers W' (w'.setCell ⟨w.heap.size, 0, none⟩ (.slice Av nn cv)) ∧ KX wl.heap.size (fun k => w.heap.size ≤ k ∧ k < W.heap.size) W' (w'.setCell ⟨w.heap.size, 0, none⟩ (.slice Av nn cv)) ∧ ∃ v, (St wl (fun k => w.heap.size ≤ k ∧ k < W.heap.size) (w'.setCell ⟨w.heap.size, 0, none⟩ (.slice Av nn cv)) [Pt w.heap.size #[v] 22, OwP 33 6 v (acc ++ (pre ++ [y]).flatMap (quP rs s)).length (ocs (acc ++ (pre ++ [y]).flatMap (quP rs s)))]) ∧ ∀ D, { target := .collected D, args := #[] } ∈ dfs → (w'.setCell ⟨w.heap.size, 0, none⟩ (.slice Av nn cv)).heap[D]? = wl.heap[D]?) :=
      ⟨hko.trans (KeepsOthers.setCell _ _ _), ⟨Nat.le_trans hko.size (KeepsOthers.setCell _ _ _).size, fun k hk hn => (S4.fr.block k hk hn).trans (hst.fr.block k hk hn).symm⟩, _, by rw [hnn]; exact S4, hde⟩
    simp only [Option.map_some]
    clear hst hkx hi0 hz0 hzs hzb S1 hO1 S2 hO hg hat S3 hko S4 hcs hQ hcq hqe hal hqn hql hq0 hnn hln hde hdf
    gi_wp2
    gi_region
    all_goals exact HFIN.out
  case done =>
    rintro D xs W' hD rfl ⟨v, hst, hdf⟩ hK
    rw [flR_fin] at hst
    refine HN.out D W' v (hst.unbase HWB.out) ⟨⟨D, by have := HWB.out.size; omega, rfl, hK, fun D' h => by have := HML.out D' h; omega⟩, HMK1.out.keep fun D' _ h hm => (hdf D' hm).trans h⟩
  case stop => exact fun D cd pre W' _ _ h => h.elim
end
theorem flR_len {l : List RowM} (h : ∀ (j : Nat) p q, l[j]? = some (p, q) → q.length ≤ 1000) : (flR l).length ≤ 1000 * l.length := by
  unfold flR
  have h' : ∀ r ∈ l, r.2.length ≤ 1000 := fun r hr => by
    obtain ⟨j, hj⟩ := List.mem_iff_getElem?.1 hr
    exact h j r.1 r.2 hj
  clear h
  induction l with
  | nil => simp
  | cons r l ih =>
    rw [List.flatMap_cons, List.length_append, List.length_cons]
    have := ih fun x hx => h' x (List.mem_cons_of_mem _ hx)
    have := h' r (List.mem_cons_self ..)
    omega
theorem St.weak {W w : World} {F0 F1 : Nat → Prop} {l : List Part} (h : St W F0 w l) (hf : ∀ k, F0 k → F1 k) : St W F1 w l :=
  ⟨(Fr.refl _ _).trans h.1 (fun k hk => .inl (hf k hk)), h.2.mono fun k hk => hk.imp (hf k) (fun q => q)⟩
section
open Go.Shelf
attribute [local go_sem] Oper.semAt_some
set_option maxHeartbeats 8000000 in
set_option maxRecDepth 100000 in
theorem BkF.all {g m : Nat} {rs : Nat → List RowM} {A : Nat → Option Addr} {c : Nat → Nat} {w : World} (h : BkF g rs m A c w) (hne : Full rs) (few : Few rs m) :
    Calls Try.prog 38 #[.pointer (some ⟨g, 0, none⟩)] w fun e w' => ∃ v, e = .returned v ∧ St w (fun _ => False) w' [OwP 33 6 v (flR (rs 1) ++ flR (rs 2)).length (ocs (flR (rs 1) ++ flR (rs 2)))] := by
  have HF := Aside0.mk h
  have HN := Aside0.mk (And.intro hne few)
  have S1 := ((St.start w (fun _ => False)).alloc (cs := #[.slice none 0 0]) (t := 22))
  have HS := Aside0.mk (S1.new (Below.refl _ _) OwP.loc (OwP.nil (e := 33) (sz := 6))).perm2
  clear h hne few S1
  refine (callsIn_wide (n := 4)).1 ?_
  refine callsIn_of_wp_marks Try.func38 rfl trivial ?_ rfl
  simp only [Try.ntmps38, List.size_toArray, List.length_cons, List.length_nil, Nat.reduceAdd, Nat.reduceSub, Array.replicate_succ, Array.replicate_zero, List.push_toArray, List.append_toArray, List.nil_append, List.cons_append]
  obtain ⟨cd, hcd⟩ : ∃ cd, blkF 1 ((Try.f38.body).getD .skip) = some cd := ⟨_, rfl⟩
  have e1 := Option.some.inj (hcd.symm.trans (show blkF 1 ((Try.f38.body).getD .skip) = some _ from rfl))
  rw [← e1]
  clear e1
  gi_wp2
  obtain ⟨W, hW⟩ : ∃ W, W = w.alloc (.cells #[.slice none 0 0] 22) := ⟨_, rfl⟩
  rw [← hW] at HS ⊢
  clear hW
  refine wpIn_loop_rounds 3 ?_
  rw [roundsIn_succ]
  gi_wp2
  have HQ : Aside0 (∀ s, (flR (rs s)).length ≤ 1000000 ∧ (rs s).length ≤ 1000 ∧ ∀ y : Fin (rs s).length, ((rs s)[y.1]).2.length ≤ 1000) := ⟨fun s => by
    have h1 := HN.out.2.r s
    have h2 := flR_len (HN.out.2.q s)
    exact ⟨by omega, h1, fun y => HN.out.2.q s y.1 _ _ (List.getElem?_eq_getElem y.2)⟩⟩
  refine all_range hcd HF.out HN.out.1 1 (.inl rfl) (acc := []) HS.out (HQ.out 1).2.1 (HQ.out 1).2.2 (by have := (HQ.out 1).2.1; rw [List.length_nil]; omega) (dfs := []) trivial ?_
  intro D1 W1 v1 hs1 hm1
  rw [List.nil_append] at hs1
  have HS1 := Aside0.mk hs1
  have HM1 := Aside0.mk hm1
  clear hs1 hm1 HS
  gi_wp2
  rw [roundsIn_succ]
  gi_wp2
  refine all_range hcd HF.out HN.out.1 2 (.inr rfl) HS1.out (HQ.out 2).2.1 (HQ.out 2).2.2 (by have := (HQ.out 1).1; have := (HQ.out 2).2.1; omega) HM1.out ?_
  intro D2 W2 v2 hs2 hm2
  have HM2 := Aside0.mk hm2
  obtain ⟨Av, cv, rfl⟩ : ∃ Av cv, v2 = .slice Av (flR (rs 1) ++ flR (rs 2)).length cv := by
    obtain ⟨F3, hO3⟩ := hs2.get 1 rfl
    rcases hO3.block with ⟨q, q2, _⟩ | ⟨_, _, _, q, _⟩
    · exact ⟨none, 0, by rw [q, q2]⟩
    · exact ⟨_, _, q⟩
  obtain ⟨nn, hnn⟩ : ∃ nn, (flR (rs 1) ++ flR (rs 2)).length = nn := ⟨_, rfl⟩
  rw [hnn] at hs2
  have HNN := Aside0.mk hnn
  have HBK := Aside0.mk (hs2.blk 0 rfl)
  have k0 : W2.cell? ⟨w.heap.size, 0, none⟩ = some (.slice Av nn cv) := (blk_cell (hs2.blk 0 rfl) 0).trans rfl
  have fk0 : W2.frozen? ⟨w.heap.size, 0, none⟩ = false := blk_frozen (hs2.blk 0 rfl) 0
  have HS2 := Aside0.mk (hs2.put 0 (.slice Av nn cv) rfl)
  clear hs2 hm2 HS1 HM1 hnn
  gi_wp2
  rw [roundsIn_succ]
  gi_wp2
  refine (HM2.out.keep ?_).leave fun w' k1 k2 => ?_
  · intro D hD h1 h2
    exact (Below.heap_setCell W2 ⟨w.heap.size, 0, none⟩ (.slice Av nn cv) D (fun e => by
      rw [show D = w.heap.size from e, HBK.out] at h1
      cases h1)).trans h1
  · obtain ⟨e0, S5⟩ := own_end (Below.refl _ _) (Nat.le_refl _) (HS2.out.weak fun _ h => h.elim) k1 k2
    rw [← HNN.out] at e0 S5
    exact ⟨_, by simp [results, Try.results38, go_sem, e0], _, rfl, S5⟩
end
end Go.Proofs.Ytlihfiajbhpokaa.Ldo
