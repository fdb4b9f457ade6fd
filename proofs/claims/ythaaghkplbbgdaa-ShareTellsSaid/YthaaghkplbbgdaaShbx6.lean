/- Printed by this session's wip/drive.py over the translation; some functions by hand. -/
import Derived.Test.YthaaghkplbbgdaaShbx0
import Derived.Test.YthaaghkplbbgdaaShbx4
import Derived.Test.YthaaghkplbbgdaaShbx5
namespace Go.Proofs.Ythaaghkplbbgdaa.Shb
open Go.RowKit Go.Proofs.YthaaghkplbbgdaaW.PrintWords Go.Proofs.YthaaghkplbbgdaaW.PrintLast Go.Proofs.YthaaghkplbbgdaaW.PrintMore
attribute [local go_sem] max2_int min2_int max_two min_two max_three min_three max_four min_four   -- for this text's walks alone
set_option linter.unusedVariables false
set_option linter.unusedSimpArgs false

/-! ### jobberref01_parts: function 62 (by hand; for other hand texts alone) -/
theorem setb_zero (r : Nat) (b : Bool) : setb (2 * r) 0 b = 2 * r + (if b then 1 else 0) := by
  apply Nat.eq_of_testBit_eq
  intro j
  rw [tb_setb]
  have h := Nat.testBit_two_pow_mul_add r (i := 1) (b := if b then 1 else 0) (by cases b <;> simp) j
  have h2 := Nat.testBit_two_pow_mul_add r (i := 1) (b := 0) (by simp) j
  simp only [Nat.pow_one, Nat.add_zero] at h h2
  rw [h, h2]
  by_cases e : j = 0
  · subst e; cases b <;> simp
  · rw [if_neg e, if_neg (by omega), if_neg (by omega)]
theorem setb_top (t k : Nat) : setb (2 ^ (k + 1) * t) k true = 2 ^ (k + 1) * t + 2 ^ k := by
  apply Nat.eq_of_testBit_eq
  intro j
  rw [tb_setb]
  have hp : (2 : Nat) ^ k < 2 ^ (k + 1) := Nat.pow_lt_pow_right (by decide) (by omega)
  have h := Nat.testBit_two_pow_mul_add t (i := k + 1) (b := 2 ^ k) hp j
  have h2 := Nat.testBit_two_pow_mul_add t (i := k + 1) (b := 0) (Nat.two_pow_pos _) j
  simp only [Nat.add_zero] at h2
  rw [h, h2]
  by_cases e : j = k
  · subst e; rw [if_pos rfl, if_pos (by omega)]; simp
  · rw [if_neg e]
    by_cases e2 : j < k + 1
    · rw [if_pos e2, if_pos e2, Nat.testBit_two_pow, decide_eq_false (Ne.symm e)]; simp
    · rw [if_neg e2, if_neg e2]
theorem part_eq {a b k : Nat} (hb : 0 < b) {R : Nat} (hR : R = 2 * (a / 2 ^ (k + 1) % b) + (if a.testBit k then 1 else 0)) :
    (R < b → 2 ^ (k + 1) * (a / 2 ^ (k + 1) / b) = 2 ^ k * (a / 2 ^ k / b) ∧ R = a / 2 ^ k % b) ∧ (b ≤ R → setb (2 ^ (k + 1) * (a / 2 ^ (k + 1) / b)) k true = 2 ^ k * (a / 2 ^ k / b) ∧ R - b = a / 2 ^ k % b) := by
  have hA := back_step (m := a) (k := k)
  obtain ⟨B, hB⟩ : ∃ B, a / 2 ^ (k + 1) = B := ⟨_, rfl⟩
  obtain ⟨A, hA2⟩ : ∃ A, a / 2 ^ k = A := ⟨_, rfl⟩
  rw [hB, hA2] at hA
  rw [hB] at hR
  rw [hB, hA2, setb_top]
  have hd := Nat.div_add_mod B b
  have hl := Nat.mod_lt B hb
  obtain ⟨q, hq⟩ : ∃ q, B / b = q := ⟨_, rfl⟩
  obtain ⟨r, hr⟩ : ∃ r, B % b = r := ⟨_, rfl⟩
  rw [hq, hr] at hd
  rw [hr] at hl hR
  rw [hq]
  have hAA : A = b * (2 * q) + R := by
    have e : b * (2 * q) = 2 * (b * q) := by rw [Nat.mul_left_comm]
    rw [e]; omega
  have h2 : R < 2 * b := by
    have : (if a.testBit k then 1 else 0) ≤ 1 := by split <;> omega
    omega
  refine ⟨fun h => ?_, fun h => ?_⟩
  · have e1 : A / b = 2 * q := by rw [hAA, Nat.mul_add_div hb, Nat.div_eq_of_lt h] <;> omega
    have e2 : A % b = R := by rw [hAA, Nat.mul_add_mod, Nat.mod_eq_of_lt h]
    rw [e1, e2]
    refine ⟨?_, rfl⟩
    rw [Nat.pow_succ, Nat.mul_assoc]
  · have hAB : A = b * (2 * q + 1) + (R - b) := by rw [Nat.mul_add, Nat.mul_one]; omega
    have e1 : A / b = 2 * q + 1 := by rw [hAB, Nat.mul_add_div hb, Nat.div_eq_of_lt (by omega)] <;> omega
    have e2 : A % b = R - b := by rw [hAB, Nat.mul_add_mod, Nat.mod_eq_of_lt (by omega)]
    rw [e1, e2]
    refine ⟨?_, rfl⟩
    rw [Nat.mul_add, Nat.pow_succ, Nat.mul_one, Nat.mul_assoc]
set_option maxHeartbeats 8000000 in
set_option maxRecDepth 100000 in
theorem num_parts (a b : Nat) (ga gb : Bool) (ha : a < 2 ^ 136) (hb0 : 0 < b) (hb : b < 2 ^ 65) (w : World) :
    Calls Try.prog 62 #[.agg (numC a ga), .agg (numC b gb)] w fun e w' => e = .returned (.tuple #[.agg (numC (a / b) false), .agg (numC (a % b) false)]) ∧ Below w.heap.size w w' := by
  have HO : Aside0 (Own w w []) := ⟨Own.start w⟩
  have HA := Aside0.mk ha
  have HB0 := Aside0.mk hb0
  have HB65 := Aside0.mk hb
  clear ha hb0 hb
  go_enter Try.func62, Try.ntmps62
  go_wp2_with (first | ((with_reducible refine gate_dst (N := 2) rfl ?_); refine num_new ?hg (N := 2) ?hd (cs := numC a ga) HO.out a ga ?hc ?hr ?_; (case hc => first | rfl | exact zcNum); (case hd => rfl); (case hg => rfl); (case hr => first | (go_simp; done) | (go_simp; rfl)); intro gA w1 hO_; have n0_ : Aside0 (Own w w1 [(gA, a, ga)]) := ⟨hO_⟩; clear HO hO_; have HO := n0_; clear n0_) | ((with_reducible refine gate_dst (N := 3) rfl ?_); refine num_new ?hg (N := 3) ?hd (cs := numC b gb) HO.out b gb ?hc ?hr ?_; (case hc => first | rfl | exact zcNum); (case hd => rfl); (case hg => rfl); (case hr => first | (go_simp; done) | (go_simp; rfl)); intro gB w2 hO_; have n0_ : Aside0 (Own w w2 [(gA, a, ga), (gB, b, gb)]) := ⟨hO_⟩; clear HO hO_; have HO := n0_; clear n0_) | ((with_reducible refine gate_dst (N := 4) rfl ?_); refine num_new ?hg (N := 4) ?hd (cs := Try.zeroCells84) HO.out 0 false ?hc ?hr ?_; (case hc => first | rfl | exact zcNum); (case hd => rfl); (case hg => rfl); (case hr => first | (go_simp; done) | (go_simp; rfl)); intro gQ w3 hO_; have n0_ : Aside0 (Own w w3 [(gA, a, ga), (gB, b, gb), (gQ, 0, false)]) := ⟨hO_⟩; clear HO hO_; have HO := n0_; clear n0_) | ((with_reducible refine gate_dst (N := 5) rfl ?_); refine num_new ?hg (N := 5) ?hd (cs := Try.zeroCells84) HO.out 0 false ?hc ?hr ?_; (case hc => first | rfl | exact zcNum); (case hd => rfl); (case hg => rfl); (case hr => first | (go_simp; done) | (go_simp; rfl)); intro gS w4 hO_; have n0_ : Aside0 (Own w w4 [(gA, a, ga), (gB, b, gb), (gQ, 0, false), (gS, 0, false)]) := ⟨hO_⟩; clear HO hO_; have HO := n0_; clear n0_) | ((with_reducible refine gate_dst (N := 6) rfl ?_); refine num_new ?hg (N := 6) ?hd (cs := Try.zeroCells84) HO.out 0 false ?hc ?hr ?_; (case hc => first | rfl | exact zcNum); (case hd => rfl); (case hg => rfl); (case hr => first | (go_simp; done) | (go_simp; rfl)); intro gq w5 hO_; have n0_ : Aside0 (Own w w5 [(gA, a, ga), (gB, b, gb), (gQ, 0, false), (gS, 0, false), (gq, 0, false)]) := ⟨hO_⟩; clear HO hO_; have HO := n0_; clear n0_) | ((with_reducible refine gate_dst (N := 7) rfl ?_); refine num_new ?hg (N := 7) ?hd (cs := Try.zeroCells84) HO.out 0 false ?hc ?hr ?_; (case hc => first | rfl | exact zcNum); (case hd => rfl); (case hg => rfl); (case hr => first | (go_simp; done) | (go_simp; rfl)); intro gr w6 hO_; have n0_ : Aside0 (Own w w6 [(gA, a, ga), (gB, b, gb), (gQ, 0, false), (gS, 0, false), (gq, 0, false), (gr, 0, false)]) := ⟨hO_⟩; clear HO hO_; have HO := n0_; clear n0_))
  go_loopg [8] 136 (fun kq v8 wr => ∃ i : Int, v8 = .int .i64 i ∧ Aside0 (i + 1 = kq) ∧ Aside0 (kq ≤ 136) ∧ Aside0 (Own w wr [(gA, a, ga), (gB, b, gb), (gQ, 0, false), (gS, 0, false), (gq, (2 ^ (kq) * (a / 2 ^ (kq) / b)), false), (gr, (a / 2 ^ (kq) % b), false)]))
  case atStart => exact ⟨135, rfl, ⟨rfl⟩, ⟨Nat.le_refl _⟩, ⟨by rw [Nat.div_eq_of_lt HA.out, Nat.zero_div, Nat.zero_mod, Nat.mul_zero]; exact HO.out⟩⟩
  case round =>
    clear HO
    obtain ⟨i, rfl, HI, HK, HO⟩ := hrel
    cases gk with
    | zero =>
      obtain rfl : i = -1 := by have := HI.out; omega
      have n0_ : Aside0 (Own w wr [(gA, a, ga), (gB, b, gb), (gQ, 0, false), (gS, 0, false), (gq, (a / b), false), (gr, (a % b), false)]) := ⟨by have h := HO.out; simp only [Nat.pow_zero, Nat.one_mul, Nat.div_one] at h; exact h⟩
      clear HO; have HO := n0_; clear n0_
      go_wp2
      refine wp_region_held_drew (S := (fun w' => ∃ (m4 : Nat) (s4 : Bool) (m5 : Nat) (s5 : Bool), Own w w' [(gA, a, ga), (gB, b, gb), (gQ, m4, s4), (gS, m5, s5), (gq, (a / b), false), (gr, (a % b), false)])) (by kernel_rfl) ⟨_, _, _, _, HO.out.drew⟩ (fun hHeld => ?_)
      refine wpAnyH_take (i := 0) (v := .agg (numC (a / b) false)) (by simp only [List.getElem?_toArray, List.getElem?_cons_succ, List.getElem?_cons_zero]; rfl) (by kernel_rfl) (by kernel_rfl) (by kernel_rfl) (by exact fun _ _ _ h => h) (Or.inl ⟨by rfl, ?hy0⟩) (by assumption) ?r0
      case hy0 => (rintro w_ ⟨_, _, _, _, hO⟩; exact num_load_run (.tmp 6) rfl hO 4 rfl rfl)
      try simp only [Act.put, List.setIfInBounds_toArray, List.set_cons_zero, List.set_cons_succ]
      refine wpAnyH_take (i := 1) (v := .agg (numC (a % b) false)) (by simp only [List.getElem?_toArray, List.getElem?_cons_succ, List.getElem?_cons_zero]; rfl) (by kernel_rfl) (by kernel_rfl) (by kernel_rfl) (by exact fun _ _ _ h => h) (Or.inl ⟨by rfl, ?hy1⟩) (by assumption) ?r1
      case hy1 => (rintro w_ ⟨_, _, _, _, hO⟩; exact num_load_run (.tmp 7) rfl hO 5 rfl rfl)
      try simp only [Act.put, List.setIfInBounds_toArray, List.set_cons_zero, List.set_cons_succ]
      refine wpAnyH_ready (rs := [2]) (by kernel_rfl) (by simp) ?_
      refine AllReadyH.cons (by simp only [List.getElem?_toArray, List.getElem?_cons_succ, List.getElem?_cons_zero]; rfl) (fun K hK => ?_) AllReadyH.nil
      rw [if_pos (by rfl)]
      refine num_store_wp (.tmp 4) (.tmp 31) rfl HO.out.drew 2 (m' := (a / b)) (s' := false) rfl rfl rfl ?_
      intro w21 hO21
      replace hO21 : Own w w21 [(gA, a, ga), (gB, b, gb), (gQ, (a / b), false), (gS, 0, false), (gq, (a / b), false), (gr, (a % b), false)] := hO21
      refine hK.out _ _ ⟨_, _, _, _, hO21⟩ (fun hHeld2 => ?_)
      clear hK K
      try simp only [Act.put, List.setIfInBounds_toArray, List.set_cons_zero, List.set_cons_succ]
      refine wpAnyH_ready (rs := [3]) (by kernel_rfl) (by simp) ?_
      refine AllReadyH.cons (by simp only [List.getElem?_toArray, List.getElem?_cons_succ, List.getElem?_cons_zero]; rfl) (fun K hK => ?_) AllReadyH.nil
      rw [if_pos (by rfl)]
      refine num_store_wp (.tmp 5) (.tmp 32) rfl hO21 3 (m' := (a % b)) (s' := false) rfl rfl rfl ?_
      intro w22 hO22
      replace hO22 : Own w w22 [(gA, a, ga), (gB, b, gb), (gQ, (a / b), false), (gS, (a % b), false), (gq, (a / b), false), (gr, (a % b), false)] := hO22
      refine hK.out _ _ ⟨_, _, _, _, hO22⟩ (fun hHeld3 => ?_)
      clear hK K
      try simp only [Act.put, List.setIfInBounds_toArray, List.set_cons_zero, List.set_cons_succ]
      refine wpAnyH_done (by kernel_rfl) ?_ _
      have HO2 := Aside0.mk hO22
      clear hO21 hO22
      clear hHeld hHeld2 hHeld3
      go_wp2
      exact bodyPost_ret (num_result2 rfl HO2.out 2 3 rfl rfl _ rfl rfl) rfl ⟨rfl, HO2.out.below⟩
    | succ k =>
      obtain rfl : i = (k : Int) := by have := HI.out; omega
      have hd : decide ((0 : Int) ≤ (k : Int)) = true := decide_eq_true (by omega)
      have hd2 : (0 : Int) ≤ (k : Int) := by omega
      have hd3 : (k : Int) < 136 := by have := HK.out; omega
      have HK1 : Aside0 (k < 136) := ⟨by have := HK.out; omega⟩
      have zA := HO.out.cell 0 k rfl HK1.out
      obtain ⟨R, hR⟩ : ∃ R, 2 * (a / 2 ^ (k + 1) % b) + (if a.testBit k then 1 else 0) = R := ⟨_, rfl⟩
      have hst0 := part_eq HB0.out hR.symm
      have hRl : R < 2 ^ 136 := by
        have := Nat.mod_lt (a / 2 ^ (k + 1)) HB0.out
        have h1 := HB65.out
        have h2 : (if a.testBit k then 1 else 0) ≤ 1 := by split <;> omega
        have h3 : (2 : Nat) ^ 136 = 2 ^ 65 * 2 ^ 71 := by decide
        have h4 : (2 : Nat) ^ 71 = 2361183241434822606848 := by decide
        omega
      have HBL := Aside0.mk (fun w => num_below R b false gb hRl (Nat.lt_of_lt_of_le HB65.out (Nat.pow_le_pow_right (by decide) (by decide))) w)
      have hz := setb_zero (a / 2 ^ (k + 1) % b) (a.testBit k)
      rw [hR] at hz
      have HR := Aside0.mk hz
      clear hR hRl hz
      by_cases hlt : R < b
      · have hst := hst0.1 hlt
        rw [decide_eq_true hlt] at HBL
        clear hst0 hlt
        cases hxa : a.testBit k <;> rw [hxa] at HR
        case true =>
          rw [hxa] at zA
          have HS := Aside0.mk hst
          clear hst
          have HX := Aside0.mk hxa
          clear hxa
          go_upto_region 7 with (first | ((with_reducible refine gate_dst (N := 13) rfl ?_); refine num_load ?hg (N := 13) ?hd (.tmp 7) ?ho HO.out 5 (g := gr) (m := (a / 2 ^ (k + 1) % b)) (s := false) ?hi ?hx ?_; (case hd => rfl); (case hg => rfl); (case ho => rfl); (case hi => rfl); (case hx => rfl)) | (go_at_call 64; (with_reducible refine (num_twice _ _ _).mono ?_); rintro e_ w5 ⟨rfl, hb_⟩; clear zA; have n0_ : Aside0 (Own w w5 [(gA, a, ga), (gB, b, gb), (gQ, 0, false), (gS, 0, false), (gq, (2 ^ (k + 1) * (a / 2 ^ (k + 1) / b)), false), (gr, (a / 2 ^ (k + 1) % b), false)]) := ⟨HO.out.call hb_⟩; clear HO hb_; have HO := n0_; clear n0_; have zA := HO.out.cell 0 k rfl HK1.out; rw [HX.out] at zA) | ((with_reducible refine gate_store (t := 84) (p := 7) (v := .tmp 14) rfl ?_); refine num_store ?hg (.tmp 7) (.tmp 14) ?ho HO.out 5 (g := gr) (m := (a / 2 ^ (k + 1) % b)) (s := false) (m' := (2 * (a / 2 ^ (k + 1) % b))) (s' := false) ?hi ?hx ?hy ?_; (case hg => rfl); (case ho => rfl); (case hi => rfl); (case hx => rfl); (case hy => rfl); intro w6 hO_; have n0_ : Aside0 (Own w w6 [(gA, a, ga), (gB, b, gb), (gQ, 0, false), (gS, 0, false), (gq, (2 ^ (k + 1) * (a / 2 ^ (k + 1) / b)), false), (gr, (2 * (a / 2 ^ (k + 1) % b)), false)]) := ⟨hO_⟩; clear HO hO_; have HO := n0_; clear n0_; clear zA; have zA := HO.out.cell 0 k rfl HK1.out; rw [HX.out] at zA; have z0 := HO.out.cell 5 0 rfl (by decide); have zf := HO.out.free 5 0 rfl))
          have n0_ : Aside0 (∀ W : World, Own w W [(gA, a, ga), (gB, b, gb), (gQ, 0, false), (gS, 0, false), (gq, (2 ^ (k + 1) * (a / 2 ^ (k + 1) / b)), false), (gr, (setb (2 * (a / 2 ^ (k + 1) % b)) 0 true), false)] → Own w W [(gA, a, ga), (gB, b, gb), (gQ, 0, false), (gS, 0, false), (gq, (2 ^ (k + 1) * (a / 2 ^ (k + 1) / b)), false), (gr, R, false)]) := ⟨fun W h => by rw [HR.out] at h; exact h⟩
          refine num_abs (w0 := w) (l := [(gA, a, ga), (gB, b, gb), (gQ, 0, false), (gS, 0, false), (gq, (2 ^ (k + 1) * (a / 2 ^ (k + 1) / b)), false), (gr, R, false)]) (n0_.out _ (HO.out.bit 5 0 rfl (by decide) true)) ?_
          intro w8 hO_
          clear HO n0_ z0 zf zA
          have HO := Aside0.mk hO_
          clear hO_
          go_wp2_with (first | ((with_reducible refine gate_dst (N := 21) rfl ?_); refine num_load ?hg (N := 21) ?hd (.tmp 7) ?ho HO.out 5 (g := gr) (m := R) (s := false) ?hi ?hx ?_; (case hd => rfl); (case hg => rfl); (case ho => rfl); (case hi => rfl); (case hx => rfl)) | ((with_reducible refine gate_dst (N := 22) rfl ?_); refine num_load ?hg (N := 22) ?hd (.tmp 3) ?ho HO.out 1 (g := gB) (m := b) (s := gb) ?hi ?hx ?_; (case hd => rfl); (case hg => rfl); (case ho => rfl); (case hi => rfl); (case hx => rfl)) | (go_at_call 65; (with_reducible refine (HBL.out _).mono ?_); rintro e_ w9 ⟨rfl, hb_⟩; have n0_ : Aside0 (Own w w9 [(gA, a, ga), (gB, b, gb), (gQ, 0, false), (gS, 0, false), (gq, (2 ^ (k + 1) * (a / 2 ^ (k + 1) / b)), false), (gr, R, false)]) := ⟨HO.out.call hb_⟩; clear HO hb_; have HO := n0_; clear n0_))
          go_roundg k
          case measure => omega
          case rel => exact ⟨(k : Int) - 1, by first | rfl | go_num, ⟨by omega⟩, ⟨by have := HK.out; omega⟩, ⟨by have h := HO.out; rw [HS.out.1, HS.out.2] at h; exact h⟩⟩
        case false =>
          rw [hxa] at zA
          have HS := Aside0.mk hst
          clear hst
          have HX := Aside0.mk hxa
          clear hxa
          go_upto_region 7 with (first | ((with_reducible refine gate_dst (N := 13) rfl ?_); refine num_load ?hg (N := 13) ?hd (.tmp 7) ?ho HO.out 5 (g := gr) (m := (a / 2 ^ (k + 1) % b)) (s := false) ?hi ?hx ?_; (case hd => rfl); (case hg => rfl); (case ho => rfl); (case hi => rfl); (case hx => rfl)) | (go_at_call 64; (with_reducible refine (num_twice _ _ _).mono ?_); rintro e_ w5 ⟨rfl, hb_⟩; clear zA; have n0_ : Aside0 (Own w w5 [(gA, a, ga), (gB, b, gb), (gQ, 0, false), (gS, 0, false), (gq, (2 ^ (k + 1) * (a / 2 ^ (k + 1) / b)), false), (gr, (a / 2 ^ (k + 1) % b), false)]) := ⟨HO.out.call hb_⟩; clear HO hb_; have HO := n0_; clear n0_; have zA := HO.out.cell 0 k rfl HK1.out; rw [HX.out] at zA) | ((with_reducible refine gate_store (t := 84) (p := 7) (v := .tmp 14) rfl ?_); refine num_store ?hg (.tmp 7) (.tmp 14) ?ho HO.out 5 (g := gr) (m := (a / 2 ^ (k + 1) % b)) (s := false) (m' := (2 * (a / 2 ^ (k + 1) % b))) (s' := false) ?hi ?hx ?hy ?_; (case hg => rfl); (case ho => rfl); (case hi => rfl); (case hx => rfl); (case hy => rfl); intro w6 hO_; have n0_ : Aside0 (Own w w6 [(gA, a, ga), (gB, b, gb), (gQ, 0, false), (gS, 0, false), (gq, (2 ^ (k + 1) * (a / 2 ^ (k + 1) / b)), false), (gr, (2 * (a / 2 ^ (k + 1) % b)), false)]) := ⟨hO_⟩; clear HO hO_; have HO := n0_; clear n0_; clear zA; have zA := HO.out.cell 0 k rfl HK1.out; rw [HX.out] at zA; have z0 := HO.out.cell 5 0 rfl (by decide); have zf := HO.out.free 5 0 rfl))
          have n0_ : Aside0 (∀ W : World, Own w W [(gA, a, ga), (gB, b, gb), (gQ, 0, false), (gS, 0, false), (gq, (2 ^ (k + 1) * (a / 2 ^ (k + 1) / b)), false), (gr, (setb (2 * (a / 2 ^ (k + 1) % b)) 0 false), false)] → Own w W [(gA, a, ga), (gB, b, gb), (gQ, 0, false), (gS, 0, false), (gq, (2 ^ (k + 1) * (a / 2 ^ (k + 1) / b)), false), (gr, R, false)]) := ⟨fun W h => by rw [HR.out] at h; exact h⟩
          refine num_abs (w0 := w) (l := [(gA, a, ga), (gB, b, gb), (gQ, 0, false), (gS, 0, false), (gq, (2 ^ (k + 1) * (a / 2 ^ (k + 1) / b)), false), (gr, R, false)]) (n0_.out _ (HO.out.bit 5 0 rfl (by decide) false)) ?_
          intro w8 hO_
          clear HO n0_ z0 zf zA
          have HO := Aside0.mk hO_
          clear hO_
          go_wp2_with (first | ((with_reducible refine gate_dst (N := 21) rfl ?_); refine num_load ?hg (N := 21) ?hd (.tmp 7) ?ho HO.out 5 (g := gr) (m := R) (s := false) ?hi ?hx ?_; (case hd => rfl); (case hg => rfl); (case ho => rfl); (case hi => rfl); (case hx => rfl)) | ((with_reducible refine gate_dst (N := 22) rfl ?_); refine num_load ?hg (N := 22) ?hd (.tmp 3) ?ho HO.out 1 (g := gB) (m := b) (s := gb) ?hi ?hx ?_; (case hd => rfl); (case hg => rfl); (case ho => rfl); (case hi => rfl); (case hx => rfl)) | (go_at_call 65; (with_reducible refine (HBL.out _).mono ?_); rintro e_ w9 ⟨rfl, hb_⟩; have n0_ : Aside0 (Own w w9 [(gA, a, ga), (gB, b, gb), (gQ, 0, false), (gS, 0, false), (gq, (2 ^ (k + 1) * (a / 2 ^ (k + 1) / b)), false), (gr, R, false)]) := ⟨HO.out.call hb_⟩; clear HO hb_; have HO := n0_; clear n0_))
          go_roundg k
          case measure => omega
          case rel => exact ⟨(k : Int) - 1, by first | rfl | go_num, ⟨by omega⟩, ⟨by have := HK.out; omega⟩, ⟨by have h := HO.out; rw [HS.out.1, HS.out.2] at h; exact h⟩⟩
      · have hst := hst0.2 (Nat.le_of_not_lt hlt)
        rw [decide_eq_false hlt] at HBL
        have HLE := Aside0.mk (Nat.le_of_not_lt hlt)
        clear hst0 hlt
        cases hxa : a.testBit k <;> rw [hxa] at HR
        case true =>
          rw [hxa] at zA
          have HS := Aside0.mk hst
          clear hst
          have HX := Aside0.mk hxa
          clear hxa
          go_upto_region 7 with (first | ((with_reducible refine gate_dst (N := 13) rfl ?_); refine num_load ?hg (N := 13) ?hd (.tmp 7) ?ho HO.out 5 (g := gr) (m := (a / 2 ^ (k + 1) % b)) (s := false) ?hi ?hx ?_; (case hd => rfl); (case hg => rfl); (case ho => rfl); (case hi => rfl); (case hx => rfl)) | (go_at_call 64; (with_reducible refine (num_twice _ _ _).mono ?_); rintro e_ w5 ⟨rfl, hb_⟩; clear zA; have n0_ : Aside0 (Own w w5 [(gA, a, ga), (gB, b, gb), (gQ, 0, false), (gS, 0, false), (gq, (2 ^ (k + 1) * (a / 2 ^ (k + 1) / b)), false), (gr, (a / 2 ^ (k + 1) % b), false)]) := ⟨HO.out.call hb_⟩; clear HO hb_; have HO := n0_; clear n0_; have zA := HO.out.cell 0 k rfl HK1.out; rw [HX.out] at zA) | ((with_reducible refine gate_store (t := 84) (p := 7) (v := .tmp 14) rfl ?_); refine num_store ?hg (.tmp 7) (.tmp 14) ?ho HO.out 5 (g := gr) (m := (a / 2 ^ (k + 1) % b)) (s := false) (m' := (2 * (a / 2 ^ (k + 1) % b))) (s' := false) ?hi ?hx ?hy ?_; (case hg => rfl); (case ho => rfl); (case hi => rfl); (case hx => rfl); (case hy => rfl); intro w6 hO_; have n0_ : Aside0 (Own w w6 [(gA, a, ga), (gB, b, gb), (gQ, 0, false), (gS, 0, false), (gq, (2 ^ (k + 1) * (a / 2 ^ (k + 1) / b)), false), (gr, (2 * (a / 2 ^ (k + 1) % b)), false)]) := ⟨hO_⟩; clear HO hO_; have HO := n0_; clear n0_; clear zA; have zA := HO.out.cell 0 k rfl HK1.out; rw [HX.out] at zA; have z0 := HO.out.cell 5 0 rfl (by decide); have zf := HO.out.free 5 0 rfl))
          have n0_ : Aside0 (∀ W : World, Own w W [(gA, a, ga), (gB, b, gb), (gQ, 0, false), (gS, 0, false), (gq, (2 ^ (k + 1) * (a / 2 ^ (k + 1) / b)), false), (gr, (setb (2 * (a / 2 ^ (k + 1) % b)) 0 true), false)] → Own w W [(gA, a, ga), (gB, b, gb), (gQ, 0, false), (gS, 0, false), (gq, (2 ^ (k + 1) * (a / 2 ^ (k + 1) / b)), false), (gr, R, false)]) := ⟨fun W h => by rw [HR.out] at h; exact h⟩
          refine num_abs (w0 := w) (l := [(gA, a, ga), (gB, b, gb), (gQ, 0, false), (gS, 0, false), (gq, (2 ^ (k + 1) * (a / 2 ^ (k + 1) / b)), false), (gr, R, false)]) (n0_.out _ (HO.out.bit 5 0 rfl (by decide) true)) ?_
          intro w8 hO_
          clear HO n0_ z0 zf zA
          have HO := Aside0.mk hO_
          clear hO_
          go_wp2_with (first | ((with_reducible refine gate_dst (N := 21) rfl ?_); refine num_load ?hg (N := 21) ?hd (.tmp 7) ?ho HO.out 5 (g := gr) (m := R) (s := false) ?hi ?hx ?_; (case hd => rfl); (case hg => rfl); (case ho => rfl); (case hi => rfl); (case hx => rfl)) | ((with_reducible refine gate_dst (N := 22) rfl ?_); refine num_load ?hg (N := 22) ?hd (.tmp 3) ?ho HO.out 1 (g := gB) (m := b) (s := gb) ?hi ?hx ?_; (case hd => rfl); (case hg => rfl); (case ho => rfl); (case hi => rfl); (case hx => rfl)) | (go_at_call 65; (with_reducible refine (HBL.out _).mono ?_); rintro e_ w9 ⟨rfl, hb_⟩; have n0_ : Aside0 (Own w w9 [(gA, a, ga), (gB, b, gb), (gQ, 0, false), (gS, 0, false), (gq, (2 ^ (k + 1) * (a / 2 ^ (k + 1) / b)), false), (gr, R, false)]) := ⟨HO.out.call hb_⟩; clear HO hb_; have HO := n0_; clear n0_) | ((with_reducible refine gate_dst (N := 25) rfl ?_); refine num_load ?hg (N := 25) ?hd (.tmp 7) ?ho HO.out 5 (g := gr) (m := R) (s := false) ?hi ?hx ?_; (case hd => rfl); (case hg => rfl); (case ho => rfl); (case hi => rfl); (case hx => rfl)) | ((with_reducible refine gate_dst (N := 26) rfl ?_); refine num_load ?hg (N := 26) ?hd (.tmp 3) ?ho HO.out 1 (g := gB) (m := b) (s := gb) ?hi ?hx ?_; (case hd => rfl); (case hg => rfl); (case ho => rfl); (case hi => rfl); (case hx => rfl)) | (go_at_call 69; (with_reducible refine (num_less _ _ _ _ HLE.out _).mono ?_); rintro e_ w10 ⟨rfl, hb_⟩; have n0_ : Aside0 (Own w w10 [(gA, a, ga), (gB, b, gb), (gQ, 0, false), (gS, 0, false), (gq, (2 ^ (k + 1) * (a / 2 ^ (k + 1) / b)), false), (gr, R, false)]) := ⟨HO.out.call hb_⟩; clear HO hb_; have HO := n0_; clear n0_) | ((with_reducible refine gate_store (t := 84) (p := 7) (v := .tmp 27) rfl ?_); refine num_store ?hg (.tmp 7) (.tmp 27) ?ho HO.out 5 (g := gr) (m := R) (s := false) (m' := (R - b)) (s' := false) ?hi ?hx ?hy ?_; (case hg => rfl); (case ho => rfl); (case hi => rfl); (case hx => rfl); (case hy => rfl); intro w11 hO_; have n0_ : Aside0 (Own w w11 [(gA, a, ga), (gB, b, gb), (gQ, 0, false), (gS, 0, false), (gq, (2 ^ (k + 1) * (a / 2 ^ (k + 1) / b)), false), (gr, (R - b), false)]) := ⟨hO_⟩; clear HO hO_; have HO := n0_; clear n0_; have zq := HO.out.cell 4 k rfl HK1.out; have zqf := HO.out.free 4 k rfl))
          go_roundg k
          case measure => omega
          case rel => exact ⟨(k : Int) - 1, by first | rfl | go_num, ⟨by omega⟩, ⟨by have := HK.out; omega⟩, ⟨by have h := HO.out.bit 4 k rfl HK1.out true; rw [← HS.out.1, ← HS.out.2]; exact h⟩⟩
        case false =>
          rw [hxa] at zA
          have HS := Aside0.mk hst
          clear hst
          have HX := Aside0.mk hxa
          clear hxa
          go_upto_region 7 with (first | ((with_reducible refine gate_dst (N := 13) rfl ?_); refine num_load ?hg (N := 13) ?hd (.tmp 7) ?ho HO.out 5 (g := gr) (m := (a / 2 ^ (k + 1) % b)) (s := false) ?hi ?hx ?_; (case hd => rfl); (case hg => rfl); (case ho => rfl); (case hi => rfl); (case hx => rfl)) | (go_at_call 64; (with_reducible refine (num_twice _ _ _).mono ?_); rintro e_ w5 ⟨rfl, hb_⟩; clear zA; have n0_ : Aside0 (Own w w5 [(gA, a, ga), (gB, b, gb), (gQ, 0, false), (gS, 0, false), (gq, (2 ^ (k + 1) * (a / 2 ^ (k + 1) / b)), false), (gr, (a / 2 ^ (k + 1) % b), false)]) := ⟨HO.out.call hb_⟩; clear HO hb_; have HO := n0_; clear n0_; have zA := HO.out.cell 0 k rfl HK1.out; rw [HX.out] at zA) | ((with_reducible refine gate_store (t := 84) (p := 7) (v := .tmp 14) rfl ?_); refine num_store ?hg (.tmp 7) (.tmp 14) ?ho HO.out 5 (g := gr) (m := (a / 2 ^ (k + 1) % b)) (s := false) (m' := (2 * (a / 2 ^ (k + 1) % b))) (s' := false) ?hi ?hx ?hy ?_; (case hg => rfl); (case ho => rfl); (case hi => rfl); (case hx => rfl); (case hy => rfl); intro w6 hO_; have n0_ : Aside0 (Own w w6 [(gA, a, ga), (gB, b, gb), (gQ, 0, false), (gS, 0, false), (gq, (2 ^ (k + 1) * (a / 2 ^ (k + 1) / b)), false), (gr, (2 * (a / 2 ^ (k + 1) % b)), false)]) := ⟨hO_⟩; clear HO hO_; have HO := n0_; clear n0_; clear zA; have zA := HO.out.cell 0 k rfl HK1.out; rw [HX.out] at zA; have z0 := HO.out.cell 5 0 rfl (by decide); have zf := HO.out.free 5 0 rfl))
          have n0_ : Aside0 (∀ W : World, Own w W [(gA, a, ga), (gB, b, gb), (gQ, 0, false), (gS, 0, false), (gq, (2 ^ (k + 1) * (a / 2 ^ (k + 1) / b)), false), (gr, (setb (2 * (a / 2 ^ (k + 1) % b)) 0 false), false)] → Own w W [(gA, a, ga), (gB, b, gb), (gQ, 0, false), (gS, 0, false), (gq, (2 ^ (k + 1) * (a / 2 ^ (k + 1) / b)), false), (gr, R, false)]) := ⟨fun W h => by rw [HR.out] at h; exact h⟩
          refine num_abs (w0 := w) (l := [(gA, a, ga), (gB, b, gb), (gQ, 0, false), (gS, 0, false), (gq, (2 ^ (k + 1) * (a / 2 ^ (k + 1) / b)), false), (gr, R, false)]) (n0_.out _ (HO.out.bit 5 0 rfl (by decide) false)) ?_
          intro w8 hO_
          clear HO n0_ z0 zf zA
          have HO := Aside0.mk hO_
          clear hO_
          go_wp2_with (first | ((with_reducible refine gate_dst (N := 21) rfl ?_); refine num_load ?hg (N := 21) ?hd (.tmp 7) ?ho HO.out 5 (g := gr) (m := R) (s := false) ?hi ?hx ?_; (case hd => rfl); (case hg => rfl); (case ho => rfl); (case hi => rfl); (case hx => rfl)) | ((with_reducible refine gate_dst (N := 22) rfl ?_); refine num_load ?hg (N := 22) ?hd (.tmp 3) ?ho HO.out 1 (g := gB) (m := b) (s := gb) ?hi ?hx ?_; (case hd => rfl); (case hg => rfl); (case ho => rfl); (case hi => rfl); (case hx => rfl)) | (go_at_call 65; (with_reducible refine (HBL.out _).mono ?_); rintro e_ w9 ⟨rfl, hb_⟩; have n0_ : Aside0 (Own w w9 [(gA, a, ga), (gB, b, gb), (gQ, 0, false), (gS, 0, false), (gq, (2 ^ (k + 1) * (a / 2 ^ (k + 1) / b)), false), (gr, R, false)]) := ⟨HO.out.call hb_⟩; clear HO hb_; have HO := n0_; clear n0_) | ((with_reducible refine gate_dst (N := 25) rfl ?_); refine num_load ?hg (N := 25) ?hd (.tmp 7) ?ho HO.out 5 (g := gr) (m := R) (s := false) ?hi ?hx ?_; (case hd => rfl); (case hg => rfl); (case ho => rfl); (case hi => rfl); (case hx => rfl)) | ((with_reducible refine gate_dst (N := 26) rfl ?_); refine num_load ?hg (N := 26) ?hd (.tmp 3) ?ho HO.out 1 (g := gB) (m := b) (s := gb) ?hi ?hx ?_; (case hd => rfl); (case hg => rfl); (case ho => rfl); (case hi => rfl); (case hx => rfl)) | (go_at_call 69; (with_reducible refine (num_less _ _ _ _ HLE.out _).mono ?_); rintro e_ w10 ⟨rfl, hb_⟩; have n0_ : Aside0 (Own w w10 [(gA, a, ga), (gB, b, gb), (gQ, 0, false), (gS, 0, false), (gq, (2 ^ (k + 1) * (a / 2 ^ (k + 1) / b)), false), (gr, R, false)]) := ⟨HO.out.call hb_⟩; clear HO hb_; have HO := n0_; clear n0_) | ((with_reducible refine gate_store (t := 84) (p := 7) (v := .tmp 27) rfl ?_); refine num_store ?hg (.tmp 7) (.tmp 27) ?ho HO.out 5 (g := gr) (m := R) (s := false) (m' := (R - b)) (s' := false) ?hi ?hx ?hy ?_; (case hg => rfl); (case ho => rfl); (case hi => rfl); (case hx => rfl); (case hy => rfl); intro w11 hO_; have n0_ : Aside0 (Own w w11 [(gA, a, ga), (gB, b, gb), (gQ, 0, false), (gS, 0, false), (gq, (2 ^ (k + 1) * (a / 2 ^ (k + 1) / b)), false), (gr, (R - b), false)]) := ⟨hO_⟩; clear HO hO_; have HO := n0_; clear n0_; have zq := HO.out.cell 4 k rfl HK1.out; have zqf := HO.out.free 4 k rfl))
          go_roundg k
          case measure => omega
          case rel => exact ⟨(k : Int) - 1, by first | rfl | go_num, ⟨by omega⟩, ⟨by have := HK.out; omega⟩, ⟨by have h := HO.out.bit 4 k rfl HK1.out true; rw [← HS.out.1, ← HS.out.2]; exact h⟩⟩

/-! ### jobberref01_told: function 67 (by hand; for other hand texts alone) -/
theorem sv_abs (x : Int) : sv x.natAbs (decide (x < 0)) = x := by
  unfold sv
  by_cases h : x < 0 <;> simp [h] <;> omega
theorem sv_minus (a : Nat) (g : Bool) : sv a (!g && !decide (a = 0)) = - sv a g := by
  unfold sv
  by_cases h : a = 0 <;> cases g <;> simp [h]
theorem sv_times (a b : Nat) (ga gb : Bool) : sv (a * b) ((ga != gb) && !decide (a * b = 0)) = sv a ga * sv b gb := by
  have hz : ∀ n : Nat, sv n (!decide (n = 0)) = -(n : Int) := sv_nz
  have hf : ∀ n : Nat, sv n false = n := fun n => rfl
  have ht : ∀ n : Nat, sv n true = -(n : Int) := fun n => rfl
  cases ga <;> cases gb <;> simp only [bne_self_eq_false, Bool.false_and, Bool.true_bne, Bool.false_bne, Bool.not_false, Bool.true_and, hz, hf, ht, Int.natCast_mul, Int.neg_mul, Int.mul_neg, Int.neg_neg]
def toldV (v : Int) : Int × Int := if -9223372036854775808 ≤ v ∧ v ≤ 9223372036854775807 then (v, 0) else (0, 10)
theorem told_ok {m : Nat} {s : Bool} {x : Int} (h : BackR m s x true) : toldV (sv m s) = (x, 0) := by
  have hf : -9223372036854775808 ≤ sv m s ∧ sv m s ≤ 9223372036854775807 := h.2.1 rfl
  unfold toldV
  rw [if_pos hf, h.1 rfl]
theorem told_no {m : Nat} {s : Bool} {x : Int} (h : BackR m s x false) : toldV (sv m s) = (0, 10) := by
  unfold toldV
  rw [if_neg (fun c => by have := h.2.2 c; cases this)]
set_option maxHeartbeats 8000000 in
set_option maxRecDepth 100000 in
theorem num_told (m : Nat) (s : Bool) (hm : m < 2 ^ 136) (w : World) :
    Calls Try.prog 67 #[.agg (numC m s)] w fun e w' => e = .returned (.tuple #[.int .i64 (toldV (sv m s)).1, .int .i64 (toldV (sv m s)).2]) ∧ Below w.heap.size w w' := by
  have HO : Aside0 (Own w w []) := ⟨Own.start w⟩
  have HM := Aside0.mk (fun w => num_back m s hm w)
  have HOK := Aside0.mk (fun x h => told_ok (m := m) (s := s) (x := x) h)
  have HNO := Aside0.mk (fun x h => told_no (m := m) (s := s) (x := x) h)
  obtain ⟨r, hr⟩ : ∃ r, toldV (sv m s) = r := ⟨_, rfl⟩
  rw [hr] at HOK HNO
  rw [hr]
  clear hm hr
  go_enter Try.func67, Try.ntmps67
  go_wp2_with (first | ((with_reducible refine gate_dst (N := 1) rfl ?_); refine num_new ?hg (N := 1) ?hd (cs := numC m s) HO.out m s ?hc ?hr ?_; (case hc => first | rfl | exact zcNum); (case hd => rfl); (case hg => rfl); (case hr => first | (go_simp; done) | (go_simp; rfl)); intro gA w1 hO_; have n0_ : Aside0 (Own w w1 [(gA, m, s)]) := ⟨hO_⟩; clear HO hO_; have HO := n0_; clear n0_) | ((with_reducible refine gate_dst (N := 7) rfl ?_); refine num_load ?hg (N := 7) ?hd (.tmp 1) ?ho HO.out 0 (g := gA) (m := m) (s := s) ?hi ?hx ?_; (case hd => rfl); (case hg => rfl); (case ho => rfl); (case hi => rfl); (case hx => rfl)) | (go_at_call 71; (with_reducible refine (HM.out _).mono ?_); rintro e_ w2 ⟨x, ok, rfl, hk_, hb_⟩; have n0_ : Aside0 (Own w w2 [(gA, m, s)]) := ⟨HO.out.call hb_⟩; clear HO hb_; have HO := n0_; clear n0_; have HB := Aside0.mk hk_; clear hk_; cases ok))
  · have hr := HNO.out _ HB.out
    subst hr
    go_wp2
    go_ret2
    exact ⟨rfl, HO.out.below⟩
  · have hr := HOK.out _ HB.out
    subst hr
    go_wp2
    go_ret2
    exact ⟨rfl, HO.out.below⟩

/-! ### jobberref01_Div: function 46 (by hand) -/
theorem num_load_wp {o : Oper} {a : Act} {K : Act → World → Prop} {Q : Exit → Act → World → Prop} {w0 W : World} {l : NB} (x : Operand) (ho : o.op = .load 84 x) (hO : Own w0 W l) (i : Nat) {g m : Nat} {s : Bool} (hi : l[i]? = some (g, m, s)) (hx : a.eval x = .pointer (some ⟨g, 0, none⟩))
    (h : K (a.put o.dst (.agg (numC m s))) W) : o.wp Try.prog a W K Q := wp_load_row 84 x ho g hx 84 (numC m s) (0, 0) _ (hO.blk i hi) Try.underlying84 rfl (sizeNum _ _) h
theorem q_up0 {q : Nat} (h : q < 2 ^ 135) : q < 2 ^ 136 := Nat.lt_of_lt_of_le h (Nat.pow_le_pow_right (by decide) (by decide))
theorem q_up1 {q : Nat} (h : q < 2 ^ 135) : q + 1 < 2 ^ 136 := by
  have p136 : (2 : Nat) ^ 136 = 2 ^ 135 + 2 ^ 135 := by decide
  have := Nat.two_pow_pos 135
  omega
theorem Own.init {w0 W : World} {l : NB} {x : Nat × Nat × Bool} (h : Own w0 W (l ++ [x])) : Own w0 W l := by
  have hl : ∀ (i : Nat) (y : Nat × Nat × Bool), l[i]? = some y → (l ++ [x])[i]? = some y := fun i y hy => by
    rw [List.getElem?_append_left (List.getElem?_eq_some_iff.1 hy).1]; exact hy
  exact ⟨h.1, fun i y hy => h.2.1 i y (hl i y hy), fun i j y z hy hz hij => h.2.2 i j y z (hl i y hy) (hl j z hz) hij⟩
/-- away from nought by one? -/
def divAway (r0 d q0 : Nat) (ng : Bool) (r : Int) : Bool := if r0 = 0 then false else if r = 1 then ng else if r = 2 then !ng else (decide (d < 2 * r0) || (!decide (2 * r0 < d) && q0.testBit 0))
def divNeg (a b c : Int) : Bool := ((decide (a < 0) != decide (b < 0)) && !decide (a.natAbs * b.natAbs = 0)) != decide (c < 0)
def divV (a b c r : Int) : Int :=
  if divNeg a b c then -((a.natAbs * b.natAbs / c.natAbs + (if divAway (a.natAbs * b.natAbs % c.natAbs) c.natAbs (a.natAbs * b.natAbs / c.natAbs) (divNeg a b c) r then 1 else 0) : Nat) : Int)
  else ((a.natAbs * b.natAbs / c.natAbs + (if divAway (a.natAbs * b.natAbs % c.natAbs) c.natAbs (a.natAbs * b.natAbs / c.natAbs) (divNeg a b c) r then 1 else 0) : Nat) : Int)
def jobberref01_Div.f (a0 a1 a2 a3 : Int) : Option (Int × Int) := if (-9223372036854775808 ≤ a0 ∧ a0 ≤ 9223372036854775807) ∧ (-9223372036854775808 ≤ a1 ∧ a1 ≤ 9223372036854775807) ∧ (-9223372036854775808 ≤ a2 ∧ a2 ≤ 9223372036854775807) then (if a3 < 1 ∨ 3 < a3 then some (0, 2) else if a2 = 0 then some (0, 11) else some (toldV (divV a0 a1 a2 a3))) else none
theorem div_fin {q : Nat} {ng : Bool} {r1 r2 : Int} (hq : q < 2 ^ 136) (h : toldV (if ng then -(q : Int) else q) = (r1, r2)) : ∃ z : Bool, (∀ w, Calls Try.prog 63 #[.agg (numC q false)] w fun e w' => e = .returned (.bool z) ∧ Below w.heap.size w w') ∧ (∀ w, Calls Try.prog 67 #[.agg (numC q (ng && !z))] w fun e w' => e = .returned (.tuple #[.int .i64 r1, .int .i64 r2]) ∧ Below w.heap.size w w') := by
  refine ⟨decide (q = 0), fun w => num_nought q false hq w, fun w => ?_⟩
  have ht := num_told q (ng && !decide (q = 0)) hq w
  have e : sv q (ng && !decide (q = 0)) = if ng then -(q : Int) else q := by
    cases ng
    · rfl
    · simp only [Bool.true_and, if_true]; exact sv_nz q
  rw [e, h] at ht
  exact ht
set_option maxHeartbeats 40000000 in
set_option maxRecDepth 100000 in
theorem jobberref01_Div.calls (a0 a1 a2 a3 : Int) (r1 r2 : Int) (w : World) (h : jobberref01_Div.f a0 a1 a2 a3 = some (r1, r2)) :
    Calls Try.prog 46 #[.int .i64 a0, .int .i64 a1, .int .i64 a2, .int .i64 a3] w fun e w' => e = .returned (.tuple #[.int .i64 r1, .int .i64 r2]) ∧ Below w.heap.size w w' := by
  unfold jobberref01_Div.f at h
  by_cases hh : (-9223372036854775808 ≤ a0 ∧ a0 ≤ 9223372036854775807) ∧ (-9223372036854775808 ≤ a1 ∧ a1 ≤ 9223372036854775807) ∧ (-9223372036854775808 ≤ a2 ∧ a2 ≤ 9223372036854775807)
  case neg => rw [if_neg hh] at h; cases h
  rw [if_pos hh] at h
  obtain ⟨⟨h1, h2⟩, ⟨h3, h4⟩, h5, h6⟩ := hh
  by_cases c1 : a3 < 1
  · rw [if_pos (.inl c1)] at h
    obtain ⟨rfl, rfl⟩ := Prod.mk.inj (Option.some.inj h)
    have d1 : decide (a3 < 1) = true := decide_eq_true c1
    clear h h1 h2 h3 h4 h5 h6 c1
    go_enter Try.func46, Try.ntmps46
    go_wp2
    go_ret2
    exact ⟨rfl, Below.refl _ _⟩
  have d1 : decide (a3 < 1) = false := decide_eq_false c1
  by_cases c2 : 3 < a3
  · rw [if_pos (.inr c2)] at h
    obtain ⟨rfl, rfl⟩ := Prod.mk.inj (Option.some.inj h)
    have d2 : decide (3 < a3) = true := decide_eq_true c2
    clear h h1 h2 h3 h4 h5 h6 c1 c2
    go_enter Try.func46, Try.ntmps46
    go_wp2
    go_ret2
    exact ⟨rfl, Below.refl _ _⟩
  have d2 : decide (3 < a3) = false := decide_eq_false c2
  rw [if_neg (by omega)] at h
  by_cases c3 : a2 = 0
  · rw [if_pos c3] at h
    obtain ⟨rfl, rfl⟩ := Prod.mk.inj (Option.some.inj h)
    have d3 : (a2 == 0) = true := beq_iff_eq.mpr c3
    clear h h1 h2 h3 h4 h5 h6 c1 c2 c3
    go_enter Try.func46, Try.ntmps46
    go_wp2
    go_ret2
    exact ⟨rfl, Below.refl _ _⟩
  have d3 : (a2 == 0) = false := beq_eq_false_iff_ne.mpr c3
  rw [if_neg c3] at h
  replace h := Option.some.inj h
  have hr3 : a3 = 1 ∨ a3 = 2 ∨ a3 = 3 := by omega
  have HO : Aside0 (Own w w []) := ⟨Own.start w⟩
  have H1 := Aside0.mk (fun w => num_of a0 h1 h2 w)
  have H2 := Aside0.mk (fun w => num_of a1 h3 h4 w)
  have H3 := Aside0.mk (fun w => num_of a2 h5 h6 w)
  have b1 : a0.natAbs ≤ 9223372036854775808 := by omega
  have b2 : a1.natAbs ≤ 9223372036854775808 := by omega
  have b3 : a2.natAbs ≤ 9223372036854775808 := by omega
  have b4 : 0 < a2.natAbs := by omega
  have hmb : a0.natAbs * a1.natAbs ≤ 9223372036854775808 * 9223372036854775808 := Nat.mul_le_mul b1 b2
  have p135 : (2 : Nat) ^ 135 = 43556142965880123323311949751266331066368 := by decide
  have p136 : (2 : Nat) ^ 136 = 87112285931760246646623899502532662132736 := by decide
  have HTI := Aside0.mk (fun w => num_times a0.natAbs a1.natAbs (decide (a0 < 0)) (decide (a1 < 0)) (by omega) (by omega) w)
  have HPA := Aside0.mk (fun w => num_parts (a0.natAbs * a1.natAbs) a2.natAbs ((decide (a0 < 0) != decide (a1 < 0)) && !decide (a0.natAbs * a1.natAbs = 0)) (decide (a2 < 0)) (by omega) b4 (by omega) w)
  have hq135 : a0.natAbs * a1.natAbs / a2.natAbs < 2 ^ 135 := Nat.lt_of_le_of_lt (Nat.div_le_self _ _) (by omega)
  have hrd : a0.natAbs * a1.natAbs % a2.natAbs < a2.natAbs := Nat.mod_lt _ b4
  unfold divV divNeg at h
  obtain ⟨pn, hpn⟩ : ∃ s, ((decide (a0 < 0) != decide (a1 < 0)) && !decide (a0.natAbs * a1.natAbs = 0)) = s := ⟨_, rfl⟩
  obtain ⟨n, hn⟩ : ∃ m, a0.natAbs * a1.natAbs = m := ⟨_, rfl⟩
  rw [hn] at hpn
  rw [hn, hpn] at HTI HPA h
  rw [hn] at hq135 hrd hmb
  obtain ⟨m1, hm1⟩ : ∃ m, a0.natAbs = m := ⟨_, rfl⟩
  obtain ⟨m2, hm2⟩ : ∃ m, a1.natAbs = m := ⟨_, rfl⟩
  obtain ⟨d, hm3⟩ : ∃ m, a2.natAbs = m := ⟨_, rfl⟩
  obtain ⟨s1, hs1⟩ : ∃ s, decide (a0 < 0) = s := ⟨_, rfl⟩
  obtain ⟨s2, hs2⟩ : ∃ s, decide (a1 < 0) = s := ⟨_, rfl⟩
  obtain ⟨cn, hs3⟩ : ∃ s, decide (a2 < 0) = s := ⟨_, rfl⟩
  rw [hm1, hs1] at H1 HTI
  rw [hm2, hs2] at H2 HTI
  rw [hm3, hs3] at H3 HPA h
  rw [hm3] at hq135 hrd b3 b4
  obtain ⟨q0, hq0⟩ : ∃ m, n / d = m := ⟨_, rfl⟩
  obtain ⟨r0, hr0⟩ : ∃ m, n % d = m := ⟨_, rfl⟩
  rw [hq0] at HPA h hq135
  rw [hr0] at HPA h hrd
  have HQB := Aside0.mk hq135
  obtain ⟨ng, hng⟩ : ∃ s, (pn != cn) = s := ⟨_, rfl⟩
  rw [hng] at h
  replace hng : (!(pn == cn)) = ng := hng
  have HV : Aside0 (∀ aw : Bool, divAway r0 d q0 ng a3 = aw → toldV (if ng then -((q0 + (if aw then 1 else 0) : Nat) : Int) else ((q0 + (if aw then 1 else 0) : Nat) : Int)) = (r1, r2)) := ⟨fun aw haw => by rw [← haw]; exact h⟩
  obtain ⟨zr, hzr⟩ : ∃ z, decide (r0 = 0) = z := ⟨_, rfl⟩
  have hnr := fun w => num_nought r0 false (by omega) w
  rw [hzr] at hnr
  have hzr : (decide (r0 = 0) = true ∧ zr = true) ∨ (decide (r0 = 0) = false ∧ zr = false) := by cases zr <;> simp [hzr]
  have hb1 : (decide (d < 2 * r0) = true ∧ ∀ w, Calls Try.prog 65 #[.agg (numC d cn), .agg (numC (2 * r0) false)] w fun e w' => e = .returned (.bool true) ∧ Below w.heap.size w w') ∨ (decide (d < 2 * r0) = false ∧ ∀ w, Calls Try.prog 65 #[.agg (numC d cn), .agg (numC (2 * r0) false)] w fun e w' => e = .returned (.bool false) ∧ Below w.heap.size w w') := by
    have hx := fun w => num_below d (2 * r0) cn false (by omega) (by omega) w
    cases hd : decide (d < 2 * r0) <;> rw [hd] at hx
    · exact .inr ⟨rfl, hx⟩
    · exact .inl ⟨rfl, hx⟩
  have hb2 : (decide (2 * r0 < d) = true ∧ ∀ w, Calls Try.prog 65 #[.agg (numC (2 * r0) false), .agg (numC d cn)] w fun e w' => e = .returned (.bool true) ∧ Below w.heap.size w w') ∨ (decide (2 * r0 < d) = false ∧ ∀ w, Calls Try.prog 65 #[.agg (numC (2 * r0) false), .agg (numC d cn)] w fun e w' => e = .returned (.bool false) ∧ Below w.heap.size w w') := by
    have hx := fun w => num_below (2 * r0) d false cn (by omega) (by omega) w
    cases hd : decide (2 * r0 < d) <;> rw [hd] at hx
    · exact .inr ⟨rfl, hx⟩
    · exact .inl ⟨rfl, hx⟩
  have HO1 := Aside0.mk (fun w => num_of 1 (by decide) (by decide) w)
  obtain ⟨AW, haw⟩ : ∃ AW, divAway r0 d q0 ng a3 = AW := ⟨_, rfl⟩
  have HAW := Aside0.mk haw
  clear haw
  clear h h1 h2 h3 h4 h5 h6 c1 c2 c3 b1 b2 b3 b4 hmb p135 p136 hq135 hrd hpn hn hm1 hm2 hm3 hs1 hs2 hs3 hq0 hr0
  have X1 := Aside0.mk hzr
  have HNR := Aside0.mk hnr
  have X3 := Aside0.mk hb1
  have X4 := Aside0.mk hb2
  have X5 := Aside0.mk hr3
  clear hzr hnr hb1 hb2 hr3
  go_enter Try.func46, Try.ntmps46
  go_upto_if 45 with (first | (go_at_call 56; first | ((with_reducible refine (H1.out _).mono ?_); rintro e_ wH1_ ⟨rfl, hb_⟩; have n0_ : Aside0 (Own w wH1_ []) := ⟨HO.out.call hb_⟩; clear HO hb_; have HO := n0_; clear n0_) | ((with_reducible refine (H2.out _).mono ?_); rintro e_ wH2_ ⟨rfl, hb_⟩; have n0_ : Aside0 (Own w wH2_ []) := ⟨HO.out.call hb_⟩; clear HO hb_; have HO := n0_; clear n0_) | ((with_reducible refine (H3.out _).mono ?_); rintro e_ wH3_ ⟨rfl, hb_⟩; have n0_ : Aside0 (Own w wH3_ [(gP, n, pn)]) := ⟨HO.out.call hb_⟩; clear HO hb_; have HO := n0_; clear n0_)) | (go_at_call 55; (with_reducible refine (HTI.out _).mono ?_); rintro e_ w3 ⟨rfl, hb_⟩; have n0_ : Aside0 (Own w w3 []) := ⟨HO.out.call hb_⟩; clear HO hb_; have HO := n0_; clear n0_) | ((with_reducible refine gate_dst (N := 10) rfl ?_); refine num_new ?hg (N := 10) ?hd (cs := Try.zeroCells84) HO.out 0 false ?hc ?hr ?_; (case hc => first | rfl | exact zcNum); (case hd => rfl); (case hg => rfl); (case hr => first | (go_simp; done) | (go_simp; rfl)); intro gP w4 hO_; have n0_ : Aside0 (Own w w4 [(gP, 0, false)]) := ⟨hO_⟩; clear HO hO_; have HO := n0_; clear n0_) | ((with_reducible refine gate_store (t := 84) (p := 10) (v := .tmp 29) rfl ?_); refine num_store ?hg (.tmp 10) (.tmp 29) ?ho HO.out 0 (g := gP) (m := 0) (s := false) (m' := n) (s' := pn) ?hi ?hx ?hy ?_; (case hg => rfl); (case ho => rfl); (case hi => rfl); (case hx => rfl); (case hy => rfl); intro w5 hO_; have n0_ : Aside0 (Own w w5 [(gP, n, pn)]) := ⟨hO_⟩; clear HO hO_; have HO := n0_; clear n0_) | ((with_reducible refine gate_dst (N := 11) rfl ?_); refine num_new ?hg (N := 11) ?hd (cs := Try.zeroCells84) HO.out 0 false ?hc ?hr ?_; (case hc => first | rfl | exact zcNum); (case hd => rfl); (case hg => rfl); (case hr => first | (go_simp; done) | (go_simp; rfl)); intro gD w6 hO_; have n0_ : Aside0 (Own w w6 [(gP, n, pn), (gD, 0, false)]) := ⟨hO_⟩; clear HO hO_; have HO := n0_; clear n0_) | ((with_reducible refine gate_store (t := 84) (p := 11) (v := .tmp 31) rfl ?_); refine num_store ?hg (.tmp 11) (.tmp 31) ?ho HO.out 1 (g := gD) (m := 0) (s := false) (m' := d) (s' := cn) ?hi ?hx ?hy ?_; (case hg => rfl); (case ho => rfl); (case hi => rfl); (case hx => rfl); (case hy => rfl); intro w7 hO_; have n0_ : Aside0 (Own w w7 [(gP, n, pn), (gD, d, cn)]) := ⟨hO_⟩; clear HO hO_; have HO := n0_; clear n0_) | ((with_reducible refine gate_dst (N := 33) rfl ?_); refine num_load ?hg (N := 33) ?hd (.tmp 10) ?ho HO.out 0 (g := gP) (m := n) (s := pn) ?hi ?hx ?_; (case hd => rfl); (case hg => rfl); (case ho => rfl); (case hi => rfl); (case hx => rfl)) | ((with_reducible refine gate_dst (N := 34) rfl ?_); refine num_load ?hg (N := 34) ?hd (.tmp 11) ?ho HO.out 1 (g := gD) (m := d) (s := cn) ?hi ?hx ?_; (case hd => rfl); (case hg => rfl); (case ho => rfl); (case hi => rfl); (case hx => rfl)) | (go_at_call 62; (with_reducible refine (HPA.out _).mono ?_); rintro e_ w8 ⟨rfl, hb_⟩; have n0_ : Aside0 (Own w w8 [(gP, n, pn), (gD, d, cn)]) := ⟨HO.out.call hb_⟩; clear HO hb_; have HO := n0_; clear n0_) | ((with_reducible refine gate_dst (N := 12) rfl ?_); refine num_new ?hg (N := 12) ?hd (cs := Try.zeroCells84) HO.out 0 false ?hc ?hr ?_; (case hc => first | rfl | exact zcNum); (case hd => rfl); (case hg => rfl); (case hr => first | (go_simp; done) | (go_simp; rfl)); intro gq w9 hO_; have n0_ : Aside0 (Own w w9 [(gP, n, pn), (gD, d, cn), (gq, 0, false)]) := ⟨hO_⟩; clear HO hO_; have HO := n0_; clear n0_) | ((with_reducible refine gate_dst (N := 13) rfl ?_); refine num_new ?hg (N := 13) ?hd (cs := Try.zeroCells84) HO.out 0 false ?hc ?hr ?_; (case hc => first | rfl | exact zcNum); (case hd => rfl); (case hg => rfl); (case hr => first | (go_simp; done) | (go_simp; rfl)); intro gr w10 hO_; have n0_ : Aside0 (Own w w10 [(gP, n, pn), (gD, d, cn), (gq, 0, false), (gr, 0, false)]) := ⟨hO_⟩; clear HO hO_; have HO := n0_; clear n0_) | ((with_reducible refine gate_store (t := 84) (p := 12) (v := .tmp 36) rfl ?_); refine num_store ?hg (.tmp 12) (.tmp 36) ?ho HO.out 2 (g := gq) (m := 0) (s := false) (m' := q0) (s' := false) ?hi ?hx ?hy ?_; (case hg => rfl); (case ho => rfl); (case hi => rfl); (case hx => rfl); (case hy => rfl); intro w11 hO_; have n0_ : Aside0 (Own w w11 [(gP, n, pn), (gD, d, cn), (gq, q0, false), (gr, 0, false)]) := ⟨hO_⟩; clear HO hO_; have HO := n0_; clear n0_) | ((with_reducible refine gate_store (t := 84) (p := 13) (v := .tmp 37) rfl ?_); refine num_store ?hg (.tmp 13) (.tmp 37) ?ho HO.out 3 (g := gr) (m := 0) (s := false) (m' := r0) (s' := false) ?hi ?hx ?hy ?_; (case hg => rfl); (case ho => rfl); (case hi => rfl); (case hx => rfl); (case hy => rfl); intro w12 hO_; have n0_ : Aside0 (Own w w12 [(gP, n, pn), (gD, d, cn), (gq, q0, false), (gr, r0, false)]) := ⟨hO_⟩; clear HO hO_; have HO := n0_; clear n0_; have zP := HO.out.neg 0 rfl; have zD := HO.out.neg 1 rfl) | ((with_reducible refine gate_dst (N := 43) rfl ?_); refine num_load ?hg (N := 43) ?hd (.tmp 13) ?ho HO.out 3 (g := gr) (m := r0) (s := false) ?hi ?hx ?_; (case hd => rfl); (case hg => rfl); (case ho => rfl); (case hi => rfl); (case hx => rfl)) | (go_at_call 63; (with_reducible refine (HNR.out _).mono ?_); rintro e_ w13 ⟨rfl, hb_⟩; have n0_ : Aside0 (Own w w13 [(gP, n, pn), (gD, d, cn), (gq, q0, false), (gr, r0, false)]) := ⟨HO.out.call hb_⟩; clear HO hb_; have HO := n0_; clear n0_))
  clear zP zD HTI HPA H1 H2 H3 hng
  have hzr := X1.out
  have hb1 := X3.out
  have hb2 := X4.out
  have hr3 := X5.out
  clear X1 X3 X4 X5 HNR
  go_cut [15] (fun v15 wx => v15 = .bool AW ∧ Aside0 (Own w wx [(gP, n, pn), (gD, d, cn), (gq, q0, false), (gr, r0, false)]))
  case first =>
    rcases hzr with ⟨hz0, rfl⟩ | ⟨hz0, rfl⟩
    · have hz0 : r0 = 0 := of_decide_eq_true hz0
      have HW : Aside0 (AW = (false)) := ⟨by rw [← HAW.out]; unfold divAway; simp [*]⟩
      clear HAW hz0
      go_wp2
      go_meet
      exact ⟨by rw [HW.out], HO⟩
    have hz0 : ¬ r0 = 0 := of_decide_eq_false hz0
    rcases hr3 with rfl | rfl | rfl
    · have HW : Aside0 (AW = (ng)) := ⟨by rw [← HAW.out]; unfold divAway; simp [*]⟩
      clear HAW hz0
      go_wp2
      go_meet
      exact ⟨by rw [HW.out], HO⟩
    · have HW : Aside0 (AW = (!ng)) := ⟨by rw [← HAW.out]; unfold divAway; simp [*]⟩
      clear HAW hz0
      go_wp2
      go_meet
      exact ⟨by rw [HW.out], HO⟩
    rcases hb1 with ⟨hc1, hb1⟩ | ⟨hc1, hb1⟩
    · have HB1 := Aside0.mk hb1
      clear hb1
      have hc1 : d < 2 * r0 := of_decide_eq_true hc1
      have HW : Aside0 (AW = (true)) := ⟨by rw [← HAW.out]; unfold divAway; simp [*]⟩
      clear HAW hz0 hc1
      go_wp2_with (first | ((with_reducible refine gate_dst (N := 47) rfl ?_); refine num_load ?hg (N := 47) ?hd (.tmp 13) ?ho HO.out 3 (g := gr) (m := r0) (s := false) ?hi ?hx ?_; (case hd => rfl); (case hg => rfl); (case ho => rfl); (case hi => rfl); (case hx => rfl)) | (go_at_call 64; (with_reducible refine (num_twice _ _ _).mono ?_); rintro e_ w14 ⟨rfl, hb_⟩; have n0_ : Aside0 (Own w w14 [(gP, n, pn), (gD, d, cn), (gq, q0, false), (gr, r0, false)]) := ⟨HO.out.call hb_⟩; clear HO hb_; have HO := n0_; clear n0_) | ((with_reducible refine gate_dst (N := 16) rfl ?_); refine num_new ?hg (N := 16) ?hd (cs := Try.zeroCells84) HO.out 0 false ?hc ?hr ?_; (case hc => first | rfl | exact zcNum); (case hd => rfl); (case hg => rfl); (case hr => first | (go_simp; done) | (go_simp; rfl)); intro gT w40 hO_; have n0_ : Aside0 (Own w w40 [(gP, n, pn), (gD, d, cn), (gq, q0, false), (gr, r0, false), (gT, 0, false)]) := ⟨hO_⟩; clear HO hO_; have HO := n0_; clear n0_) | ((with_reducible refine gate_store (t := 84) (p := 16) (v := .tmp 48) rfl ?_); refine num_store ?hg (.tmp 16) (.tmp 48) ?ho HO.out 4 (g := gT) (m := 0) (s := false) (m' := (2 * r0)) (s' := false) ?hi ?hx ?hy ?_; (case hg => rfl); (case ho => rfl); (case hi => rfl); (case hx => rfl); (case hy => rfl); intro w41 hO_; have n0_ : Aside0 (Own w w41 [(gP, n, pn), (gD, d, cn), (gq, q0, false), (gr, r0, false), (gT, (2 * r0), false)]) := ⟨hO_⟩; clear HO hO_; have HO := n0_; clear n0_) | ((with_reducible refine gate_dst (N := 49) rfl ?_); refine num_load ?hg (N := 49) ?hd (.tmp 11) ?ho HO.out 1 (g := gD) (m := d) (s := cn) ?hi ?hx ?_; (case hd => rfl); (case hg => rfl); (case ho => rfl); (case hi => rfl); (case hx => rfl)) | ((with_reducible refine gate_dst (N := 50) rfl ?_); refine num_load ?hg (N := 50) ?hd (.tmp 16) ?ho HO.out 4 (g := gT) (m := (2 * r0)) (s := false) ?hi ?hx ?_; (case hd => rfl); (case hg => rfl); (case ho => rfl); (case hi => rfl); (case hx => rfl)) | (go_at_call 65; first | ((with_reducible refine (HB1.out _).mono ?_); rintro e_ wHB1_ ⟨rfl, hb_⟩; have n0_ : Aside0 (Own w wHB1_ [(gP, n, pn), (gD, d, cn), (gq, q0, false), (gr, r0, false), (gT, (2 * r0), false)]) := ⟨HO.out.call hb_⟩; clear HO hb_; have HO := n0_; clear n0_)))
      go_meet
      exact ⟨by rw [HW.out], ⟨Own.init (l := [(gP, n, pn), (gD, d, cn), (gq, q0, false), (gr, r0, false)]) HO.out⟩⟩
    · have HB1 := Aside0.mk hb1
      clear hb1
      have hc1 : ¬ d < 2 * r0 := of_decide_eq_false hc1
      rcases hb2 with ⟨hc2, hb2⟩ | ⟨hc2, hb2⟩
      · have HB2 := Aside0.mk hb2
        clear hb2
        have hc2 : 2 * r0 < d := of_decide_eq_true hc2
        have HW : Aside0 (AW = (false)) := ⟨by rw [← HAW.out]; unfold divAway; simp [*]⟩
        clear HAW hz0 hc1 hc2
        go_wp2_with (first | ((with_reducible refine gate_dst (N := 47) rfl ?_); refine num_load ?hg (N := 47) ?hd (.tmp 13) ?ho HO.out 3 (g := gr) (m := r0) (s := false) ?hi ?hx ?_; (case hd => rfl); (case hg => rfl); (case ho => rfl); (case hi => rfl); (case hx => rfl)) | (go_at_call 64; (with_reducible refine (num_twice _ _ _).mono ?_); rintro e_ w14 ⟨rfl, hb_⟩; have n0_ : Aside0 (Own w w14 [(gP, n, pn), (gD, d, cn), (gq, q0, false), (gr, r0, false)]) := ⟨HO.out.call hb_⟩; clear HO hb_; have HO := n0_; clear n0_) | ((with_reducible refine gate_dst (N := 16) rfl ?_); refine num_new ?hg (N := 16) ?hd (cs := Try.zeroCells84) HO.out 0 false ?hc ?hr ?_; (case hc => first | rfl | exact zcNum); (case hd => rfl); (case hg => rfl); (case hr => first | (go_simp; done) | (go_simp; rfl)); intro gT w40 hO_; have n0_ : Aside0 (Own w w40 [(gP, n, pn), (gD, d, cn), (gq, q0, false), (gr, r0, false), (gT, 0, false)]) := ⟨hO_⟩; clear HO hO_; have HO := n0_; clear n0_) | ((with_reducible refine gate_store (t := 84) (p := 16) (v := .tmp 48) rfl ?_); refine num_store ?hg (.tmp 16) (.tmp 48) ?ho HO.out 4 (g := gT) (m := 0) (s := false) (m' := (2 * r0)) (s' := false) ?hi ?hx ?hy ?_; (case hg => rfl); (case ho => rfl); (case hi => rfl); (case hx => rfl); (case hy => rfl); intro w41 hO_; have n0_ : Aside0 (Own w w41 [(gP, n, pn), (gD, d, cn), (gq, q0, false), (gr, r0, false), (gT, (2 * r0), false)]) := ⟨hO_⟩; clear HO hO_; have HO := n0_; clear n0_) | ((with_reducible refine gate_dst (N := 49) rfl ?_); refine num_load ?hg (N := 49) ?hd (.tmp 11) ?ho HO.out 1 (g := gD) (m := d) (s := cn) ?hi ?hx ?_; (case hd => rfl); (case hg => rfl); (case ho => rfl); (case hi => rfl); (case hx => rfl)) | ((with_reducible refine gate_dst (N := 50) rfl ?_); refine num_load ?hg (N := 50) ?hd (.tmp 16) ?ho HO.out 4 (g := gT) (m := (2 * r0)) (s := false) ?hi ?hx ?_; (case hd => rfl); (case hg => rfl); (case ho => rfl); (case hi => rfl); (case hx => rfl)) | (go_at_call 65; first | ((with_reducible refine (HB1.out _).mono ?_); rintro e_ wHB1_ ⟨rfl, hb_⟩; have n0_ : Aside0 (Own w wHB1_ [(gP, n, pn), (gD, d, cn), (gq, q0, false), (gr, r0, false), (gT, (2 * r0), false)]) := ⟨HO.out.call hb_⟩; clear HO hb_; have HO := n0_; clear n0_) | ((with_reducible refine (HB2.out _).mono ?_); rintro e_ wHB2_ ⟨rfl, hb_⟩; have n0_ : Aside0 (Own w wHB2_ [(gP, n, pn), (gD, d, cn), (gq, q0, false), (gr, r0, false), (gT, (2 * r0), false)]) := ⟨HO.out.call hb_⟩; clear HO hb_; have HO := n0_; clear n0_)) | ((with_reducible refine gate_dst (N := 53) rfl ?_); (refine gate_guard (by rfl) ?_; dsimp only); refine num_load ?hg (N := 53) ?hd (.tmp 16) ?ho HO.out 4 (g := gT) (m := (2 * r0)) (s := false) ?hi ?hx ?_; (case hd => rfl); (case hg => rfl); (case ho => rfl); (case hi => rfl); (case hx => rfl)) | ((with_reducible refine gate_dst (N := 54) rfl ?_); (refine gate_guard (by rfl) ?_; dsimp only); refine num_load ?hg (N := 54) ?hd (.tmp 11) ?ho HO.out 1 (g := gD) (m := d) (s := cn) ?hi ?hx ?_; (case hd => rfl); (case hg => rfl); (case ho => rfl); (case hi => rfl); (case hx => rfl)))
        go_meet
        exact ⟨by rw [HW.out], ⟨Own.init (l := [(gP, n, pn), (gD, d, cn), (gq, q0, false), (gr, r0, false)]) HO.out⟩⟩
      · have HB2 := Aside0.mk hb2
        clear hb2
        have hc2 : ¬ 2 * r0 < d := of_decide_eq_false hc2
        cases hod : q0.testBit 0
        · have HOD := Aside0.mk hod
          have HW : Aside0 (AW = (false)) := ⟨by rw [← HAW.out]; unfold divAway; simp [*]⟩
          clear HAW hz0 hc1 hc2 hod
          go_wp2_with (first | ((with_reducible refine gate_dst (N := 47) rfl ?_); refine num_load ?hg (N := 47) ?hd (.tmp 13) ?ho HO.out 3 (g := gr) (m := r0) (s := false) ?hi ?hx ?_; (case hd => rfl); (case hg => rfl); (case ho => rfl); (case hi => rfl); (case hx => rfl)) | (go_at_call 64; (with_reducible refine (num_twice _ _ _).mono ?_); rintro e_ w14 ⟨rfl, hb_⟩; have n0_ : Aside0 (Own w w14 [(gP, n, pn), (gD, d, cn), (gq, q0, false), (gr, r0, false)]) := ⟨HO.out.call hb_⟩; clear HO hb_; have HO := n0_; clear n0_) | ((with_reducible refine gate_dst (N := 16) rfl ?_); refine num_new ?hg (N := 16) ?hd (cs := Try.zeroCells84) HO.out 0 false ?hc ?hr ?_; (case hc => first | rfl | exact zcNum); (case hd => rfl); (case hg => rfl); (case hr => first | (go_simp; done) | (go_simp; rfl)); intro gT w40 hO_; have n0_ : Aside0 (Own w w40 [(gP, n, pn), (gD, d, cn), (gq, q0, false), (gr, r0, false), (gT, 0, false)]) := ⟨hO_⟩; clear HO hO_; have HO := n0_; clear n0_) | ((with_reducible refine gate_store (t := 84) (p := 16) (v := .tmp 48) rfl ?_); refine num_store ?hg (.tmp 16) (.tmp 48) ?ho HO.out 4 (g := gT) (m := 0) (s := false) (m' := (2 * r0)) (s' := false) ?hi ?hx ?hy ?_; (case hg => rfl); (case ho => rfl); (case hi => rfl); (case hx => rfl); (case hy => rfl); intro w41 hO_; have n0_ : Aside0 (Own w w41 [(gP, n, pn), (gD, d, cn), (gq, q0, false), (gr, r0, false), (gT, (2 * r0), false)]) := ⟨hO_⟩; clear HO hO_; have HO := n0_; clear n0_; have zo := HO.out.cell 2 0 rfl (by decide); rw [HOD.out] at zo) | ((with_reducible refine gate_dst (N := 49) rfl ?_); refine num_load ?hg (N := 49) ?hd (.tmp 11) ?ho HO.out 1 (g := gD) (m := d) (s := cn) ?hi ?hx ?_; (case hd => rfl); (case hg => rfl); (case ho => rfl); (case hi => rfl); (case hx => rfl)) | ((with_reducible refine gate_dst (N := 50) rfl ?_); refine num_load ?hg (N := 50) ?hd (.tmp 16) ?ho HO.out 4 (g := gT) (m := (2 * r0)) (s := false) ?hi ?hx ?_; (case hd => rfl); (case hg => rfl); (case ho => rfl); (case hi => rfl); (case hx => rfl)) | (go_at_call 65; first | ((with_reducible refine (HB1.out _).mono ?_); rintro e_ wHB1_ ⟨rfl, hb_⟩; clear zo; have n0_ : Aside0 (Own w wHB1_ [(gP, n, pn), (gD, d, cn), (gq, q0, false), (gr, r0, false), (gT, (2 * r0), false)]) := ⟨HO.out.call hb_⟩; clear HO hb_; have HO := n0_; clear n0_; have zo := HO.out.cell 2 0 rfl (by decide); rw [HOD.out] at zo) | ((with_reducible refine (HB2.out _).mono ?_); rintro e_ wHB2_ ⟨rfl, hb_⟩; clear zo; have n0_ : Aside0 (Own w wHB2_ [(gP, n, pn), (gD, d, cn), (gq, q0, false), (gr, r0, false), (gT, (2 * r0), false)]) := ⟨HO.out.call hb_⟩; clear HO hb_; have HO := n0_; clear n0_; have zo := HO.out.cell 2 0 rfl (by decide); rw [HOD.out] at zo)) | ((with_reducible refine gate_dst (N := 53) rfl ?_); (refine gate_guard (by rfl) ?_; dsimp only); refine num_load ?hg (N := 53) ?hd (.tmp 16) ?ho HO.out 4 (g := gT) (m := (2 * r0)) (s := false) ?hi ?hx ?_; (case hd => rfl); (case hg => rfl); (case ho => rfl); (case hi => rfl); (case hx => rfl)) | ((with_reducible refine gate_dst (N := 54) rfl ?_); (refine gate_guard (by rfl) ?_; dsimp only); refine num_load ?hg (N := 54) ?hd (.tmp 11) ?ho HO.out 1 (g := gD) (m := d) (s := cn) ?hi ?hx ?_; (case hd => rfl); (case hg => rfl); (case ho => rfl); (case hi => rfl); (case hx => rfl)))
          go_meet
          exact ⟨by rw [HW.out], ⟨Own.init (l := [(gP, n, pn), (gD, d, cn), (gq, q0, false), (gr, r0, false)]) HO.out⟩⟩
        · have HOD := Aside0.mk hod
          have HW : Aside0 (AW = (true)) := ⟨by rw [← HAW.out]; unfold divAway; simp [*]⟩
          clear HAW hz0 hc1 hc2 hod
          go_wp2_with (first | ((with_reducible refine gate_dst (N := 47) rfl ?_); refine num_load ?hg (N := 47) ?hd (.tmp 13) ?ho HO.out 3 (g := gr) (m := r0) (s := false) ?hi ?hx ?_; (case hd => rfl); (case hg => rfl); (case ho => rfl); (case hi => rfl); (case hx => rfl)) | (go_at_call 64; (with_reducible refine (num_twice _ _ _).mono ?_); rintro e_ w14 ⟨rfl, hb_⟩; have n0_ : Aside0 (Own w w14 [(gP, n, pn), (gD, d, cn), (gq, q0, false), (gr, r0, false)]) := ⟨HO.out.call hb_⟩; clear HO hb_; have HO := n0_; clear n0_) | ((with_reducible refine gate_dst (N := 16) rfl ?_); refine num_new ?hg (N := 16) ?hd (cs := Try.zeroCells84) HO.out 0 false ?hc ?hr ?_; (case hc => first | rfl | exact zcNum); (case hd => rfl); (case hg => rfl); (case hr => first | (go_simp; done) | (go_simp; rfl)); intro gT w40 hO_; have n0_ : Aside0 (Own w w40 [(gP, n, pn), (gD, d, cn), (gq, q0, false), (gr, r0, false), (gT, 0, false)]) := ⟨hO_⟩; clear HO hO_; have HO := n0_; clear n0_) | ((with_reducible refine gate_store (t := 84) (p := 16) (v := .tmp 48) rfl ?_); refine num_store ?hg (.tmp 16) (.tmp 48) ?ho HO.out 4 (g := gT) (m := 0) (s := false) (m' := (2 * r0)) (s' := false) ?hi ?hx ?hy ?_; (case hg => rfl); (case ho => rfl); (case hi => rfl); (case hx => rfl); (case hy => rfl); intro w41 hO_; have n0_ : Aside0 (Own w w41 [(gP, n, pn), (gD, d, cn), (gq, q0, false), (gr, r0, false), (gT, (2 * r0), false)]) := ⟨hO_⟩; clear HO hO_; have HO := n0_; clear n0_; have zo := HO.out.cell 2 0 rfl (by decide); rw [HOD.out] at zo) | ((with_reducible refine gate_dst (N := 49) rfl ?_); refine num_load ?hg (N := 49) ?hd (.tmp 11) ?ho HO.out 1 (g := gD) (m := d) (s := cn) ?hi ?hx ?_; (case hd => rfl); (case hg => rfl); (case ho => rfl); (case hi => rfl); (case hx => rfl)) | ((with_reducible refine gate_dst (N := 50) rfl ?_); refine num_load ?hg (N := 50) ?hd (.tmp 16) ?ho HO.out 4 (g := gT) (m := (2 * r0)) (s := false) ?hi ?hx ?_; (case hd => rfl); (case hg => rfl); (case ho => rfl); (case hi => rfl); (case hx => rfl)) | (go_at_call 65; first | ((with_reducible refine (HB1.out _).mono ?_); rintro e_ wHB1_ ⟨rfl, hb_⟩; clear zo; have n0_ : Aside0 (Own w wHB1_ [(gP, n, pn), (gD, d, cn), (gq, q0, false), (gr, r0, false), (gT, (2 * r0), false)]) := ⟨HO.out.call hb_⟩; clear HO hb_; have HO := n0_; clear n0_; have zo := HO.out.cell 2 0 rfl (by decide); rw [HOD.out] at zo) | ((with_reducible refine (HB2.out _).mono ?_); rintro e_ wHB2_ ⟨rfl, hb_⟩; clear zo; have n0_ : Aside0 (Own w wHB2_ [(gP, n, pn), (gD, d, cn), (gq, q0, false), (gr, r0, false), (gT, (2 * r0), false)]) := ⟨HO.out.call hb_⟩; clear HO hb_; have HO := n0_; clear n0_; have zo := HO.out.cell 2 0 rfl (by decide); rw [HOD.out] at zo)) | ((with_reducible refine gate_dst (N := 53) rfl ?_); (refine gate_guard (by rfl) ?_; dsimp only); refine num_load ?hg (N := 53) ?hd (.tmp 16) ?ho HO.out 4 (g := gT) (m := (2 * r0)) (s := false) ?hi ?hx ?_; (case hd => rfl); (case hg => rfl); (case ho => rfl); (case hi => rfl); (case hx => rfl)) | ((with_reducible refine gate_dst (N := 54) rfl ?_); (refine gate_guard (by rfl) ?_; dsimp only); refine num_load ?hg (N := 54) ?hd (.tmp 11) ?ho HO.out 1 (g := gD) (m := d) (s := cn) ?hi ?hx ?_; (case hd => rfl); (case hg => rfl); (case ho => rfl); (case hi => rfl); (case hx => rfl)))
          go_meet
          exact ⟨by rw [HW.out], ⟨Own.init (l := [(gP, n, pn), (gD, d, cn), (gq, q0, false), (gr, r0, false)]) HO.out⟩⟩
  case rest =>
    clear HO hzr hb1 hb2 hr3
    obtain ⟨rfl, HO⟩ := hcut
    cases AW <;> cases ng
    case false.false =>
      have hq6 : q0 < 2 ^ 136 := q_up0 HQB.out
      have hv := HV.out _ HAW.out
      obtain ⟨z, hnq, hto⟩ := div_fin (q := q0) (ng := false) (r1 := r1) (r2 := r2) hq6 (by simpa using hv)
      have HNQ := Aside0.mk hnq
      have HTO : Aside0 (∀ w, Calls Try.prog 67 #[.agg (numC q0 false)] w fun e w' => e = .returned (.tuple #[.int .i64 r1, .int .i64 r2]) ∧ Below w.heap.size w w') := ⟨hto⟩
      clear hnq hto HV hv hq6 HAW
      go_upto_region 20 with (fail)
      have zq := HO.out.neg 2 rfl
      have zf := HO.out.free 2 136 rfl
      go_upto_region 21 with (first | ((with_reducible refine gate_dst (N := 76) rfl ?_); (refine gate_guard (by rfl) ?_; dsimp only); refine num_load ?hg (N := 76) ?hd (.tmp 12) ?ho HO.out 2 (g := gq) (m := q0) (s := false) ?hi ?hx ?_; (case hd => rfl); (case hg => rfl); (case ho => rfl); (case hi => rfl); (case hx => rfl)) | (go_at_call 63; (with_reducible refine (HNQ.out _).mono ?_); rintro e_ w15 ⟨rfl, hb_⟩; clear zq zf; have n0_ : Aside0 (Own w w15 [(gP, n, pn), (gD, d, cn), (gq, q0, false), (gr, r0, false)]) := ⟨HO.out.call hb_⟩; clear HO hb_; have HO := n0_; clear n0_; have zq := HO.out.neg 2 rfl; have zf := HO.out.free 2 136 rfl))
      refine num_abs (w0 := w) (l := [(gP, n, pn), (gD, d, cn), (gq, q0, false), (gr, r0, false)]) (HO.out.sign 2 rfl _) ?_
      intro w16 hO_
      clear HO
      have HO := Aside0.mk hO_
      clear hO_
      clear zq zf
      go_wp2_with (first | ((with_reducible refine gate_dst (N := 81) rfl ?_); refine num_load ?hg (N := 81) ?hd (.tmp 12) ?ho HO.out 2 (g := gq) (m := q0) (s := false) ?hi ?hx ?_; (case hd => rfl); (case hg => rfl); (case ho => rfl); (case hi => rfl); (case hx => rfl)) | (go_at_call 67; (with_reducible refine (HTO.out _).mono ?_); rintro e_ w17 ⟨rfl, hb_⟩; have n0_ : Aside0 (Own w w17 [(gP, n, pn), (gD, d, cn), (gq, q0, false), (gr, r0, false)]) := ⟨HO.out.call hb_⟩; clear HO hb_; have HO := n0_; clear n0_))
      go_ret2
      exact ⟨rfl, HO.out.below⟩
    case false.true =>
      have hq6 : q0 < 2 ^ 136 := q_up0 HQB.out
      have hv := HV.out _ HAW.out
      obtain ⟨z, hnq, hto⟩ := div_fin (q := q0) (ng := true) (r1 := r1) (r2 := r2) hq6 (by simpa using hv)
      have HNQ := Aside0.mk hnq
      have HTO : Aside0 (∀ w, Calls Try.prog 67 #[.agg (numC q0 (!z))] w fun e w' => e = .returned (.tuple #[.int .i64 r1, .int .i64 r2]) ∧ Below w.heap.size w w') := ⟨hto⟩
      clear hnq hto HV hv hq6 HAW
      go_upto_region 20 with (fail)
      have zq := HO.out.neg 2 rfl
      have zf := HO.out.free 2 136 rfl
      go_upto_region 21 with (first | ((with_reducible refine gate_dst (N := 76) rfl ?_); (refine gate_guard (by rfl) ?_; dsimp only); refine num_load ?hg (N := 76) ?hd (.tmp 12) ?ho HO.out 2 (g := gq) (m := q0) (s := false) ?hi ?hx ?_; (case hd => rfl); (case hg => rfl); (case ho => rfl); (case hi => rfl); (case hx => rfl)) | (go_at_call 63; (with_reducible refine (HNQ.out _).mono ?_); rintro e_ w15 ⟨rfl, hb_⟩; clear zq zf; have n0_ : Aside0 (Own w w15 [(gP, n, pn), (gD, d, cn), (gq, q0, false), (gr, r0, false)]) := ⟨HO.out.call hb_⟩; clear HO hb_; have HO := n0_; clear n0_; have zq := HO.out.neg 2 rfl; have zf := HO.out.free 2 136 rfl))
      refine num_abs (w0 := w) (l := [(gP, n, pn), (gD, d, cn), (gq, q0, (!z)), (gr, r0, false)]) (HO.out.sign 2 rfl _) ?_
      intro w16 hO_
      clear HO
      have HO := Aside0.mk hO_
      clear hO_
      clear zq zf
      go_wp2_with (first | ((with_reducible refine gate_dst (N := 81) rfl ?_); refine num_load ?hg (N := 81) ?hd (.tmp 12) ?ho HO.out 2 (g := gq) (m := q0) (s := (!z)) ?hi ?hx ?_; (case hd => rfl); (case hg => rfl); (case ho => rfl); (case hi => rfl); (case hx => rfl)) | (go_at_call 67; (with_reducible refine (HTO.out _).mono ?_); rintro e_ w17 ⟨rfl, hb_⟩; have n0_ : Aside0 (Own w w17 [(gP, n, pn), (gD, d, cn), (gq, q0, (!z)), (gr, r0, false)]) := ⟨HO.out.call hb_⟩; clear HO hb_; have HO := n0_; clear n0_))
      go_ret2
      exact ⟨rfl, HO.out.below⟩
    case true.false =>
      have hq6 : (q0 + 1) < 2 ^ 136 := q_up1 HQB.out
      have hv := HV.out _ HAW.out
      obtain ⟨z, hnq, hto⟩ := div_fin (q := (q0 + 1)) (ng := false) (r1 := r1) (r2 := r2) hq6 (by simpa using hv)
      have HNQ := Aside0.mk hnq
      have HTO : Aside0 (∀ w, Calls Try.prog 67 #[.agg (numC (q0 + 1) false)] w fun e w' => e = .returned (.tuple #[.int .i64 r1, .int .i64 r2]) ∧ Below w.heap.size w w') := ⟨hto⟩
      clear hnq hto HV hv hq6 HAW
      go_upto_region 19 with (fail)
      refine wp_region_held_drew (S := fun _ => True) (by kernel_rfl) trivial (fun _ => ?_)
      have hOd := HO.out.drew
      refine wpAnyH_ready (rs := [0, 1]) (by kernel_rfl) (by simp) ?_
      refine AllReadyH.cons (by simp only [List.getElem?_toArray, List.getElem?_cons_succ, List.getElem?_cons_zero]; rfl) (fun K hK => ?aa) (AllReadyH.cons (by simp only [List.getElem?_toArray, List.getElem?_cons_succ, List.getElem?_cons_zero]; rfl) (fun K hK => ?bb) AllReadyH.nil)
      case aa =>
        rw [if_pos (by rfl)]
        refine num_load_wp (.tmp 12) rfl hOd 2 (g := gq) (m := q0) (s := false) rfl rfl ?_
        refine hK.out _ _ trivial (fun _ => ?_)
        clear hK K
        try simp only [Act.put, List.setIfInBounds_toArray, List.set_cons_zero, List.set_cons_succ]
        refine wpAnyH_ready (rs := [1]) (by kernel_rfl) (by simp) ?_
        refine AllReadyH.cons (by simp only [List.getElem?_toArray, List.getElem?_cons_succ, List.getElem?_cons_zero]; rfl) (fun K hK => ?_) AllReadyH.nil
        go_simp
        (go_at_call 56; (with_reducible refine (HO1.out _).mono ?_); rintro e_ w32 ⟨rfl, hb_⟩; have hO32 := Own.call hOd hb_; clear hb_)
        refine hK.out _ _ trivial (fun _ => ?_)
        clear hK K
        try simp only [Act.put, List.setIfInBounds_toArray, List.set_cons_zero, List.set_cons_succ]
        refine wpAnyH_ready (rs := [2]) (by kernel_rfl) (by simp) ?_
        refine AllReadyH.cons (by simp only [List.getElem?_toArray, List.getElem?_cons_succ, List.getElem?_cons_zero]; rfl) (fun K hK => ?_) AllReadyH.nil
        go_simp
        (go_at_call 66; (with_reducible refine (num_more _ _ _ _ _).mono ?_); rintro e_ w33 ⟨rfl, hb_⟩; have hO33 := Own.call hO32 hb_; clear hb_)
        refine hK.out _ _ trivial (fun _ => ?_)
        clear hK K
        try simp only [Act.put, List.setIfInBounds_toArray, List.set_cons_zero, List.set_cons_succ]
        refine wpAnyH_ready (rs := [3]) (by kernel_rfl) (by simp) ?_
        refine AllReadyH.cons (by simp only [List.getElem?_toArray, List.getElem?_cons_succ, List.getElem?_cons_zero]; rfl) (fun K hK => ?_) AllReadyH.nil
        rw [if_pos (by rfl)]
        refine num_store_wp (.tmp 12) (.tmp 73) rfl hO33 2 (m' := q0 + 1) (s' := false) rfl rfl rfl ?_
        intro w34 hO34
        replace hO34 : Own w w34 [(gP, n, pn), (gD, d, cn), (gq, (q0 + 1), false), (gr, r0, false)] := hO34
        refine hK.out _ _ trivial (fun _ => ?_)
        clear hK K
        try simp only [Act.put, List.setIfInBounds_toArray, List.set_cons_zero, List.set_cons_succ]
        refine wpAnyH_done (by kernel_rfl) ?_ _
        clear HO
        have HO := Aside0.mk hO34
        clear hO33 hO34
        clear hO32 hOd
        have zq := HO.out.neg 2 rfl
        have zf := HO.out.free 2 136 rfl
        go_upto_region 21 with (first | ((with_reducible refine gate_dst (N := 76) rfl ?_); (refine gate_guard (by rfl) ?_; dsimp only); refine num_load ?hg (N := 76) ?hd (.tmp 12) ?ho HO.out 2 (g := gq) (m := (q0 + 1)) (s := false) ?hi ?hx ?_; (case hd => rfl); (case hg => rfl); (case ho => rfl); (case hi => rfl); (case hx => rfl)) | (go_at_call 63; (with_reducible refine (HNQ.out _).mono ?_); rintro e_ w15 ⟨rfl, hb_⟩; clear zq zf; have n0_ : Aside0 (Own w w15 [(gP, n, pn), (gD, d, cn), (gq, (q0 + 1), false), (gr, r0, false)]) := ⟨HO.out.call hb_⟩; clear HO hb_; have HO := n0_; clear n0_; have zq := HO.out.neg 2 rfl; have zf := HO.out.free 2 136 rfl))
        refine num_abs (w0 := w) (l := [(gP, n, pn), (gD, d, cn), (gq, (q0 + 1), false), (gr, r0, false)]) (HO.out.sign 2 rfl _) ?_
        intro w16 hO_
        clear HO
        have HO := Aside0.mk hO_
        clear hO_
        clear zq zf
        go_wp2_with (first | ((with_reducible refine gate_dst (N := 81) rfl ?_); refine num_load ?hg (N := 81) ?hd (.tmp 12) ?ho HO.out 2 (g := gq) (m := (q0 + 1)) (s := false) ?hi ?hx ?_; (case hd => rfl); (case hg => rfl); (case ho => rfl); (case hi => rfl); (case hx => rfl)) | (go_at_call 67; (with_reducible refine (HTO.out _).mono ?_); rintro e_ w17 ⟨rfl, hb_⟩; have n0_ : Aside0 (Own w w17 [(gP, n, pn), (gD, d, cn), (gq, (q0 + 1), false), (gr, r0, false)]) := ⟨HO.out.call hb_⟩; clear HO hb_; have HO := n0_; clear n0_))
        go_ret2
        exact ⟨rfl, HO.out.below⟩
      case bb =>
        go_simp
        (go_at_call 56; (with_reducible refine (HO1.out _).mono ?_); rintro e_ w32 ⟨rfl, hb_⟩; have hO32 := Own.call hOd hb_; clear hb_)
        refine hK.out _ _ trivial (fun _ => ?_)
        clear hK K
        try simp only [Act.put, List.setIfInBounds_toArray, List.set_cons_zero, List.set_cons_succ]
        refine wpAnyH_ready (rs := [0]) (by kernel_rfl) (by simp) ?_
        refine AllReadyH.cons (by simp only [List.getElem?_toArray, List.getElem?_cons_succ, List.getElem?_cons_zero]; rfl) (fun K hK => ?_) AllReadyH.nil
        rw [if_pos (by rfl)]
        refine num_load_wp (.tmp 12) rfl hO32 2 (g := gq) (m := q0) (s := false) rfl rfl ?_
        refine hK.out _ _ trivial (fun _ => ?_)
        clear hK K
        try simp only [Act.put, List.setIfInBounds_toArray, List.set_cons_zero, List.set_cons_succ]
        refine wpAnyH_ready (rs := [2]) (by kernel_rfl) (by simp) ?_
        refine AllReadyH.cons (by simp only [List.getElem?_toArray, List.getElem?_cons_succ, List.getElem?_cons_zero]; rfl) (fun K hK => ?_) AllReadyH.nil
        go_simp
        (go_at_call 66; (with_reducible refine (num_more _ _ _ _ _).mono ?_); rintro e_ w33 ⟨rfl, hb_⟩; have hO33 := Own.call hO32 hb_; clear hb_)
        refine hK.out _ _ trivial (fun _ => ?_)
        clear hK K
        try simp only [Act.put, List.setIfInBounds_toArray, List.set_cons_zero, List.set_cons_succ]
        refine wpAnyH_ready (rs := [3]) (by kernel_rfl) (by simp) ?_
        refine AllReadyH.cons (by simp only [List.getElem?_toArray, List.getElem?_cons_succ, List.getElem?_cons_zero]; rfl) (fun K hK => ?_) AllReadyH.nil
        rw [if_pos (by rfl)]
        refine num_store_wp (.tmp 12) (.tmp 73) rfl hO33 2 (m' := q0 + 1) (s' := false) rfl rfl rfl ?_
        intro w34 hO34
        replace hO34 : Own w w34 [(gP, n, pn), (gD, d, cn), (gq, (q0 + 1), false), (gr, r0, false)] := hO34
        refine hK.out _ _ trivial (fun _ => ?_)
        clear hK K
        try simp only [Act.put, List.setIfInBounds_toArray, List.set_cons_zero, List.set_cons_succ]
        refine wpAnyH_done (by kernel_rfl) ?_ _
        clear HO
        have HO := Aside0.mk hO34
        clear hO33 hO34
        clear hO32 hOd
        have zq := HO.out.neg 2 rfl
        have zf := HO.out.free 2 136 rfl
        go_upto_region 21 with (first | ((with_reducible refine gate_dst (N := 76) rfl ?_); (refine gate_guard (by rfl) ?_; dsimp only); refine num_load ?hg (N := 76) ?hd (.tmp 12) ?ho HO.out 2 (g := gq) (m := (q0 + 1)) (s := false) ?hi ?hx ?_; (case hd => rfl); (case hg => rfl); (case ho => rfl); (case hi => rfl); (case hx => rfl)) | (go_at_call 63; (with_reducible refine (HNQ.out _).mono ?_); rintro e_ w15 ⟨rfl, hb_⟩; clear zq zf; have n0_ : Aside0 (Own w w15 [(gP, n, pn), (gD, d, cn), (gq, (q0 + 1), false), (gr, r0, false)]) := ⟨HO.out.call hb_⟩; clear HO hb_; have HO := n0_; clear n0_; have zq := HO.out.neg 2 rfl; have zf := HO.out.free 2 136 rfl))
        refine num_abs (w0 := w) (l := [(gP, n, pn), (gD, d, cn), (gq, (q0 + 1), false), (gr, r0, false)]) (HO.out.sign 2 rfl _) ?_
        intro w16 hO_
        clear HO
        have HO := Aside0.mk hO_
        clear hO_
        clear zq zf
        go_wp2_with (first | ((with_reducible refine gate_dst (N := 81) rfl ?_); refine num_load ?hg (N := 81) ?hd (.tmp 12) ?ho HO.out 2 (g := gq) (m := (q0 + 1)) (s := false) ?hi ?hx ?_; (case hd => rfl); (case hg => rfl); (case ho => rfl); (case hi => rfl); (case hx => rfl)) | (go_at_call 67; (with_reducible refine (HTO.out _).mono ?_); rintro e_ w17 ⟨rfl, hb_⟩; have n0_ : Aside0 (Own w w17 [(gP, n, pn), (gD, d, cn), (gq, (q0 + 1), false), (gr, r0, false)]) := ⟨HO.out.call hb_⟩; clear HO hb_; have HO := n0_; clear n0_))
        go_ret2
        exact ⟨rfl, HO.out.below⟩
    case true.true =>
      have hq6 : (q0 + 1) < 2 ^ 136 := q_up1 HQB.out
      have hv := HV.out _ HAW.out
      obtain ⟨z, hnq, hto⟩ := div_fin (q := (q0 + 1)) (ng := true) (r1 := r1) (r2 := r2) hq6 (by simpa using hv)
      have HNQ := Aside0.mk hnq
      have HTO : Aside0 (∀ w, Calls Try.prog 67 #[.agg (numC (q0 + 1) (!z))] w fun e w' => e = .returned (.tuple #[.int .i64 r1, .int .i64 r2]) ∧ Below w.heap.size w w') := ⟨hto⟩
      clear hnq hto HV hv hq6 HAW
      go_upto_region 19 with (fail)
      refine wp_region_held_drew (S := fun _ => True) (by kernel_rfl) trivial (fun _ => ?_)
      have hOd := HO.out.drew
      refine wpAnyH_ready (rs := [0, 1]) (by kernel_rfl) (by simp) ?_
      refine AllReadyH.cons (by simp only [List.getElem?_toArray, List.getElem?_cons_succ, List.getElem?_cons_zero]; rfl) (fun K hK => ?aa) (AllReadyH.cons (by simp only [List.getElem?_toArray, List.getElem?_cons_succ, List.getElem?_cons_zero]; rfl) (fun K hK => ?bb) AllReadyH.nil)
      case aa =>
        rw [if_pos (by rfl)]
        refine num_load_wp (.tmp 12) rfl hOd 2 (g := gq) (m := q0) (s := false) rfl rfl ?_
        refine hK.out _ _ trivial (fun _ => ?_)
        clear hK K
        try simp only [Act.put, List.setIfInBounds_toArray, List.set_cons_zero, List.set_cons_succ]
        refine wpAnyH_ready (rs := [1]) (by kernel_rfl) (by simp) ?_
        refine AllReadyH.cons (by simp only [List.getElem?_toArray, List.getElem?_cons_succ, List.getElem?_cons_zero]; rfl) (fun K hK => ?_) AllReadyH.nil
        go_simp
        (go_at_call 56; (with_reducible refine (HO1.out _).mono ?_); rintro e_ w32 ⟨rfl, hb_⟩; have hO32 := Own.call hOd hb_; clear hb_)
        refine hK.out _ _ trivial (fun _ => ?_)
        clear hK K
        try simp only [Act.put, List.setIfInBounds_toArray, List.set_cons_zero, List.set_cons_succ]
        refine wpAnyH_ready (rs := [2]) (by kernel_rfl) (by simp) ?_
        refine AllReadyH.cons (by simp only [List.getElem?_toArray, List.getElem?_cons_succ, List.getElem?_cons_zero]; rfl) (fun K hK => ?_) AllReadyH.nil
        go_simp
        (go_at_call 66; (with_reducible refine (num_more _ _ _ _ _).mono ?_); rintro e_ w33 ⟨rfl, hb_⟩; have hO33 := Own.call hO32 hb_; clear hb_)
        refine hK.out _ _ trivial (fun _ => ?_)
        clear hK K
        try simp only [Act.put, List.setIfInBounds_toArray, List.set_cons_zero, List.set_cons_succ]
        refine wpAnyH_ready (rs := [3]) (by kernel_rfl) (by simp) ?_
        refine AllReadyH.cons (by simp only [List.getElem?_toArray, List.getElem?_cons_succ, List.getElem?_cons_zero]; rfl) (fun K hK => ?_) AllReadyH.nil
        rw [if_pos (by rfl)]
        refine num_store_wp (.tmp 12) (.tmp 73) rfl hO33 2 (m' := q0 + 1) (s' := false) rfl rfl rfl ?_
        intro w34 hO34
        replace hO34 : Own w w34 [(gP, n, pn), (gD, d, cn), (gq, (q0 + 1), false), (gr, r0, false)] := hO34
        refine hK.out _ _ trivial (fun _ => ?_)
        clear hK K
        try simp only [Act.put, List.setIfInBounds_toArray, List.set_cons_zero, List.set_cons_succ]
        refine wpAnyH_done (by kernel_rfl) ?_ _
        clear HO
        have HO := Aside0.mk hO34
        clear hO33 hO34
        clear hO32 hOd
        have zq := HO.out.neg 2 rfl
        have zf := HO.out.free 2 136 rfl
        go_upto_region 21 with (first | ((with_reducible refine gate_dst (N := 76) rfl ?_); (refine gate_guard (by rfl) ?_; dsimp only); refine num_load ?hg (N := 76) ?hd (.tmp 12) ?ho HO.out 2 (g := gq) (m := (q0 + 1)) (s := false) ?hi ?hx ?_; (case hd => rfl); (case hg => rfl); (case ho => rfl); (case hi => rfl); (case hx => rfl)) | (go_at_call 63; (with_reducible refine (HNQ.out _).mono ?_); rintro e_ w15 ⟨rfl, hb_⟩; clear zq zf; have n0_ : Aside0 (Own w w15 [(gP, n, pn), (gD, d, cn), (gq, (q0 + 1), false), (gr, r0, false)]) := ⟨HO.out.call hb_⟩; clear HO hb_; have HO := n0_; clear n0_; have zq := HO.out.neg 2 rfl; have zf := HO.out.free 2 136 rfl))
        refine num_abs (w0 := w) (l := [(gP, n, pn), (gD, d, cn), (gq, (q0 + 1), (!z)), (gr, r0, false)]) (HO.out.sign 2 rfl _) ?_
        intro w16 hO_
        clear HO
        have HO := Aside0.mk hO_
        clear hO_
        clear zq zf
        go_wp2_with (first | ((with_reducible refine gate_dst (N := 81) rfl ?_); refine num_load ?hg (N := 81) ?hd (.tmp 12) ?ho HO.out 2 (g := gq) (m := (q0 + 1)) (s := (!z)) ?hi ?hx ?_; (case hd => rfl); (case hg => rfl); (case ho => rfl); (case hi => rfl); (case hx => rfl)) | (go_at_call 67; (with_reducible refine (HTO.out _).mono ?_); rintro e_ w17 ⟨rfl, hb_⟩; have n0_ : Aside0 (Own w w17 [(gP, n, pn), (gD, d, cn), (gq, (q0 + 1), (!z)), (gr, r0, false)]) := ⟨HO.out.call hb_⟩; clear HO hb_; have HO := n0_; clear n0_))
        go_ret2
        exact ⟨rfl, HO.out.below⟩
      case bb =>
        go_simp
        (go_at_call 56; (with_reducible refine (HO1.out _).mono ?_); rintro e_ w32 ⟨rfl, hb_⟩; have hO32 := Own.call hOd hb_; clear hb_)
        refine hK.out _ _ trivial (fun _ => ?_)
        clear hK K
        try simp only [Act.put, List.setIfInBounds_toArray, List.set_cons_zero, List.set_cons_succ]
        refine wpAnyH_ready (rs := [0]) (by kernel_rfl) (by simp) ?_
        refine AllReadyH.cons (by simp only [List.getElem?_toArray, List.getElem?_cons_succ, List.getElem?_cons_zero]; rfl) (fun K hK => ?_) AllReadyH.nil
        rw [if_pos (by rfl)]
        refine num_load_wp (.tmp 12) rfl hO32 2 (g := gq) (m := q0) (s := false) rfl rfl ?_
        refine hK.out _ _ trivial (fun _ => ?_)
        clear hK K
        try simp only [Act.put, List.setIfInBounds_toArray, List.set_cons_zero, List.set_cons_succ]
        refine wpAnyH_ready (rs := [2]) (by kernel_rfl) (by simp) ?_
        refine AllReadyH.cons (by simp only [List.getElem?_toArray, List.getElem?_cons_succ, List.getElem?_cons_zero]; rfl) (fun K hK => ?_) AllReadyH.nil
        go_simp
        (go_at_call 66; (with_reducible refine (num_more _ _ _ _ _).mono ?_); rintro e_ w33 ⟨rfl, hb_⟩; have hO33 := Own.call hO32 hb_; clear hb_)
        refine hK.out _ _ trivial (fun _ => ?_)
        clear hK K
        try simp only [Act.put, List.setIfInBounds_toArray, List.set_cons_zero, List.set_cons_succ]
        refine wpAnyH_ready (rs := [3]) (by kernel_rfl) (by simp) ?_
        refine AllReadyH.cons (by simp only [List.getElem?_toArray, List.getElem?_cons_succ, List.getElem?_cons_zero]; rfl) (fun K hK => ?_) AllReadyH.nil
        rw [if_pos (by rfl)]
        refine num_store_wp (.tmp 12) (.tmp 73) rfl hO33 2 (m' := q0 + 1) (s' := false) rfl rfl rfl ?_
        intro w34 hO34
        replace hO34 : Own w w34 [(gP, n, pn), (gD, d, cn), (gq, (q0 + 1), false), (gr, r0, false)] := hO34
        refine hK.out _ _ trivial (fun _ => ?_)
        clear hK K
        try simp only [Act.put, List.setIfInBounds_toArray, List.set_cons_zero, List.set_cons_succ]
        refine wpAnyH_done (by kernel_rfl) ?_ _
        clear HO
        have HO := Aside0.mk hO34
        clear hO33 hO34
        clear hO32 hOd
        have zq := HO.out.neg 2 rfl
        have zf := HO.out.free 2 136 rfl
        go_upto_region 21 with (first | ((with_reducible refine gate_dst (N := 76) rfl ?_); (refine gate_guard (by rfl) ?_; dsimp only); refine num_load ?hg (N := 76) ?hd (.tmp 12) ?ho HO.out 2 (g := gq) (m := (q0 + 1)) (s := false) ?hi ?hx ?_; (case hd => rfl); (case hg => rfl); (case ho => rfl); (case hi => rfl); (case hx => rfl)) | (go_at_call 63; (with_reducible refine (HNQ.out _).mono ?_); rintro e_ w15 ⟨rfl, hb_⟩; clear zq zf; have n0_ : Aside0 (Own w w15 [(gP, n, pn), (gD, d, cn), (gq, (q0 + 1), false), (gr, r0, false)]) := ⟨HO.out.call hb_⟩; clear HO hb_; have HO := n0_; clear n0_; have zq := HO.out.neg 2 rfl; have zf := HO.out.free 2 136 rfl))
        refine num_abs (w0 := w) (l := [(gP, n, pn), (gD, d, cn), (gq, (q0 + 1), (!z)), (gr, r0, false)]) (HO.out.sign 2 rfl _) ?_
        intro w16 hO_
        clear HO
        have HO := Aside0.mk hO_
        clear hO_
        clear zq zf
        go_wp2_with (first | ((with_reducible refine gate_dst (N := 81) rfl ?_); refine num_load ?hg (N := 81) ?hd (.tmp 12) ?ho HO.out 2 (g := gq) (m := (q0 + 1)) (s := (!z)) ?hi ?hx ?_; (case hd => rfl); (case hg => rfl); (case ho => rfl); (case hi => rfl); (case hx => rfl)) | (go_at_call 67; (with_reducible refine (HTO.out _).mono ?_); rintro e_ w17 ⟨rfl, hb_⟩; have n0_ : Aside0 (Own w w17 [(gP, n, pn), (gD, d, cn), (gq, (q0 + 1), (!z)), (gr, r0, false)]) := ⟨HO.out.call hb_⟩; clear HO hb_; have HO := n0_; clear n0_))
        go_ret2
        exact ⟨rfl, HO.out.below⟩

end Go.Proofs.Ythaaghkplbbgdaa.Shb
