/- Printed by this session's wip/drive.py over the translation; some functions by hand. -/
import Derived.Test.YthaaghkplbbgdaaLiax0
import Derived.Test.YthaaghkplbbgdaaLiax1
import Derived.Test.YthaaghkplbbgdaaLiax2
import Derived.Test.YthaaghkplbbgdaaLiax3
import Derived.Test.YthaaghkplbbgdaaLiax5
namespace Go.Proofs.Ythaaghkplbbgdaa.Lia
open Go.RowKit Go.Proofs.YthaaghkplbbgdaaW.PrintWords Go.Proofs.YthaaghkplbbgdaaW.PrintLast Go.Proofs.YthaaghkplbbgdaaW.PrintMore
attribute [local go_sem] max2_int min2_int max_two min_two max_three min_three max_four min_four   -- for this text's walks alone
set_option linter.unusedVariables false
set_option linter.unusedSimpArgs false

/-! ### jobberref01_Div: function 46 (by hand) -/
theorem num_load_wp {o : Oper} {a : Act} {K : Act → World → Prop} {Q : Exit → Act → World → Prop} {w0 W : World} {l : NB} (x : Operand) (ho : o.op = .load 84 x) (hO : Own w0 W l) (i : Nat) {g m : Nat} {s : Bool} (hi : l[i]? = some (g, m, s)) (hx : a.eval x = .pointer (some ⟨g, 0, none⟩))
    (h : K (a.put o.dst (.agg (numC m s))) W) : o.wp Try.prog a W K Q := wp_load_row 84 x ho g hx 84 (numC m s) (0, 0) _ (hO.blk i hi) Try.underlying84 rfl (sizeNum _ _) h
theorem q_up0 {q : Nat} (h : q < 2 ^ 135) : q < 2 ^ 136 := Nat.lt_of_lt_of_le h (Nat.pow_le_pow_right (by decide) (by decide))
theorem q_up1 {q : Nat} (h : q < 2 ^ 135) : q + 1 < 2 ^ 136 := by
  have p136 : (2 : Nat) ^ 136 = 2 ^ 135 + 2 ^ 135 := by decide
  have := Nat.two_pow_pos 135
  omega
theorem Own.init {w0 W : World} {l : NB} {x : Nat × Nat × Bool} (h : Own w0 W (l ++ [x])) : Own w0 W l := by
  have hl : ∀ (i : Nat) (y : Nat × Nat × Bool), l[i]? = some y → (l ++ [x])[i]? = some y := fun i y hy => by
    rw [List.getElem?_append_left (List.getElem?_eq_some_iff.1 hy).1]; exact hy
  exact ⟨h.1, fun i y hy => h.2.1 i y (hl i y hy), fun i j y z hy hz hij => h.2.2 i j y z (hl i y hy) (hl j z hz) hij⟩
/-- away from nought by one? -/
def divAway (r0 d q0 : Nat) (ng : Bool) (r : Int) : Bool := if r0 = 0 then false else if r = 1 then ng else if r = 2 then !ng else (decide (d < 2 * r0) || (!decide (2 * r0 < d) && q0.testBit 0))
def divNeg (a b c : Int) : Bool := ((decide (a < 0) != decide (b < 0)) && !decide (a.natAbs * b.natAbs = 0)) != decide (c < 0)
def divV (a b c r : Int) : Int :=
  if divNeg a b c then -((a.natAbs * b.natAbs / c.natAbs + (if divAway (a.natAbs * b.natAbs % c.natAbs) c.natAbs (a.natAbs * b.natAbs / c.natAbs) (divNeg a b c) r then 1 else 0) : Nat) : Int)
  else ((a.natAbs * b.natAbs / c.natAbs + (if divAway (a.natAbs * b.natAbs % c.natAbs) c.natAbs (a.natAbs * b.natAbs / c.natAbs) (divNeg a b c) r then 1 else 0) : Nat) : Int)
def jobberref01_Div.f (a0 a1 a2 a3 : Int) : Option (Int × Int) := if (-9223372036854775808 ≤ a0 ∧ a0 ≤ 9223372036854775807) ∧ (-9223372036854775808 ≤ a1 ∧ a1 ≤ 9223372036854775807) ∧ (-9223372036854775808 ≤ a2 ∧ a2 ≤ 9223372036854775807) then (if a3 < 1 ∨ 3 < a3 then some (0, 2) else if a2 = 0 then some (0, 11) else some (toldV (divV a0 a1 a2 a3))) else none
theorem div_fin {q : Nat} {ng : Bool} {r1 r2 : Int} (hq : q < 2 ^ 136) (h : toldV (if ng then -(q : Int) else q) = (r1, r2)) : ∃ z : Bool, (∀ w, Calls Try.prog 63 #[.agg (numC q false)] w fun e w' => e = .returned (.bool z) ∧ Below w.heap.size w w') ∧ (∀ w, Calls Try.prog 67 #[.agg (numC q (ng && !z))] w fun e w' => e = .returned (.tuple #[.int .i64 r1, .int .i64 r2]) ∧ Below w.heap.size w w') := by
  refine ⟨decide (q = 0), fun w => num_nought q false hq w, fun w => ?_⟩
  have ht := num_told q (ng && !decide (q = 0)) hq w
  have e : sv q (ng && !decide (q = 0)) = if ng then -(q : Int) else q := by
    cases ng
    · rfl
    · simp only [Bool.true_and, if_true]; exact sv_nz q
  rw [e, h] at ht
  exact ht
set_option maxHeartbeats 40000000 in
set_option maxRecDepth 100000 in
theorem jobberref01_Div.calls (a0 a1 a2 a3 : Int) (r1 r2 : Int) (w : World) (h : jobberref01_Div.f a0 a1 a2 a3 = some (r1, r2)) :
    Calls Try.prog 46 #[.int .i64 a0, .int .i64 a1, .int .i64 a2, .int .i64 a3] w fun e w' => e = .returned (.tuple #[.int .i64 r1, .int .i64 r2]) ∧ Below w.heap.size w w' := by
  unfold jobberref01_Div.f at h
  by_cases hh : (-9223372036854775808 ≤ a0 ∧ a0 ≤ 9223372036854775807) ∧ (-9223372036854775808 ≤ a1 ∧ a1 ≤ 9223372036854775807) ∧ (-9223372036854775808 ≤ a2 ∧ a2 ≤ 9223372036854775807)
  case neg => rw [if_neg hh] at h; cases h
  rw [if_pos hh] at h
  obtain ⟨⟨h1, h2⟩, ⟨h3, h4⟩, h5, h6⟩ := hh
  by_cases c1 : a3 < 1
  · rw [if_pos (.inl c1)] at h
    obtain ⟨rfl, rfl⟩ := Prod.mk.inj (Option.some.inj h)
    have d1 : decide (a3 < 1) = true := decide_eq_true c1
    clear h h1 h2 h3 h4 h5 h6 c1
    go_enter Try.func46, Try.ntmps46
    go_wp2
    go_ret2
    exact ⟨rfl, Below.refl _ _⟩
  have d1 : decide (a3 < 1) = false := decide_eq_false c1
  by_cases c2 : 3 < a3
  · rw [if_pos (.inr c2)] at h
    obtain ⟨rfl, rfl⟩ := Prod.mk.inj (Option.some.inj h)
    have d2 : decide (3 < a3) = true := decide_eq_true c2
    clear h h1 h2 h3 h4 h5 h6 c1 c2
    go_enter Try.func46, Try.ntmps46
    go_wp2
    go_ret2
    exact ⟨rfl, Below.refl _ _⟩
  have d2 : decide (3 < a3) = false := decide_eq_false c2
  rw [if_neg (by omega)] at h
  by_cases c3 : a2 = 0
  · rw [if_pos c3] at h
    obtain ⟨rfl, rfl⟩ := Prod.mk.inj (Option.some.inj h)
    have d3 : (a2 == 0) = true := beq_iff_eq.mpr c3
    clear h h1 h2 h3 h4 h5 h6 c1 c2 c3
    go_enter Try.func46, Try.ntmps46
    go_wp2
    go_ret2
    exact ⟨rfl, Below.refl _ _⟩
  have d3 : (a2 == 0) = false := beq_eq_false_iff_ne.mpr c3
  rw [if_neg c3] at h
  replace h := Option.some.inj h
  have hr3 : a3 = 1 ∨ a3 = 2 ∨ a3 = 3 := by omega
  have HO : Aside0 (Own w w []) := ⟨Own.start w⟩
  have H1 := Aside0.mk (fun w => num_of a0 h1 h2 w)
  have H2 := Aside0.mk (fun w => num_of a1 h3 h4 w)
  have H3 := Aside0.mk (fun w => num_of a2 h5 h6 w)
  have b1 : a0.natAbs ≤ 9223372036854775808 := by omega
  have b2 : a1.natAbs ≤ 9223372036854775808 := by omega
  have b3 : a2.natAbs ≤ 9223372036854775808 := by omega
  have b4 : 0 < a2.natAbs := by omega
  have hmb : a0.natAbs * a1.natAbs ≤ 9223372036854775808 * 9223372036854775808 := Nat.mul_le_mul b1 b2
  have p135 : (2 : Nat) ^ 135 = 43556142965880123323311949751266331066368 := by decide
  have p136 : (2 : Nat) ^ 136 = 87112285931760246646623899502532662132736 := by decide
  have HTI := Aside0.mk (fun w => num_times a0.natAbs a1.natAbs (decide (a0 < 0)) (decide (a1 < 0)) (by omega) (by omega) w)
  have HPA := Aside0.mk (fun w => num_parts (a0.natAbs * a1.natAbs) a2.natAbs ((decide (a0 < 0) != decide (a1 < 0)) && !decide (a0.natAbs * a1.natAbs = 0)) (decide (a2 < 0)) (by omega) b4 (by omega) w)
  have hq135 : a0.natAbs * a1.natAbs / a2.natAbs < 2 ^ 135 := Nat.lt_of_le_of_lt (Nat.div_le_self _ _) (by omega)
  have hrd : a0.natAbs * a1.natAbs % a2.natAbs < a2.natAbs := Nat.mod_lt _ b4
  unfold divV divNeg at h
  obtain ⟨pn, hpn⟩ : ∃ s, ((decide (a0 < 0) != decide (a1 < 0)) && !decide (a0.natAbs * a1.natAbs = 0)) = s := ⟨_, rfl⟩
  obtain ⟨n, hn⟩ : ∃ m, a0.natAbs * a1.natAbs = m := ⟨_, rfl⟩
  rw [hn] at hpn
  rw [hn, hpn] at HTI HPA h
  rw [hn] at hq135 hrd hmb
  obtain ⟨m1, hm1⟩ : ∃ m, a0.natAbs = m := ⟨_, rfl⟩
  obtain ⟨m2, hm2⟩ : ∃ m, a1.natAbs = m := ⟨_, rfl⟩
  obtain ⟨d, hm3⟩ : ∃ m, a2.natAbs = m := ⟨_, rfl⟩
  obtain ⟨s1, hs1⟩ : ∃ s, decide (a0 < 0) = s := ⟨_, rfl⟩
  obtain ⟨s2, hs2⟩ : ∃ s, decide (a1 < 0) = s := ⟨_, rfl⟩
  obtain ⟨cn, hs3⟩ : ∃ s, decide (a2 < 0) = s := ⟨_, rfl⟩
  rw [hm1, hs1] at H1 HTI
  rw [hm2, hs2] at H2 HTI
  rw [hm3, hs3] at H3 HPA h
  rw [hm3] at hq135 hrd b3 b4
  obtain ⟨q0, hq0⟩ : ∃ m, n / d = m := ⟨_, rfl⟩
  obtain ⟨r0, hr0⟩ : ∃ m, n % d = m := ⟨_, rfl⟩
  rw [hq0] at HPA h hq135
  rw [hr0] at HPA h hrd
  have HQB := Aside0.mk hq135
  obtain ⟨ng, hng⟩ : ∃ s, (pn != cn) = s := ⟨_, rfl⟩
  rw [hng] at h
  replace hng : (!(pn == cn)) = ng := hng
  have HV : Aside0 (∀ aw : Bool, divAway r0 d q0 ng a3 = aw → toldV (if ng then -((q0 + (if aw then 1 else 0) : Nat) : Int) else ((q0 + (if aw then 1 else 0) : Nat) : Int)) = (r1, r2)) := ⟨fun aw haw => by rw [← haw]; exact h⟩
  obtain ⟨zr, hzr⟩ : ∃ z, decide (r0 = 0) = z := ⟨_, rfl⟩
  have hnr := fun w => num_nought r0 false (by omega) w
  rw [hzr] at hnr
  have hzr : (decide (r0 = 0) = true ∧ zr = true) ∨ (decide (r0 = 0) = false ∧ zr = false) := by cases zr <;> simp [hzr]
  have hb1 : (decide (d < 2 * r0) = true ∧ ∀ w, Calls Try.prog 65 #[.agg (numC d cn), .agg (numC (2 * r0) false)] w fun e w' => e = .returned (.bool true) ∧ Below w.heap.size w w') ∨ (decide (d < 2 * r0) = false ∧ ∀ w, Calls Try.prog 65 #[.agg (numC d cn), .agg (numC (2 * r0) false)] w fun e w' => e = .returned (.bool false) ∧ Below w.heap.size w w') := by
    have hx := fun w => num_below d (2 * r0) cn false (by omega) (by omega) w
    cases hd : decide (d < 2 * r0) <;> rw [hd] at hx
    · exact .inr ⟨rfl, hx⟩
    · exact .inl ⟨rfl, hx⟩
  have hb2 : (decide (2 * r0 < d) = true ∧ ∀ w, Calls Try.prog 65 #[.agg (numC (2 * r0) false), .agg (numC d cn)] w fun e w' => e = .returned (.bool true) ∧ Below w.heap.size w w') ∨ (decide (2 * r0 < d) = false ∧ ∀ w, Calls Try.prog 65 #[.agg (numC (2 * r0) false), .agg (numC d cn)] w fun e w' => e = .returned (.bool false) ∧ Below w.heap.size w w') := by
    have hx := fun w => num_below (2 * r0) d false cn (by omega) (by omega) w
    cases hd : decide (2 * r0 < d) <;> rw [hd] at hx
    · exact .inr ⟨rfl, hx⟩
    · exact .inl ⟨rfl, hx⟩
  have HO1 := Aside0.mk (fun w => num_of 1 (by decide) (by decide) w)
  obtain ⟨AW, haw⟩ : ∃ AW, divAway r0 d q0 ng a3 = AW := ⟨_, rfl⟩
  have HAW := Aside0.mk haw
  clear haw
  clear h h1 h2 h3 h4 h5 h6 c1 c2 c3 b1 b2 b3 b4 hmb p135 p136 hq135 hrd hpn hn hm1 hm2 hm3 hs1 hs2 hs3 hq0 hr0
  have X1 := Aside0.mk hzr
  have HNR := Aside0.mk hnr
  have X3 := Aside0.mk hb1
  have X4 := Aside0.mk hb2
  have X5 := Aside0.mk hr3
  clear hzr hnr hb1 hb2 hr3
  go_enter Try.func46, Try.ntmps46
  go_upto_if 45 with (first | (go_at_call 56; first | ((with_reducible refine (H1.out _).mono ?_); rintro e_ wH1_ ⟨rfl, hb_⟩; have n0_ : Aside0 (Own w wH1_ []) := ⟨HO.out.call hb_⟩; clear HO hb_; have HO := n0_; clear n0_) | ((with_reducible refine (H2.out _).mono ?_); rintro e_ wH2_ ⟨rfl, hb_⟩; have n0_ : Aside0 (Own w wH2_ []) := ⟨HO.out.call hb_⟩; clear HO hb_; have HO := n0_; clear n0_) | ((with_reducible refine (H3.out _).mono ?_); rintro e_ wH3_ ⟨rfl, hb_⟩; have n0_ : Aside0 (Own w wH3_ [(gP, n, pn)]) := ⟨HO.out.call hb_⟩; clear HO hb_; have HO := n0_; clear n0_)) | (go_at_call 55; (with_reducible refine (HTI.out _).mono ?_); rintro e_ w3 ⟨rfl, hb_⟩; have n0_ : Aside0 (Own w w3 []) := ⟨HO.out.call hb_⟩; clear HO hb_; have HO := n0_; clear n0_) | ((with_reducible refine gate_dst (N := 10) rfl ?_); refine num_new ?hg (N := 10) ?hd (cs := Try.zeroCells84) HO.out 0 false ?hc ?hr ?_; (case hc => first | rfl | exact zcNum); (case hd => rfl); (case hg => rfl); (case hr => first | (go_simp; done) | (go_simp; rfl)); intro gP w4 hO_; have n0_ : Aside0 (Own w w4 [(gP, 0, false)]) := ⟨hO_⟩; clear HO hO_; have HO := n0_; clear n0_) | ((with_reducible refine gate_store (t := 84) (p := 10) (v := .tmp 29) rfl ?_); refine num_store ?hg (.tmp 10) (.tmp 29) ?ho HO.out 0 (g := gP) (m := 0) (s := false) (m' := n) (s' := pn) ?hi ?hx ?hy ?_; (case hg => rfl); (case ho => rfl); (case hi => rfl); (case hx => rfl); (case hy => rfl); intro w5 hO_; have n0_ : Aside0 (Own w w5 [(gP, n, pn)]) := ⟨hO_⟩; clear HO hO_; have HO := n0_; clear n0_) | ((with_reducible refine gate_dst (N := 11) rfl ?_); refine num_new ?hg (N := 11) ?hd (cs := Try.zeroCells84) HO.out 0 false ?hc ?hr ?_; (case hc => first | rfl | exact zcNum); (case hd => rfl); (case hg => rfl); (case hr => first | (go_simp; done) | (go_simp; rfl)); intro gD w6 hO_; have n0_ : Aside0 (Own w w6 [(gP, n, pn), (gD, 0, false)]) := ⟨hO_⟩; clear HO hO_; have HO := n0_; clear n0_) | ((with_reducible refine gate_store (t := 84) (p := 11) (v := .tmp 31) rfl ?_); refine num_store ?hg (.tmp 11) (.tmp 31) ?ho HO.out 1 (g := gD) (m := 0) (s := false) (m' := d) (s' := cn) ?hi ?hx ?hy ?_; (case hg => rfl); (case ho => rfl); (case hi => rfl); (case hx => rfl); (case hy => rfl); intro w7 hO_; have n0_ : Aside0 (Own w w7 [(gP, n, pn), (gD, d, cn)]) := ⟨hO_⟩; clear HO hO_; have HO := n0_; clear n0_) | ((with_reducible refine gate_dst (N := 33) rfl ?_); refine num_load ?hg (N := 33) ?hd (.tmp 10) ?ho HO.out 0 (g := gP) (m := n) (s := pn) ?hi ?hx ?_; (case hd => rfl); (case hg => rfl); (case ho => rfl); (case hi => rfl); (case hx => rfl)) | ((with_reducible refine gate_dst (N := 34) rfl ?_); refine num_load ?hg (N := 34) ?hd (.tmp 11) ?ho HO.out 1 (g := gD) (m := d) (s := cn) ?hi ?hx ?_; (case hd => rfl); (case hg => rfl); (case ho => rfl); (case hi => rfl); (case hx => rfl)) | (go_at_call 62; (with_reducible refine (HPA.out _).mono ?_); rintro e_ w8 ⟨rfl, hb_⟩; have n0_ : Aside0 (Own w w8 [(gP, n, pn), (gD, d, cn)]) := ⟨HO.out.call hb_⟩; clear HO hb_; have HO := n0_; clear n0_) | ((with_reducible refine gate_dst (N := 12) rfl ?_); refine num_new ?hg (N := 12) ?hd (cs := Try.zeroCells84) HO.out 0 false ?hc ?hr ?_; (case hc => first | rfl | exact zcNum); (case hd => rfl); (case hg => rfl); (case hr => first | (go_simp; done) | (go_simp; rfl)); intro gq w9 hO_; have n0_ : Aside0 (Own w w9 [(gP, n, pn), (gD, d, cn), (gq, 0, false)]) := ⟨hO_⟩; clear HO hO_; have HO := n0_; clear n0_) | ((with_reducible refine gate_dst (N := 13) rfl ?_); refine num_new ?hg (N := 13) ?hd (cs := Try.zeroCells84) HO.out 0 false ?hc ?hr ?_; (case hc => first | rfl | exact zcNum); (case hd => rfl); (case hg => rfl); (case hr => first | (go_simp; done) | (go_simp; rfl)); intro gr w10 hO_; have n0_ : Aside0 (Own w w10 [(gP, n, pn), (gD, d, cn), (gq, 0, false), (gr, 0, false)]) := ⟨hO_⟩; clear HO hO_; have HO := n0_; clear n0_) | ((with_reducible refine gate_store (t := 84) (p := 12) (v := .tmp 36) rfl ?_); refine num_store ?hg (.tmp 12) (.tmp 36) ?ho HO.out 2 (g := gq) (m := 0) (s := false) (m' := q0) (s' := false) ?hi ?hx ?hy ?_; (case hg => rfl); (case ho => rfl); (case hi => rfl); (case hx => rfl); (case hy => rfl); intro w11 hO_; have n0_ : Aside0 (Own w w11 [(gP, n, pn), (gD, d, cn), (gq, q0, false), (gr, 0, false)]) := ⟨hO_⟩; clear HO hO_; have HO := n0_; clear n0_) | ((with_reducible refine gate_store (t := 84) (p := 13) (v := .tmp 37) rfl ?_); refine num_store ?hg (.tmp 13) (.tmp 37) ?ho HO.out 3 (g := gr) (m := 0) (s := false) (m' := r0) (s' := false) ?hi ?hx ?hy ?_; (case hg => rfl); (case ho => rfl); (case hi => rfl); (case hx => rfl); (case hy => rfl); intro w12 hO_; have n0_ : Aside0 (Own w w12 [(gP, n, pn), (gD, d, cn), (gq, q0, false), (gr, r0, false)]) := ⟨hO_⟩; clear HO hO_; have HO := n0_; clear n0_; have zP := HO.out.neg 0 rfl; have zD := HO.out.neg 1 rfl) | ((with_reducible refine gate_dst (N := 43) rfl ?_); refine num_load ?hg (N := 43) ?hd (.tmp 13) ?ho HO.out 3 (g := gr) (m := r0) (s := false) ?hi ?hx ?_; (case hd => rfl); (case hg => rfl); (case ho => rfl); (case hi => rfl); (case hx => rfl)) | (go_at_call 63; (with_reducible refine (HNR.out _).mono ?_); rintro e_ w13 ⟨rfl, hb_⟩; have n0_ : Aside0 (Own w w13 [(gP, n, pn), (gD, d, cn), (gq, q0, false), (gr, r0, false)]) := ⟨HO.out.call hb_⟩; clear HO hb_; have HO := n0_; clear n0_))
  clear zP zD HTI HPA H1 H2 H3 hng
  have hzr := X1.out
  have hb1 := X3.out
  have hb2 := X4.out
  have hr3 := X5.out
  clear X1 X3 X4 X5 HNR
  go_cut [15] (fun v15 wx => v15 = .bool AW ∧ Aside0 (Own w wx [(gP, n, pn), (gD, d, cn), (gq, q0, false), (gr, r0, false)]))
  case first =>
    rcases hzr with ⟨hz0, rfl⟩ | ⟨hz0, rfl⟩
    · have hz0 : r0 = 0 := of_decide_eq_true hz0
      have HW : Aside0 (AW = (false)) := ⟨by rw [← HAW.out]; unfold divAway; simp [*]⟩
      clear HAW hz0
      go_wp2
      go_meet
      exact ⟨by rw [HW.out], HO⟩
    have hz0 : ¬ r0 = 0 := of_decide_eq_false hz0
    rcases hr3 with rfl | rfl | rfl
    · have HW : Aside0 (AW = (ng)) := ⟨by rw [← HAW.out]; unfold divAway; simp [*]⟩
      clear HAW hz0
      go_wp2
      go_meet
      exact ⟨by rw [HW.out], HO⟩
    · have HW : Aside0 (AW = (!ng)) := ⟨by rw [← HAW.out]; unfold divAway; simp [*]⟩
      clear HAW hz0
      go_wp2
      go_meet
      exact ⟨by rw [HW.out], HO⟩
    rcases hb1 with ⟨hc1, hb1⟩ | ⟨hc1, hb1⟩
    · have HB1 := Aside0.mk hb1
      clear hb1
      have hc1 : d < 2 * r0 := of_decide_eq_true hc1
      have HW : Aside0 (AW = (true)) := ⟨by rw [← HAW.out]; unfold divAway; simp [*]⟩
      clear HAW hz0 hc1
      go_wp2_with (first | ((with_reducible refine gate_dst (N := 47) rfl ?_); refine num_load ?hg (N := 47) ?hd (.tmp 13) ?ho HO.out 3 (g := gr) (m := r0) (s := false) ?hi ?hx ?_; (case hd => rfl); (case hg => rfl); (case ho => rfl); (case hi => rfl); (case hx => rfl)) | (go_at_call 64; (with_reducible refine (num_twice _ _ _).mono ?_); rintro e_ w14 ⟨rfl, hb_⟩; have n0_ : Aside0 (Own w w14 [(gP, n, pn), (gD, d, cn), (gq, q0, false), (gr, r0, false)]) := ⟨HO.out.call hb_⟩; clear HO hb_; have HO := n0_; clear n0_) | ((with_reducible refine gate_dst (N := 16) rfl ?_); refine num_new ?hg (N := 16) ?hd (cs := Try.zeroCells84) HO.out 0 false ?hc ?hr ?_; (case hc => first | rfl | exact zcNum); (case hd => rfl); (case hg => rfl); (case hr => first | (go_simp; done) | (go_simp; rfl)); intro gT w40 hO_; have n0_ : Aside0 (Own w w40 [(gP, n, pn), (gD, d, cn), (gq, q0, false), (gr, r0, false), (gT, 0, false)]) := ⟨hO_⟩; clear HO hO_; have HO := n0_; clear n0_) | ((with_reducible refine gate_store (t := 84) (p := 16) (v := .tmp 48) rfl ?_); refine num_store ?hg (.tmp 16) (.tmp 48) ?ho HO.out 4 (g := gT) (m := 0) (s := false) (m' := (2 * r0)) (s' := false) ?hi ?hx ?hy ?_; (case hg => rfl); (case ho => rfl); (case hi => rfl); (case hx => rfl); (case hy => rfl); intro w41 hO_; have n0_ : Aside0 (Own w w41 [(gP, n, pn), (gD, d, cn), (gq, q0, false), (gr, r0, false), (gT, (2 * r0), false)]) := ⟨hO_⟩; clear HO hO_; have HO := n0_; clear n0_) | ((with_reducible refine gate_dst (N := 49) rfl ?_); refine num_load ?hg (N := 49) ?hd (.tmp 11) ?ho HO.out 1 (g := gD) (m := d) (s := cn) ?hi ?hx ?_; (case hd => rfl); (case hg => rfl); (case ho => rfl); (case hi => rfl); (case hx => rfl)) | ((with_reducible refine gate_dst (N := 50) rfl ?_); refine num_load ?hg (N := 50) ?hd (.tmp 16) ?ho HO.out 4 (g := gT) (m := (2 * r0)) (s := false) ?hi ?hx ?_; (case hd => rfl); (case hg => rfl); (case ho => rfl); (case hi => rfl); (case hx => rfl)) | (go_at_call 65; first | ((with_reducible refine (HB1.out _).mono ?_); rintro e_ wHB1_ ⟨rfl, hb_⟩; have n0_ : Aside0 (Own w wHB1_ [(gP, n, pn), (gD, d, cn), (gq, q0, false), (gr, r0, false), (gT, (2 * r0), false)]) := ⟨HO.out.call hb_⟩; clear HO hb_; have HO := n0_; clear n0_)))
      go_meet
      exact ⟨by rw [HW.out], ⟨Own.init (l := [(gP, n, pn), (gD, d, cn), (gq, q0, false), (gr, r0, false)]) HO.out⟩⟩
    · have HB1 := Aside0.mk hb1
      clear hb1
      have hc1 : ¬ d < 2 * r0 := of_decide_eq_false hc1
      rcases hb2 with ⟨hc2, hb2⟩ | ⟨hc2, hb2⟩
      · have HB2 := Aside0.mk hb2
        clear hb2
        have hc2 : 2 * r0 < d := of_decide_eq_true hc2
        have HW : Aside0 (AW = (false)) := ⟨by rw [← HAW.out]; unfold divAway; simp [*]⟩
        clear HAW hz0 hc1 hc2
        go_wp2_with (first | ((with_reducible refine gate_dst (N := 47) rfl ?_); refine num_load ?hg (N := 47) ?hd (.tmp 13) ?ho HO.out 3 (g := gr) (m := r0) (s := false) ?hi ?hx ?_; (case hd => rfl); (case hg => rfl); (case ho => rfl); (case hi => rfl); (case hx => rfl)) | (go_at_call 64; (with_reducible refine (num_twice _ _ _).mono ?_); rintro e_ w14 ⟨rfl, hb_⟩; have n0_ : Aside0 (Own w w14 [(gP, n, pn), (gD, d, cn), (gq, q0, false), (gr, r0, false)]) := ⟨HO.out.call hb_⟩; clear HO hb_; have HO := n0_; clear n0_) | ((with_reducible refine gate_dst (N := 16) rfl ?_); refine num_new ?hg (N := 16) ?hd (cs := Try.zeroCells84) HO.out 0 false ?hc ?hr ?_; (case hc => first | rfl | exact zcNum); (case hd => rfl); (case hg => rfl); (case hr => first | (go_simp; done) | (go_simp; rfl)); intro gT w40 hO_; have n0_ : Aside0 (Own w w40 [(gP, n, pn), (gD, d, cn), (gq, q0, false), (gr, r0, false), (gT, 0, false)]) := ⟨hO_⟩; clear HO hO_; have HO := n0_; clear n0_) | ((with_reducible refine gate_store (t := 84) (p := 16) (v := .tmp 48) rfl ?_); refine num_store ?hg (.tmp 16) (.tmp 48) ?ho HO.out 4 (g := gT) (m := 0) (s := false) (m' := (2 * r0)) (s' := false) ?hi ?hx ?hy ?_; (case hg => rfl); (case ho => rfl); (case hi => rfl); (case hx => rfl); (case hy => rfl); intro w41 hO_; have n0_ : Aside0 (Own w w41 [(gP, n, pn), (gD, d, cn), (gq, q0, false), (gr, r0, false), (gT, (2 * r0), false)]) := ⟨hO_⟩; clear HO hO_; have HO := n0_; clear n0_) | ((with_reducible refine gate_dst (N := 49) rfl ?_); refine num_load ?hg (N := 49) ?hd (.tmp 11) ?ho HO.out 1 (g := gD) (m := d) (s := cn) ?hi ?hx ?_; (case hd => rfl); (case hg => rfl); (case ho => rfl); (case hi => rfl); (case hx => rfl)) | ((with_reducible refine gate_dst (N := 50) rfl ?_); refine num_load ?hg (N := 50) ?hd (.tmp 16) ?ho HO.out 4 (g := gT) (m := (2 * r0)) (s := false) ?hi ?hx ?_; (case hd => rfl); (case hg => rfl); (case ho => rfl); (case hi => rfl); (case hx => rfl)) | (go_at_call 65; first | ((with_reducible refine (HB1.out _).mono ?_); rintro e_ wHB1_ ⟨rfl, hb_⟩; have n0_ : Aside0 (Own w wHB1_ [(gP, n, pn), (gD, d, cn), (gq, q0, false), (gr, r0, false), (gT, (2 * r0), false)]) := ⟨HO.out.call hb_⟩; clear HO hb_; have HO := n0_; clear n0_) | ((with_reducible refine (HB2.out _).mono ?_); rintro e_ wHB2_ ⟨rfl, hb_⟩; have n0_ : Aside0 (Own w wHB2_ [(gP, n, pn), (gD, d, cn), (gq, q0, false), (gr, r0, false), (gT, (2 * r0), false)]) := ⟨HO.out.call hb_⟩; clear HO hb_; have HO := n0_; clear n0_)) | ((with_reducible refine gate_dst (N := 53) rfl ?_); (refine gate_guard (by rfl) ?_; dsimp only); refine num_load ?hg (N := 53) ?hd (.tmp 16) ?ho HO.out 4 (g := gT) (m := (2 * r0)) (s := false) ?hi ?hx ?_; (case hd => rfl); (case hg => rfl); (case ho => rfl); (case hi => rfl); (case hx => rfl)) | ((with_reducible refine gate_dst (N := 54) rfl ?_); (refine gate_guard (by rfl) ?_; dsimp only); refine num_load ?hg (N := 54) ?hd (.tmp 11) ?ho HO.out 1 (g := gD) (m := d) (s := cn) ?hi ?hx ?_; (case hd => rfl); (case hg => rfl); (case ho => rfl); (case hi => rfl); (case hx => rfl)))
        go_meet
        exact ⟨by rw [HW.out], ⟨Own.init (l := [(gP, n, pn), (gD, d, cn), (gq, q0, false), (gr, r0, false)]) HO.out⟩⟩
      · have HB2 := Aside0.mk hb2
        clear hb2
        have hc2 : ¬ 2 * r0 < d := of_decide_eq_false hc2
        cases hod : q0.testBit 0
        · have HOD := Aside0.mk hod
          have HW : Aside0 (AW = (false)) := ⟨by rw [← HAW.out]; unfold divAway; simp [*]⟩
          clear HAW hz0 hc1 hc2 hod
          go_wp2_with (first | ((with_reducible refine gate_dst (N := 47) rfl ?_); refine num_load ?hg (N := 47) ?hd (.tmp 13) ?ho HO.out 3 (g := gr) (m := r0) (s := false) ?hi ?hx ?_; (case hd => rfl); (case hg => rfl); (case ho => rfl); (case hi => rfl); (case hx => rfl)) | (go_at_call 64; (with_reducible refine (num_twice _ _ _).mono ?_); rintro e_ w14 ⟨rfl, hb_⟩; have n0_ : Aside0 (Own w w14 [(gP, n, pn), (gD, d, cn), (gq, q0, false), (gr, r0, false)]) := ⟨HO.out.call hb_⟩; clear HO hb_; have HO := n0_; clear n0_) | ((with_reducible refine gate_dst (N := 16) rfl ?_); refine num_new ?hg (N := 16) ?hd (cs := Try.zeroCells84) HO.out 0 false ?hc ?hr ?_; (case hc => first | rfl | exact zcNum); (case hd => rfl); (case hg => rfl); (case hr => first | (go_simp; done) | (go_simp; rfl)); intro gT w40 hO_; have n0_ : Aside0 (Own w w40 [(gP, n, pn), (gD, d, cn), (gq, q0, false), (gr, r0, false), (gT, 0, false)]) := ⟨hO_⟩; clear HO hO_; have HO := n0_; clear n0_) | ((with_reducible refine gate_store (t := 84) (p := 16) (v := .tmp 48) rfl ?_); refine num_store ?hg (.tmp 16) (.tmp 48) ?ho HO.out 4 (g := gT) (m := 0) (s := false) (m' := (2 * r0)) (s' := false) ?hi ?hx ?hy ?_; (case hg => rfl); (case ho => rfl); (case hi => rfl); (case hx => rfl); (case hy => rfl); intro w41 hO_; have n0_ : Aside0 (Own w w41 [(gP, n, pn), (gD, d, cn), (gq, q0, false), (gr, r0, false), (gT, (2 * r0), false)]) := ⟨hO_⟩; clear HO hO_; have HO := n0_; clear n0_; have zo := HO.out.cell 2 0 rfl (by decide); rw [HOD.out] at zo) | ((with_reducible refine gate_dst (N := 49) rfl ?_); refine num_load ?hg (N := 49) ?hd (.tmp 11) ?ho HO.out 1 (g := gD) (m := d) (s := cn) ?hi ?hx ?_; (case hd => rfl); (case hg => rfl); (case ho => rfl); (case hi => rfl); (case hx => rfl)) | ((with_reducible refine gate_dst (N := 50) rfl ?_); refine num_load ?hg (N := 50) ?hd (.tmp 16) ?ho HO.out 4 (g := gT) (m := (2 * r0)) (s := false) ?hi ?hx ?_; (case hd => rfl); (case hg => rfl); (case ho => rfl); (case hi => rfl); (case hx => rfl)) | (go_at_call 65; first | ((with_reducible refine (HB1.out _).mono ?_); rintro e_ wHB1_ ⟨rfl, hb_⟩; clear zo; have n0_ : Aside0 (Own w wHB1_ [(gP, n, pn), (gD, d, cn), (gq, q0, false), (gr, r0, false), (gT, (2 * r0), false)]) := ⟨HO.out.call hb_⟩; clear HO hb_; have HO := n0_; clear n0_; have zo := HO.out.cell 2 0 rfl (by decide); rw [HOD.out] at zo) | ((with_reducible refine (HB2.out _).mono ?_); rintro e_ wHB2_ ⟨rfl, hb_⟩; clear zo; have n0_ : Aside0 (Own w wHB2_ [(gP, n, pn), (gD, d, cn), (gq, q0, false), (gr, r0, false), (gT, (2 * r0), false)]) := ⟨HO.out.call hb_⟩; clear HO hb_; have HO := n0_; clear n0_; have zo := HO.out.cell 2 0 rfl (by decide); rw [HOD.out] at zo)) | ((with_reducible refine gate_dst (N := 53) rfl ?_); (refine gate_guard (by rfl) ?_; dsimp only); refine num_load ?hg (N := 53) ?hd (.tmp 16) ?ho HO.out 4 (g := gT) (m := (2 * r0)) (s := false) ?hi ?hx ?_; (case hd => rfl); (case hg => rfl); (case ho => rfl); (case hi => rfl); (case hx => rfl)) | ((with_reducible refine gate_dst (N := 54) rfl ?_); (refine gate_guard (by rfl) ?_; dsimp only); refine num_load ?hg (N := 54) ?hd (.tmp 11) ?ho HO.out 1 (g := gD) (m := d) (s := cn) ?hi ?hx ?_; (case hd => rfl); (case hg => rfl); (case ho => rfl); (case hi => rfl); (case hx => rfl)))
          go_meet
          exact ⟨by rw [HW.out], ⟨Own.init (l := [(gP, n, pn), (gD, d, cn), (gq, q0, false), (gr, r0, false)]) HO.out⟩⟩
        · have HOD := Aside0.mk hod
          have HW : Aside0 (AW = (true)) := ⟨by rw [← HAW.out]; unfold divAway; simp [*]⟩
          clear HAW hz0 hc1 hc2 hod
          go_wp2_with (first | ((with_reducible refine gate_dst (N := 47) rfl ?_); refine num_load ?hg (N := 47) ?hd (.tmp 13) ?ho HO.out 3 (g := gr) (m := r0) (s := false) ?hi ?hx ?_; (case hd => rfl); (case hg => rfl); (case ho => rfl); (case hi => rfl); (case hx => rfl)) | (go_at_call 64; (with_reducible refine (num_twice _ _ _).mono ?_); rintro e_ w14 ⟨rfl, hb_⟩; have n0_ : Aside0 (Own w w14 [(gP, n, pn), (gD, d, cn), (gq, q0, false), (gr, r0, false)]) := ⟨HO.out.call hb_⟩; clear HO hb_; have HO := n0_; clear n0_) | ((with_reducible refine gate_dst (N := 16) rfl ?_); refine num_new ?hg (N := 16) ?hd (cs := Try.zeroCells84) HO.out 0 false ?hc ?hr ?_; (case hc => first | rfl | exact zcNum); (case hd => rfl); (case hg => rfl); (case hr => first | (go_simp; done) | (go_simp; rfl)); intro gT w40 hO_; have n0_ : Aside0 (Own w w40 [(gP, n, pn), (gD, d, cn), (gq, q0, false), (gr, r0, false), (gT, 0, false)]) := ⟨hO_⟩; clear HO hO_; have HO := n0_; clear n0_) | ((with_reducible refine gate_store (t := 84) (p := 16) (v := .tmp 48) rfl ?_); refine num_store ?hg (.tmp 16) (.tmp 48) ?ho HO.out 4 (g := gT) (m := 0) (s := false) (m' := (2 * r0)) (s' := false) ?hi ?hx ?hy ?_; (case hg => rfl); (case ho => rfl); (case hi => rfl); (case hx => rfl); (case hy => rfl); intro w41 hO_; have n0_ : Aside0 (Own w w41 [(gP, n, pn), (gD, d, cn), (gq, q0, false), (gr, r0, false), (gT, (2 * r0), false)]) := ⟨hO_⟩; clear HO hO_; have HO := n0_; clear n0_; have zo := HO.out.cell 2 0 rfl (by decide); rw [HOD.out] at zo) | ((with_reducible refine gate_dst (N := 49) rfl ?_); refine num_load ?hg (N := 49) ?hd (.tmp 11) ?ho HO.out 1 (g := gD) (m := d) (s := cn) ?hi ?hx ?_; (case hd => rfl); (case hg => rfl); (case ho => rfl); (case hi => rfl); (case hx => rfl)) | ((with_reducible refine gate_dst (N := 50) rfl ?_); refine num_load ?hg (N := 50) ?hd (.tmp 16) ?ho HO.out 4 (g := gT) (m := (2 * r0)) (s := false) ?hi ?hx ?_; (case hd => rfl); (case hg => rfl); (case ho => rfl); (case hi => rfl); (case hx => rfl)) | (go_at_call 65; first | ((with_reducible refine (HB1.out _).mono ?_); rintro e_ wHB1_ ⟨rfl, hb_⟩; clear zo; have n0_ : Aside0 (Own w wHB1_ [(gP, n, pn), (gD, d, cn), (gq, q0, false), (gr, r0, false), (gT, (2 * r0), false)]) := ⟨HO.out.call hb_⟩; clear HO hb_; have HO := n0_; clear n0_; have zo := HO.out.cell 2 0 rfl (by decide); rw [HOD.out] at zo) | ((with_reducible refine (HB2.out _).mono ?_); rintro e_ wHB2_ ⟨rfl, hb_⟩; clear zo; have n0_ : Aside0 (Own w wHB2_ [(gP, n, pn), (gD, d, cn), (gq, q0, false), (gr, r0, false), (gT, (2 * r0), false)]) := ⟨HO.out.call hb_⟩; clear HO hb_; have HO := n0_; clear n0_; have zo := HO.out.cell 2 0 rfl (by decide); rw [HOD.out] at zo)) | ((with_reducible refine gate_dst (N := 53) rfl ?_); (refine gate_guard (by rfl) ?_; dsimp only); refine num_load ?hg (N := 53) ?hd (.tmp 16) ?ho HO.out 4 (g := gT) (m := (2 * r0)) (s := false) ?hi ?hx ?_; (case hd => rfl); (case hg => rfl); (case ho => rfl); (case hi => rfl); (case hx => rfl)) | ((with_reducible refine gate_dst (N := 54) rfl ?_); (refine gate_guard (by rfl) ?_; dsimp only); refine num_load ?hg (N := 54) ?hd (.tmp 11) ?ho HO.out 1 (g := gD) (m := d) (s := cn) ?hi ?hx ?_; (case hd => rfl); (case hg => rfl); (case ho => rfl); (case hi => rfl); (case hx => rfl)))
          go_meet
          exact ⟨by rw [HW.out], ⟨Own.init (l := [(gP, n, pn), (gD, d, cn), (gq, q0, false), (gr, r0, false)]) HO.out⟩⟩
  case rest =>
    clear HO hzr hb1 hb2 hr3
    obtain ⟨rfl, HO⟩ := hcut
    cases AW <;> cases ng
    case false.false =>
      have hq6 : q0 < 2 ^ 136 := q_up0 HQB.out
      have hv := HV.out _ HAW.out
      obtain ⟨z, hnq, hto⟩ := div_fin (q := q0) (ng := false) (r1 := r1) (r2 := r2) hq6 (by simpa using hv)
      have HNQ := Aside0.mk hnq
      have HTO : Aside0 (∀ w, Calls Try.prog 67 #[.agg (numC q0 false)] w fun e w' => e = .returned (.tuple #[.int .i64 r1, .int .i64 r2]) ∧ Below w.heap.size w w') := ⟨hto⟩
      clear hnq hto HV hv hq6 HAW
      go_upto_region 20 with (fail)
      have zq := HO.out.neg 2 rfl
      have zf := HO.out.free 2 136 rfl
      go_upto_region 21 with (first | ((with_reducible refine gate_dst (N := 76) rfl ?_); (refine gate_guard (by rfl) ?_; dsimp only); refine num_load ?hg (N := 76) ?hd (.tmp 12) ?ho HO.out 2 (g := gq) (m := q0) (s := false) ?hi ?hx ?_; (case hd => rfl); (case hg => rfl); (case ho => rfl); (case hi => rfl); (case hx => rfl)) | (go_at_call 63; (with_reducible refine (HNQ.out _).mono ?_); rintro e_ w15 ⟨rfl, hb_⟩; clear zq zf; have n0_ : Aside0 (Own w w15 [(gP, n, pn), (gD, d, cn), (gq, q0, false), (gr, r0, false)]) := ⟨HO.out.call hb_⟩; clear HO hb_; have HO := n0_; clear n0_; have zq := HO.out.neg 2 rfl; have zf := HO.out.free 2 136 rfl))
      refine num_abs (w0 := w) (l := [(gP, n, pn), (gD, d, cn), (gq, q0, false), (gr, r0, false)]) (HO.out.sign 2 rfl _) ?_
      intro w16 hO_
      clear HO
      have HO := Aside0.mk hO_
      clear hO_
      clear zq zf
      go_wp2_with (first | ((with_reducible refine gate_dst (N := 81) rfl ?_); refine num_load ?hg (N := 81) ?hd (.tmp 12) ?ho HO.out 2 (g := gq) (m := q0) (s := false) ?hi ?hx ?_; (case hd => rfl); (case hg => rfl); (case ho => rfl); (case hi => rfl); (case hx => rfl)) | (go_at_call 67; (with_reducible refine (HTO.out _).mono ?_); rintro e_ w17 ⟨rfl, hb_⟩; have n0_ : Aside0 (Own w w17 [(gP, n, pn), (gD, d, cn), (gq, q0, false), (gr, r0, false)]) := ⟨HO.out.call hb_⟩; clear HO hb_; have HO := n0_; clear n0_))
      go_ret2
      exact ⟨rfl, HO.out.below⟩
    case false.true =>
      have hq6 : q0 < 2 ^ 136 := q_up0 HQB.out
      have hv := HV.out _ HAW.out
      obtain ⟨z, hnq, hto⟩ := div_fin (q := q0) (ng := true) (r1 := r1) (r2 := r2) hq6 (by simpa using hv)
      have HNQ := Aside0.mk hnq
      have HTO : Aside0 (∀ w, Calls Try.prog 67 #[.agg (numC q0 (!z))] w fun e w' => e = .returned (.tuple #[.int .i64 r1, .int .i64 r2]) ∧ Below w.heap.size w w') := ⟨hto⟩
      clear hnq hto HV hv hq6 HAW
      go_upto_region 20 with (fail)
      have zq := HO.out.neg 2 rfl
      have zf := HO.out.free 2 136 rfl
      go_upto_region 21 with (first | ((with_reducible refine gate_dst (N := 76) rfl ?_); (refine gate_guard (by rfl) ?_; dsimp only); refine num_load ?hg (N := 76) ?hd (.tmp 12) ?ho HO.out 2 (g := gq) (m := q0) (s := false) ?hi ?hx ?_; (case hd => rfl); (case hg => rfl); (case ho => rfl); (case hi => rfl); (case hx => rfl)) | (go_at_call 63; (with_reducible refine (HNQ.out _).mono ?_); rintro e_ w15 ⟨rfl, hb_⟩; clear zq zf; have n0_ : Aside0 (Own w w15 [(gP, n, pn), (gD, d, cn), (gq, q0, false), (gr, r0, false)]) := ⟨HO.out.call hb_⟩; clear HO hb_; have HO := n0_; clear n0_; have zq := HO.out.neg 2 rfl; have zf := HO.out.free 2 136 rfl))
      refine num_abs (w0 := w) (l := [(gP, n, pn), (gD, d, cn), (gq, q0, (!z)), (gr, r0, false)]) (HO.out.sign 2 rfl _) ?_
      intro w16 hO_
      clear HO
      have HO := Aside0.mk hO_
      clear hO_
      clear zq zf
      go_wp2_with (first | ((with_reducible refine gate_dst (N := 81) rfl ?_); refine num_load ?hg (N := 81) ?hd (.tmp 12) ?ho HO.out 2 (g := gq) (m := q0) (s := (!z)) ?hi ?hx ?_; (case hd => rfl); (case hg => rfl); (case ho => rfl); (case hi => rfl); (case hx => rfl)) | (go_at_call 67; (with_reducible refine (HTO.out _).mono ?_); rintro e_ w17 ⟨rfl, hb_⟩; have n0_ : Aside0 (Own w w17 [(gP, n, pn), (gD, d, cn), (gq, q0, (!z)), (gr, r0, false)]) := ⟨HO.out.call hb_⟩; clear HO hb_; have HO := n0_; clear n0_))
      go_ret2
      exact ⟨rfl, HO.out.below⟩
    case true.false =>
      have hq6 : (q0 + 1) < 2 ^ 136 := q_up1 HQB.out
      have hv := HV.out _ HAW.out
      obtain ⟨z, hnq, hto⟩ := div_fin (q := (q0 + 1)) (ng := false) (r1 := r1) (r2 := r2) hq6 (by simpa using hv)
      have HNQ := Aside0.mk hnq
      have HTO : Aside0 (∀ w, Calls Try.prog 67 #[.agg (numC (q0 + 1) false)] w fun e w' => e = .returned (.tuple #[.int .i64 r1, .int .i64 r2]) ∧ Below w.heap.size w w') := ⟨hto⟩
      clear hnq hto HV hv hq6 HAW
      go_upto_region 19 with (fail)
      refine wp_region_held_drew (S := fun _ => True) (by kernel_rfl) trivial (fun _ => ?_)
      have hOd := HO.out.drew
      refine wpAnyH_ready (rs := [0, 1]) (by kernel_rfl) (by simp) ?_
      refine AllReadyH.cons (by simp only [List.getElem?_toArray, List.getElem?_cons_succ, List.getElem?_cons_zero]; rfl) (fun K hK => ?aa) (AllReadyH.cons (by simp only [List.getElem?_toArray, List.getElem?_cons_succ, List.getElem?_cons_zero]; rfl) (fun K hK => ?bb) AllReadyH.nil)
      case aa =>
        rw [if_pos (by rfl)]
        refine num_load_wp (.tmp 12) rfl hOd 2 (g := gq) (m := q0) (s := false) rfl rfl ?_
        refine hK.out _ _ trivial (fun _ => ?_)
        clear hK K
        try simp only [Act.put, List.setIfInBounds_toArray, List.set_cons_zero, List.set_cons_succ]
        refine wpAnyH_ready (rs := [1]) (by kernel_rfl) (by simp) ?_
        refine AllReadyH.cons (by simp only [List.getElem?_toArray, List.getElem?_cons_succ, List.getElem?_cons_zero]; rfl) (fun K hK => ?_) AllReadyH.nil
        go_simp
        (go_at_call 56; (with_reducible refine (HO1.out _).mono ?_); rintro e_ w32 ⟨rfl, hb_⟩; have hO32 := Own.call hOd hb_; clear hb_)
        refine hK.out _ _ trivial (fun _ => ?_)
        clear hK K
        try simp only [Act.put, List.setIfInBounds_toArray, List.set_cons_zero, List.set_cons_succ]
        refine wpAnyH_ready (rs := [2]) (by kernel_rfl) (by simp) ?_
        refine AllReadyH.cons (by simp only [List.getElem?_toArray, List.getElem?_cons_succ, List.getElem?_cons_zero]; rfl) (fun K hK => ?_) AllReadyH.nil
        go_simp
        (go_at_call 66; (with_reducible refine (num_more _ _ _ _ _).mono ?_); rintro e_ w33 ⟨rfl, hb_⟩; have hO33 := Own.call hO32 hb_; clear hb_)
        refine hK.out _ _ trivial (fun _ => ?_)
        clear hK K
        try simp only [Act.put, List.setIfInBounds_toArray, List.set_cons_zero, List.set_cons_succ]
        refine wpAnyH_ready (rs := [3]) (by kernel_rfl) (by simp) ?_
        refine AllReadyH.cons (by simp only [List.getElem?_toArray, List.getElem?_cons_succ, List.getElem?_cons_zero]; rfl) (fun K hK => ?_) AllReadyH.nil
        rw [if_pos (by rfl)]
        refine num_store_wp (.tmp 12) (.tmp 73) rfl hO33 2 (m' := q0 + 1) (s' := false) rfl rfl rfl ?_
        intro w34 hO34
        replace hO34 : Own w w34 [(gP, n, pn), (gD, d, cn), (gq, (q0 + 1), false), (gr, r0, false)] := hO34
        refine hK.out _ _ trivial (fun _ => ?_)
        clear hK K
        try simp only [Act.put, List.setIfInBounds_toArray, List.set_cons_zero, List.set_cons_succ]
        refine wpAnyH_done (by kernel_rfl) ?_ _
        clear HO
        have HO := Aside0.mk hO34
        clear hO33 hO34
        clear hO32 hOd
        have zq := HO.out.neg 2 rfl
        have zf := HO.out.free 2 136 rfl
        go_upto_region 21 with (first | ((with_reducible refine gate_dst (N := 76) rfl ?_); (refine gate_guard (by rfl) ?_; dsimp only); refine num_load ?hg (N := 76) ?hd (.tmp 12) ?ho HO.out 2 (g := gq) (m := (q0 + 1)) (s := false) ?hi ?hx ?_; (case hd => rfl); (case hg => rfl); (case ho => rfl); (case hi => rfl); (case hx => rfl)) | (go_at_call 63; (with_reducible refine (HNQ.out _).mono ?_); rintro e_ w15 ⟨rfl, hb_⟩; clear zq zf; have n0_ : Aside0 (Own w w15 [(gP, n, pn), (gD, d, cn), (gq, (q0 + 1), false), (gr, r0, false)]) := ⟨HO.out.call hb_⟩; clear HO hb_; have HO := n0_; clear n0_; have zq := HO.out.neg 2 rfl; have zf := HO.out.free 2 136 rfl))
        refine num_abs (w0 := w) (l := [(gP, n, pn), (gD, d, cn), (gq, (q0 + 1), false), (gr, r0, false)]) (HO.out.sign 2 rfl _) ?_
        intro w16 hO_
        clear HO
        have HO := Aside0.mk hO_
        clear hO_
        clear zq zf
        go_wp2_with (first | ((with_reducible refine gate_dst (N := 81) rfl ?_); refine num_load ?hg (N := 81) ?hd (.tmp 12) ?ho HO.out 2 (g := gq) (m := (q0 + 1)) (s := false) ?hi ?hx ?_; (case hd => rfl); (case hg => rfl); (case ho => rfl); (case hi => rfl); (case hx => rfl)) | (go_at_call 67; (with_reducible refine (HTO.out _).mono ?_); rintro e_ w17 ⟨rfl, hb_⟩; have n0_ : Aside0 (Own w w17 [(gP, n, pn), (gD, d, cn), (gq, (q0 + 1), false), (gr, r0, false)]) := ⟨HO.out.call hb_⟩; clear HO hb_; have HO := n0_; clear n0_))
        go_ret2
        exact ⟨rfl, HO.out.below⟩
      case bb =>
        go_simp
        (go_at_call 56; (with_reducible refine (HO1.out _).mono ?_); rintro e_ w32 ⟨rfl, hb_⟩; have hO32 := Own.call hOd hb_; clear hb_)
        refine hK.out _ _ trivial (fun _ => ?_)
        clear hK K
        try simp only [Act.put, List.setIfInBounds_toArray, List.set_cons_zero, List.set_cons_succ]
        refine wpAnyH_ready (rs := [0]) (by kernel_rfl) (by simp) ?_
        refine AllReadyH.cons (by simp only [List.getElem?_toArray, List.getElem?_cons_succ, List.getElem?_cons_zero]; rfl) (fun K hK => ?_) AllReadyH.nil
        rw [if_pos (by rfl)]
        refine num_load_wp (.tmp 12) rfl hO32 2 (g := gq) (m := q0) (s := false) rfl rfl ?_
        refine hK.out _ _ trivial (fun _ => ?_)
        clear hK K
        try simp only [Act.put, List.setIfInBounds_toArray, List.set_cons_zero, List.set_cons_succ]
        refine wpAnyH_ready (rs := [2]) (by kernel_rfl) (by simp) ?_
        refine AllReadyH.cons (by simp only [List.getElem?_toArray, List.getElem?_cons_succ, List.getElem?_cons_zero]; rfl) (fun K hK => ?_) AllReadyH.nil
        go_simp
        (go_at_call 66; (with_reducible refine (num_more _ _ _ _ _).mono ?_); rintro e_ w33 ⟨rfl, hb_⟩; have hO33 := Own.call hO32 hb_; clear hb_)
        refine hK.out _ _ trivial (fun _ => ?_)
        clear hK K
        try simp only [Act.put, List.setIfInBounds_toArray, List.set_cons_zero, List.set_cons_succ]
        refine wpAnyH_ready (rs := [3]) (by kernel_rfl) (by simp) ?_
        refine AllReadyH.cons (by simp only [List.getElem?_toArray, List.getElem?_cons_succ, List.getElem?_cons_zero]; rfl) (fun K hK => ?_) AllReadyH.nil
        rw [if_pos (by rfl)]
        refine num_store_wp (.tmp 12) (.tmp 73) rfl hO33 2 (m' := q0 + 1) (s' := false) rfl rfl rfl ?_
        intro w34 hO34
        replace hO34 : Own w w34 [(gP, n, pn), (gD, d, cn), (gq, (q0 + 1), false), (gr, r0, false)] := hO34
        refine hK.out _ _ trivial (fun _ => ?_)
        clear hK K
        try simp only [Act.put, List.setIfInBounds_toArray, List.set_cons_zero, List.set_cons_succ]
        refine wpAnyH_done (by kernel_rfl) ?_ _
        clear HO
        have HO := Aside0.mk hO34
        clear hO33 hO34
        clear hO32 hOd
        have zq := HO.out.neg 2 rfl
        have zf := HO.out.free 2 136 rfl
        go_upto_region 21 with (first | ((with_reducible refine gate_dst (N := 76) rfl ?_); (refine gate_guard (by rfl) ?_; dsimp only); refine num_load ?hg (N := 76) ?hd (.tmp 12) ?ho HO.out 2 (g := gq) (m := (q0 + 1)) (s := false) ?hi ?hx ?_; (case hd => rfl); (case hg => rfl); (case ho => rfl); (case hi => rfl); (case hx => rfl)) | (go_at_call 63; (with_reducible refine (HNQ.out _).mono ?_); rintro e_ w15 ⟨rfl, hb_⟩; clear zq zf; have n0_ : Aside0 (Own w w15 [(gP, n, pn), (gD, d, cn), (gq, (q0 + 1), false), (gr, r0, false)]) := ⟨HO.out.call hb_⟩; clear HO hb_; have HO := n0_; clear n0_; have zq := HO.out.neg 2 rfl; have zf := HO.out.free 2 136 rfl))
        refine num_abs (w0 := w) (l := [(gP, n, pn), (gD, d, cn), (gq, (q0 + 1), false), (gr, r0, false)]) (HO.out.sign 2 rfl _) ?_
        intro w16 hO_
        clear HO
        have HO := Aside0.mk hO_
        clear hO_
        clear zq zf
        go_wp2_with (first | ((with_reducible refine gate_dst (N := 81) rfl ?_); refine num_load ?hg (N := 81) ?hd (.tmp 12) ?ho HO.out 2 (g := gq) (m := (q0 + 1)) (s := false) ?hi ?hx ?_; (case hd => rfl); (case hg => rfl); (case ho => rfl); (case hi => rfl); (case hx => rfl)) | (go_at_call 67; (with_reducible refine (HTO.out _).mono ?_); rintro e_ w17 ⟨rfl, hb_⟩; have n0_ : Aside0 (Own w w17 [(gP, n, pn), (gD, d, cn), (gq, (q0 + 1), false), (gr, r0, false)]) := ⟨HO.out.call hb_⟩; clear HO hb_; have HO := n0_; clear n0_))
        go_ret2
        exact ⟨rfl, HO.out.below⟩
    case true.true =>
      have hq6 : (q0 + 1) < 2 ^ 136 := q_up1 HQB.out
      have hv := HV.out _ HAW.out
      obtain ⟨z, hnq, hto⟩ := div_fin (q := (q0 + 1)) (ng := true) (r1 := r1) (r2 := r2) hq6 (by simpa using hv)
      have HNQ := Aside0.mk hnq
      have HTO : Aside0 (∀ w, Calls Try.prog 67 #[.agg (numC (q0 + 1) (!z))] w fun e w' => e = .returned (.tuple #[.int .i64 r1, .int .i64 r2]) ∧ Below w.heap.size w w') := ⟨hto⟩
      clear hnq hto HV hv hq6 HAW
      go_upto_region 19 with (fail)
      refine wp_region_held_drew (S := fun _ => True) (by kernel_rfl) trivial (fun _ => ?_)
      have hOd := HO.out.drew
      refine wpAnyH_ready (rs := [0, 1]) (by kernel_rfl) (by simp) ?_
      refine AllReadyH.cons (by simp only [List.getElem?_toArray, List.getElem?_cons_succ, List.getElem?_cons_zero]; rfl) (fun K hK => ?aa) (AllReadyH.cons (by simp only [List.getElem?_toArray, List.getElem?_cons_succ, List.getElem?_cons_zero]; rfl) (fun K hK => ?bb) AllReadyH.nil)
      case aa =>
        rw [if_pos (by rfl)]
        refine num_load_wp (.tmp 12) rfl hOd 2 (g := gq) (m := q0) (s := false) rfl rfl ?_
        refine hK.out _ _ trivial (fun _ => ?_)
        clear hK K
        try simp only [Act.put, List.setIfInBounds_toArray, List.set_cons_zero, List.set_cons_succ]
        refine wpAnyH_ready (rs := [1]) (by kernel_rfl) (by simp) ?_
        refine AllReadyH.cons (by simp only [List.getElem?_toArray, List.getElem?_cons_succ, List.getElem?_cons_zero]; rfl) (fun K hK => ?_) AllReadyH.nil
        go_simp
        (go_at_call 56; (with_reducible refine (HO1.out _).mono ?_); rintro e_ w32 ⟨rfl, hb_⟩; have hO32 := Own.call hOd hb_; clear hb_)
        refine hK.out _ _ trivial (fun _ => ?_)
        clear hK K
        try simp only [Act.put, List.setIfInBounds_toArray, List.set_cons_zero, List.set_cons_succ]
        refine wpAnyH_ready (rs := [2]) (by kernel_rfl) (by simp) ?_
        refine AllReadyH.cons (by simp only [List.getElem?_toArray, List.getElem?_cons_succ, List.getElem?_cons_zero]; rfl) (fun K hK => ?_) AllReadyH.nil
        go_simp
        (go_at_call 66; (with_reducible refine (num_more _ _ _ _ _).mono ?_); rintro e_ w33 ⟨rfl, hb_⟩; have hO33 := Own.call hO32 hb_; clear hb_)
        refine hK.out _ _ trivial (fun _ => ?_)
        clear hK K
        try simp only [Act.put, List.setIfInBounds_toArray, List.set_cons_zero, List.set_cons_succ]
        refine wpAnyH_ready (rs := [3]) (by kernel_rfl) (by simp) ?_
        refine AllReadyH.cons (by simp only [List.getElem?_toArray, List.getElem?_cons_succ, List.getElem?_cons_zero]; rfl) (fun K hK => ?_) AllReadyH.nil
        rw [if_pos (by rfl)]
        refine num_store_wp (.tmp 12) (.tmp 73) rfl hO33 2 (m' := q0 + 1) (s' := false) rfl rfl rfl ?_
        intro w34 hO34
        replace hO34 : Own w w34 [(gP, n, pn), (gD, d, cn), (gq, (q0 + 1), false), (gr, r0, false)] := hO34
        refine hK.out _ _ trivial (fun _ => ?_)
        clear hK K
        try simp only [Act.put, List.setIfInBounds_toArray, List.set_cons_zero, List.set_cons_succ]
        refine wpAnyH_done (by kernel_rfl) ?_ _
        clear HO
        have HO := Aside0.mk hO34
        clear hO33 hO34
        clear hO32 hOd
        have zq := HO.out.neg 2 rfl
        have zf := HO.out.free 2 136 rfl
        go_upto_region 21 with (first | ((with_reducible refine gate_dst (N := 76) rfl ?_); (refine gate_guard (by rfl) ?_; dsimp only); refine num_load ?hg (N := 76) ?hd (.tmp 12) ?ho HO.out 2 (g := gq) (m := (q0 + 1)) (s := false) ?hi ?hx ?_; (case hd => rfl); (case hg => rfl); (case ho => rfl); (case hi => rfl); (case hx => rfl)) | (go_at_call 63; (with_reducible refine (HNQ.out _).mono ?_); rintro e_ w15 ⟨rfl, hb_⟩; clear zq zf; have n0_ : Aside0 (Own w w15 [(gP, n, pn), (gD, d, cn), (gq, (q0 + 1), false), (gr, r0, false)]) := ⟨HO.out.call hb_⟩; clear HO hb_; have HO := n0_; clear n0_; have zq := HO.out.neg 2 rfl; have zf := HO.out.free 2 136 rfl))
        refine num_abs (w0 := w) (l := [(gP, n, pn), (gD, d, cn), (gq, (q0 + 1), (!z)), (gr, r0, false)]) (HO.out.sign 2 rfl _) ?_
        intro w16 hO_
        clear HO
        have HO := Aside0.mk hO_
        clear hO_
        clear zq zf
        go_wp2_with (first | ((with_reducible refine gate_dst (N := 81) rfl ?_); refine num_load ?hg (N := 81) ?hd (.tmp 12) ?ho HO.out 2 (g := gq) (m := (q0 + 1)) (s := (!z)) ?hi ?hx ?_; (case hd => rfl); (case hg => rfl); (case ho => rfl); (case hi => rfl); (case hx => rfl)) | (go_at_call 67; (with_reducible refine (HTO.out _).mono ?_); rintro e_ w17 ⟨rfl, hb_⟩; have n0_ : Aside0 (Own w w17 [(gP, n, pn), (gD, d, cn), (gq, (q0 + 1), (!z)), (gr, r0, false)]) := ⟨HO.out.call hb_⟩; clear HO hb_; have HO := n0_; clear n0_))
        go_ret2
        exact ⟨rfl, HO.out.below⟩
      case bb =>
        go_simp
        (go_at_call 56; (with_reducible refine (HO1.out _).mono ?_); rintro e_ w32 ⟨rfl, hb_⟩; have hO32 := Own.call hOd hb_; clear hb_)
        refine hK.out _ _ trivial (fun _ => ?_)
        clear hK K
        try simp only [Act.put, List.setIfInBounds_toArray, List.set_cons_zero, List.set_cons_succ]
        refine wpAnyH_ready (rs := [0]) (by kernel_rfl) (by simp) ?_
        refine AllReadyH.cons (by simp only [List.getElem?_toArray, List.getElem?_cons_succ, List.getElem?_cons_zero]; rfl) (fun K hK => ?_) AllReadyH.nil
        rw [if_pos (by rfl)]
        refine num_load_wp (.tmp 12) rfl hO32 2 (g := gq) (m := q0) (s := false) rfl rfl ?_
        refine hK.out _ _ trivial (fun _ => ?_)
        clear hK K
        try simp only [Act.put, List.setIfInBounds_toArray, List.set_cons_zero, List.set_cons_succ]
        refine wpAnyH_ready (rs := [2]) (by kernel_rfl) (by simp) ?_
        refine AllReadyH.cons (by simp only [List.getElem?_toArray, List.getElem?_cons_succ, List.getElem?_cons_zero]; rfl) (fun K hK => ?_) AllReadyH.nil
        go_simp
        (go_at_call 66; (with_reducible refine (num_more _ _ _ _ _).mono ?_); rintro e_ w33 ⟨rfl, hb_⟩; have hO33 := Own.call hO32 hb_; clear hb_)
        refine hK.out _ _ trivial (fun _ => ?_)
        clear hK K
        try simp only [Act.put, List.setIfInBounds_toArray, List.set_cons_zero, List.set_cons_succ]
        refine wpAnyH_ready (rs := [3]) (by kernel_rfl) (by simp) ?_
        refine AllReadyH.cons (by simp only [List.getElem?_toArray, List.getElem?_cons_succ, List.getElem?_cons_zero]; rfl) (fun K hK => ?_) AllReadyH.nil
        rw [if_pos (by rfl)]
        refine num_store_wp (.tmp 12) (.tmp 73) rfl hO33 2 (m' := q0 + 1) (s' := false) rfl rfl rfl ?_
        intro w34 hO34
        replace hO34 : Own w w34 [(gP, n, pn), (gD, d, cn), (gq, (q0 + 1), false), (gr, r0, false)] := hO34
        refine hK.out _ _ trivial (fun _ => ?_)
        clear hK K
        try simp only [Act.put, List.setIfInBounds_toArray, List.set_cons_zero, List.set_cons_succ]
        refine wpAnyH_done (by kernel_rfl) ?_ _
        clear HO
        have HO := Aside0.mk hO34
        clear hO33 hO34
        clear hO32 hOd
        have zq := HO.out.neg 2 rfl
        have zf := HO.out.free 2 136 rfl
        go_upto_region 21 with (first | ((with_reducible refine gate_dst (N := 76) rfl ?_); (refine gate_guard (by rfl) ?_; dsimp only); refine num_load ?hg (N := 76) ?hd (.tmp 12) ?ho HO.out 2 (g := gq) (m := (q0 + 1)) (s := false) ?hi ?hx ?_; (case hd => rfl); (case hg => rfl); (case ho => rfl); (case hi => rfl); (case hx => rfl)) | (go_at_call 63; (with_reducible refine (HNQ.out _).mono ?_); rintro e_ w15 ⟨rfl, hb_⟩; clear zq zf; have n0_ : Aside0 (Own w w15 [(gP, n, pn), (gD, d, cn), (gq, (q0 + 1), false), (gr, r0, false)]) := ⟨HO.out.call hb_⟩; clear HO hb_; have HO := n0_; clear n0_; have zq := HO.out.neg 2 rfl; have zf := HO.out.free 2 136 rfl))
        refine num_abs (w0 := w) (l := [(gP, n, pn), (gD, d, cn), (gq, (q0 + 1), (!z)), (gr, r0, false)]) (HO.out.sign 2 rfl _) ?_
        intro w16 hO_
        clear HO
        have HO := Aside0.mk hO_
        clear hO_
        clear zq zf
        go_wp2_with (first | ((with_reducible refine gate_dst (N := 81) rfl ?_); refine num_load ?hg (N := 81) ?hd (.tmp 12) ?ho HO.out 2 (g := gq) (m := (q0 + 1)) (s := (!z)) ?hi ?hx ?_; (case hd => rfl); (case hg => rfl); (case ho => rfl); (case hi => rfl); (case hx => rfl)) | (go_at_call 67; (with_reducible refine (HTO.out _).mono ?_); rintro e_ w17 ⟨rfl, hb_⟩; have n0_ : Aside0 (Own w w17 [(gP, n, pn), (gD, d, cn), (gq, (q0 + 1), (!z)), (gr, r0, false)]) := ⟨HO.out.call hb_⟩; clear HO hb_; have HO := n0_; clear n0_))
        go_ret2
        exact ⟨rfl, HO.out.below⟩

/-! ### jobberref07_Edges: function 20 -/
def jobberref07_Edges.j0 : Nat → Int → Int → Bool → Option (Int × Int)
  | 0, _, _, _ => none
  | k + 1, x0, x1, x18 => if x18 = true then (some (1, 1099511627776)) else ((jobberref01_Div.f x0 x1 1000000 1).bind fun bt138 => (if (wrap64 (x0 - bt138.1)) < 1 then (if (wrap64 (x0 + bt138.1)) > 1099511627776 then (some (1, 1099511627776)) else (some (1, wrap64 (x0 + bt138.1)))) else (if (wrap64 (x0 + bt138.1)) > 1099511627776 then (some (wrap64 (x0 - bt138.1), 1099511627776)) else (some (wrap64 (x0 - bt138.1), wrap64 (x0 + bt138.1))))))
def jobberref07_Edges.f (k : Nat) (a0 : Int) (a1 : Int) : Option (Int × Int) := (jobberref07_wrong.f a0 a1).bind fun t137 => (if t137 = true then (some (0, 0)) else (if a0 = 0 then (jobberref07_Edges.j0 k a0 a1 true) else (jobberref07_Edges.j0 k a0 a1 (a1 == 0))))
theorem jobberref07_Edges.mono_l : ∀ k, (∀ y0 y1 y2, LeO (jobberref07_Edges.j0 k y0 y1 y2) (jobberref07_Edges.j0 (k + 1) y0 y1 y2))
  | 0 => fun _ _ _ r h => by simp [jobberref07_Edges.j0] at h
  | k + 1 => by
    have ih0 := jobberref07_Edges.mono_l k
    · intro y0 y1 y2
      unfold jobberref07_Edges.j0
      repeat' first
      | (with_reducible exact ih0 _ _ _)
      | (with_reducible exact LeO.refl _)
      | (with_reducible exact LeO.none _)
      | (with_reducible refine LeO.ite ?_ ?_)
      | (with_reducible refine LeO.bind ?_ (fun _ => ?_))
      | exact ih0 _ _ _
      | exact LeO.none _
      | refine LeO.ite ?_ ?_
      | refine LeO.bind ?_ (fun _ => ?_)
theorem jobberref07_Edges.mono : ∀ a0 a1 k, LeO (jobberref07_Edges.f k a0 a1) (jobberref07_Edges.f (k + 1) a0 a1) := by
  intro a0 a1 k
  have ih0 := jobberref07_Edges.mono_l k
  unfold jobberref07_Edges.f
  repeat' first
      | (with_reducible exact ih0 _ _ _)
      | (with_reducible exact LeO.refl _)
      | (with_reducible exact LeO.none _)
      | (with_reducible refine LeO.ite ?_ ?_)
      | (with_reducible refine LeO.bind ?_ (fun _ => ?_))
      | exact ih0 _ _ _
      | exact LeO.none _
      | refine LeO.ite ?_ ?_
      | refine LeO.bind ?_ (fun _ => ?_)
set_option maxHeartbeats 8000000 in
set_option maxRecDepth 100000 in
theorem jobberref07_Edges.calls (k : Nat) (a0 : Int) (a1 : Int) (r1 : Int) (r2 : Int) (w : World) (h : jobberref07_Edges.f k a0 a1 = some (r1, r2)) :
    Calls Try.prog 20 #[.int .i64 a0, .int .i64 a1] w fun e w' => e = .returned (.tuple #[.int .i64 r1, .int .i64 r2]) ∧ Below w.heap.size w w' := by
  have HB := Aside0.mk (Below.refl w.heap.size w)
  have H : ((jobberref07_wrong.f a0 a1).bind fun t137 => (if t137 = true then (some (0, 0)) else (if a0 = 0 then (jobberref07_Edges.j0 k a0 a1 true) else (jobberref07_Edges.j0 k a0 a1 (a1 == 0))))) = some (r1, r2) := h
  clear h
  replace H := Option.bind_eq_some_iff.mp H
  obtain ⟨t137, A30, H⟩ := H
  replace H : (if t137 = true then (some (0, 0)) else (if a0 = 0 then (jobberref07_Edges.j0 k a0 a1 true) else (jobberref07_Edges.j0 k a0 a1 (a1 == 0)))) = some (r1, r2) := H
  have A3 := Aside0.mk A30
  clear A30
  by_cases c4 : t137 = true
  · subst c4
    have H1 : (some (0, 0)) = some (r1, r2) := by rw [if_pos rfl] at H; exact H
    clear H
    have H := H1
    clear H1
    simp only [Option.some.injEq, Prod.mk.injEq] at H
    obtain ⟨rfl, rfl⟩ := H
    go_enter Try.func20, Try.ntmps20
    go_wp2_with (first | ((with_reducible refine gate_callee (f := 43) rfl ?_); refine goesL_ (some 12) rfl rfl Try.func43 (by kernel_rfl) rfl #[.int .i64 a0, .int .i64 a1] rfl (by (try simp only [List.map_toArray, List.map_cons, List.map_nil]); first | done | rfl | (simp only [List.length_drop, List.length_take]; rfl)) ?_; (with_reducible refine (jobberref07_wrong.calls a0 a1 true _ A3.out).mono ?_); rintro e w' ⟨rfl, ⟨nd, rfl⟩⟩; refine ⟨_, rfl, ?_⟩))
    go_ret2
    exact ⟨by first | rfl | (simp [errW_none, errW_some] <;> rfl) | (simp [*, errW_none, errW_some] <;> rfl), by repeat (first | (with_reducible first | exact HB.out | apply below_alloc | apply pw_below_drewN | apply below_drew1) | exact HB.out)⟩
  · replace c4 := Bool.eq_false_iff.mpr c4
    subst c4
    have H1 : (if a0 = 0 then (jobberref07_Edges.j0 k a0 a1 true) else (jobberref07_Edges.j0 k a0 a1 (a1 == 0))) = some (r1, r2) := by rw [if_neg (show ¬ (false = true) by decide)] at H; exact H
    clear H
    have H := H1
    clear H1
    have HC5 := Aside0.mk H
    clear H
    go_enter Try.func20, Try.ntmps20
    go_upto_region 3 with (first | ((with_reducible refine gate_callee (f := 43) rfl ?_); refine goesL_ (some 12) rfl rfl Try.func43 (by kernel_rfl) rfl #[.int .i64 a0, .int .i64 a1] rfl (by (try simp only [List.map_toArray, List.map_cons, List.map_nil]); first | done | rfl | (simp only [List.length_drop, List.length_take]; rfl)) ?_; (with_reducible refine (jobberref07_wrong.calls a0 a1 false _ A3.out).mono ?_); rintro e w' ⟨rfl, ⟨nd, rfl⟩⟩; refine ⟨_, rfl, ?_⟩))
    (try simp only [Act.put, List.setIfInBounds_toArray, List.set_cons_zero, List.set_cons_succ])
    go_cut [18] (fun v18 wc => ∃ (kq : Nat) (x18_4 : Bool), v18 = .bool x18_4 ∧ Aside0 (jobberref07_Edges.j0 kq a0 a1 x18_4 = some (r1, r2)) ∧ Aside0 (kq ≤ k) ∧ Aside0 (Below w.heap.size w wc))
    case first =>
      have H := HC5.out
      clear HC5
      by_cases c6 : a0 = 0
      · rw [if_pos c6] at H
        have c6b0 : (a0 == 0) = true := beq_iff_eq.mpr c6
        have c6b1 : (a0 != 0) = false := bne_eq_false_iff_eq.mpr c6
        clear c6
        (first | rw [c6b0] | (simp only [i64_w, i32_w]; rw [c6b0]) | skip)
        have H' := Aside0.mk H
        clear H
        go_wp2
        go_meet
        case rel => exact ⟨_, (true), (by first | rfl | (simp; done) | (simp [*]; done)), H', ⟨by first | omega | exact Nat.le_refl _⟩, ⟨by repeat (first | (with_reducible first | exact HB.out | apply below_alloc | apply pw_below_drewN | apply below_drew1) | exact HB.out)⟩⟩
      · rw [if_neg c6] at H
        have c6b0 : (a0 == 0) = false := beq_eq_false_iff_ne.mpr c6
        have c6b1 : (a0 != 0) = true := bne_iff_ne.mpr c6
        (first | rw [c6b0] | (simp only [i64_w, i32_w]; rw [c6b0]) | skip)
        have H' := Aside0.mk H
        clear H
        go_wp2
        go_meet
        case rel => exact ⟨_, ((a1 == 0)), (by first | rfl | (simp; done) | (simp [*]; done)), H', ⟨by first | omega | exact Nat.le_refl _⟩, ⟨by repeat (first | (with_reducible first | exact HB.out | apply below_alloc | apply pw_below_drewN | apply below_drew1) | exact HB.out)⟩⟩
    case rest =>
      clear HC5
      try clear c2
      try clear p2
      try clear c4
      try clear c6
      try clear c6b0
      try clear c6b1
      obtain ⟨kq, x18_4, rfl, HA, HJ4, HB⟩ := hcut
      cases kq with
      | zero => exact absurd HA.out (by simp [jobberref07_Edges.j0])
      | succ kj4 =>
        have H := HA.out
        clear HA
        simp only [jobberref07_Edges.j0] at H
        by_cases c7 : x18_4 = true
        · subst c7
          have H1 : (some (1, 1099511627776)) = some (r1, r2) := by rw [if_pos rfl] at H; exact H
          clear H
          have H := H1
          clear H1
          simp only [Option.some.injEq, Prod.mk.injEq] at H
          obtain ⟨rfl, rfl⟩ := H
          go_wp2
          go_ret2
          exact ⟨by first | rfl | (simp [errW_none, errW_some] <;> rfl) | (simp [*, errW_none, errW_some] <;> rfl), by repeat (first | (with_reducible first | exact HB.out | apply below_alloc | apply pw_below_drewN | apply below_drew1) | exact HB.out)⟩
        · replace c7 := Bool.eq_false_iff.mpr c7
          subst c7
          have H1 : ((jobberref01_Div.f a0 a1 1000000 1).bind fun bt138 => (if (wrap64 (a0 - bt138.1)) < 1 then (if (wrap64 (a0 + bt138.1)) > 1099511627776 then (some (1, 1099511627776)) else (some (1, wrap64 (a0 + bt138.1)))) else (if (wrap64 (a0 + bt138.1)) > 1099511627776 then (some (wrap64 (a0 - bt138.1), 1099511627776)) else (some (wrap64 (a0 - bt138.1), wrap64 (a0 + bt138.1)))))) = some (r1, r2) := by rw [if_neg (show ¬ (false = true) by decide)] at H; exact H
          clear H
          have H := H1
          clear H1
          replace H := Option.bind_eq_some_iff.mp H
          obtain ⟨⟨t138, t139⟩, A80, H⟩ := H
          replace H : (if (wrap64 (a0 - t138)) < 1 then (if (wrap64 (a0 + t138)) > 1099511627776 then (some (1, 1099511627776)) else (some (1, wrap64 (a0 + t138)))) else (if (wrap64 (a0 + t138)) > 1099511627776 then (some (wrap64 (a0 - t138), 1099511627776)) else (some (wrap64 (a0 - t138), wrap64 (a0 + t138))))) = some (r1, r2) := H
          have A8 := Aside0.mk A80
          clear A80
          by_cases c9 : (wrap64 (a0 - t138)) < 1
          · rw [if_pos c9] at H
            have c9b0 : decide ((wrap64 (a0 - t138)) < 1) = true := decide_eq_true c9
            clear c9
            by_cases c10 : (wrap64 (a0 + t138)) > 1099511627776
            · rw [if_pos c10] at H
              have c10b0 : decide (1099511627776 < (wrap64 (a0 + t138))) = true := decide_eq_true c10
              clear c10
              simp only [Option.some.injEq, Prod.mk.injEq] at H
              obtain ⟨rfl, rfl⟩ := H
              go_wp2_with (first | ((with_reducible refine gate_callee (f := 46) rfl ?_); refine goesL_ (some 22) rfl rfl Try.func46 (by kernel_rfl) rfl #[.int .i64 a0, .int .i64 a1, .int .i64 1000000, .int .i64 1] rfl (by (try simp only [List.map_toArray, List.map_cons, List.map_nil]); first | done | rfl | (simp only [List.length_drop, List.length_take]; rfl)) ?_; (with_reducible refine (jobberref01_Div.calls a0 a1 1000000 1 t138 t139 _ A8.out).mono ?_); rintro e w11 ⟨rfl, hb⟩; refine ⟨_, rfl, ?_⟩; have n0_ := Aside0.mk (below_step (by repeat (first | (with_reducible first | exact HB.out | apply below_alloc | apply pw_below_drewN | apply below_drew1) | exact HB.out)) hb); clear HB; have HB := n0_; clear n0_; (try clear hb); (try clear hb2); (try clear hk); (try clear hi)))
              go_ret2
              exact ⟨by first | rfl | (simp [errW_none, errW_some] <;> rfl) | (simp [*, errW_none, errW_some] <;> rfl), by repeat (first | (with_reducible first | exact HB.out | apply below_alloc | apply pw_below_drewN | apply below_drew1) | exact HB.out)⟩
            · rw [if_neg c10] at H
              have c10b0 : decide (1099511627776 < (wrap64 (a0 + t138))) = false := decide_eq_false c10
              clear c10
              simp only [Option.some.injEq, Prod.mk.injEq] at H
              obtain ⟨rfl, rfl⟩ := H
              go_wp2_with (first | ((with_reducible refine gate_callee (f := 46) rfl ?_); refine goesL_ (some 22) rfl rfl Try.func46 (by kernel_rfl) rfl #[.int .i64 a0, .int .i64 a1, .int .i64 1000000, .int .i64 1] rfl (by (try simp only [List.map_toArray, List.map_cons, List.map_nil]); first | done | rfl | (simp only [List.length_drop, List.length_take]; rfl)) ?_; (with_reducible refine (jobberref01_Div.calls a0 a1 1000000 1 t138 t139 _ A8.out).mono ?_); rintro e w12 ⟨rfl, hb⟩; refine ⟨_, rfl, ?_⟩; have n0_ := Aside0.mk (below_step (by repeat (first | (with_reducible first | exact HB.out | apply below_alloc | apply pw_below_drewN | apply below_drew1) | exact HB.out)) hb); clear HB; have HB := n0_; clear n0_; (try clear hb); (try clear hb2); (try clear hk); (try clear hi)))
              go_ret2
              exact ⟨by first | rfl | (simp [errW_none, errW_some] <;> rfl) | (simp [*, errW_none, errW_some] <;> rfl), by repeat (first | (with_reducible first | exact HB.out | apply below_alloc | apply pw_below_drewN | apply below_drew1) | exact HB.out)⟩
          · rw [if_neg c9] at H
            have c9b0 : decide ((wrap64 (a0 - t138)) < 1) = false := decide_eq_false c9
            clear c9
            by_cases c13 : (wrap64 (a0 + t138)) > 1099511627776
            · rw [if_pos c13] at H
              have c13b0 : decide (1099511627776 < (wrap64 (a0 + t138))) = true := decide_eq_true c13
              clear c13
              simp only [Option.some.injEq, Prod.mk.injEq] at H
              obtain ⟨rfl, rfl⟩ := H
              go_wp2_with (first | ((with_reducible refine gate_callee (f := 46) rfl ?_); refine goesL_ (some 22) rfl rfl Try.func46 (by kernel_rfl) rfl #[.int .i64 a0, .int .i64 a1, .int .i64 1000000, .int .i64 1] rfl (by (try simp only [List.map_toArray, List.map_cons, List.map_nil]); first | done | rfl | (simp only [List.length_drop, List.length_take]; rfl)) ?_; (with_reducible refine (jobberref01_Div.calls a0 a1 1000000 1 t138 t139 _ A8.out).mono ?_); rintro e w14 ⟨rfl, hb⟩; refine ⟨_, rfl, ?_⟩; have n0_ := Aside0.mk (below_step (by repeat (first | (with_reducible first | exact HB.out | apply below_alloc | apply pw_below_drewN | apply below_drew1) | exact HB.out)) hb); clear HB; have HB := n0_; clear n0_; (try clear hb); (try clear hb2); (try clear hk); (try clear hi)))
              go_ret2
              exact ⟨by first | rfl | (simp [errW_none, errW_some] <;> rfl) | (simp [*, errW_none, errW_some] <;> rfl), by repeat (first | (with_reducible first | exact HB.out | apply below_alloc | apply pw_below_drewN | apply below_drew1) | exact HB.out)⟩
            · rw [if_neg c13] at H
              have c13b0 : decide (1099511627776 < (wrap64 (a0 + t138))) = false := decide_eq_false c13
              clear c13
              simp only [Option.some.injEq, Prod.mk.injEq] at H
              obtain ⟨rfl, rfl⟩ := H
              go_wp2_with (first | ((with_reducible refine gate_callee (f := 46) rfl ?_); refine goesL_ (some 22) rfl rfl Try.func46 (by kernel_rfl) rfl #[.int .i64 a0, .int .i64 a1, .int .i64 1000000, .int .i64 1] rfl (by (try simp only [List.map_toArray, List.map_cons, List.map_nil]); first | done | rfl | (simp only [List.length_drop, List.length_take]; rfl)) ?_; (with_reducible refine (jobberref01_Div.calls a0 a1 1000000 1 t138 t139 _ A8.out).mono ?_); rintro e w15 ⟨rfl, hb⟩; refine ⟨_, rfl, ?_⟩; have n0_ := Aside0.mk (below_step (by repeat (first | (with_reducible first | exact HB.out | apply below_alloc | apply pw_below_drewN | apply below_drew1) | exact HB.out)) hb); clear HB; have HB := n0_; clear n0_; (try clear hb); (try clear hb2); (try clear hk); (try clear hi)))
              go_ret2
              exact ⟨by first | rfl | (simp [errW_none, errW_some] <;> rfl) | (simp [*, errW_none, errW_some] <;> rfl), by repeat (first | (with_reducible first | exact HB.out | apply below_alloc | apply pw_below_drewN | apply below_drew1) | exact HB.out)⟩

end Go.Proofs.Ythaaghkplbbgdaa.Lia
