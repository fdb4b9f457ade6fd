/- Printed by this session's wip/drive.py over the translation; some functions by hand. -/
import Derived.Test.YthaaghkplbbgdaaShbx0
import Derived.Test.YthaaghkplbbgdaaShbx3
namespace Go.Proofs.Ythaaghkplbbgdaa.Shb
open Go.RowKit Go.Proofs.YthaaghkplbbgdaaW.PrintWords Go.Proofs.YthaaghkplbbgdaaW.PrintLast Go.Proofs.YthaaghkplbbgdaaW.PrintMore
attribute [local go_sem] max2_int min2_int max_two min_two max_three min_three max_four min_four   -- for this text's walks alone
set_option linter.unusedVariables false
set_option linter.unusedSimpArgs false

/-! ### jobberref16_Total: function 27 -/
mutual
def jobberref16_Total.j0 : Nat → List (S73) → Int → Bool → Option (Int)
  | 0, _, _, _ => none
  | k + 1, x0, x1, x17 => if x17 = true then (some 0) else (jobberref16_Total.l0 k x0 x1 0 0)
def jobberref16_Total.l0 : Nat → List (S73) → Int → Int → Int → Option (Int)
  | 0, _, _, _, _ => none
  | k + 1, x0, x1, x5, x6 => if x6 < (x0.length : Int) then (if 0 ≤ x6 then (if ((rd_T73 x0 x6).f4) < 0 then (some 0) else (if ((rd_T73 x0 x6).f4) > 1099511627776 then (some 0) else ((jobberref07_Trim.f x1 ((rd_T73 x0 x6).f4)).bind fun t166 => (jobberref16_Total.l0 k x0 x1 (wrap64 (x5 + t166)) (wrap64 (x6 + 1)))))) else (none)) else (some x5)
end
def jobberref16_Total.f (k : Nat) (l0 : List (S73)) (a1 : Int) : Option (Int) := if a1 < 1 then (jobberref16_Total.j0 k l0 a1 true) else (if a1 > 1099511627776 then (jobberref16_Total.j0 k l0 a1 true) else (jobberref16_Total.j0 k l0 a1 (decide ((l0.length : Int) > 64))))
theorem jobberref16_Total.mono_l : ∀ k, (∀ y0 y1 y2, LeO (jobberref16_Total.j0 k y0 y1 y2) (jobberref16_Total.j0 (k + 1) y0 y1 y2)) ∧ (∀ y0 y1 y2 y3, LeO (jobberref16_Total.l0 k y0 y1 y2 y3) (jobberref16_Total.l0 (k + 1) y0 y1 y2 y3))
  | 0 => ⟨fun _ _ _ r h => by simp [jobberref16_Total.j0] at h, fun _ _ _ _ r h => by simp [jobberref16_Total.l0] at h⟩
  | k + 1 => by
    obtain ⟨ih0, ih1⟩ := jobberref16_Total.mono_l k
    refine ⟨?_, ?_⟩
    · intro y0 y1 y2
      unfold jobberref16_Total.j0
      repeat' first
      | (with_reducible exact ih0 _ _ _)
      | (with_reducible exact ih1 _ _ _ _)
      | (with_reducible exact LeO.refl _)
      | (with_reducible exact LeO.none _)
      | (with_reducible refine LeO.ite ?_ ?_)
      | (with_reducible refine LeO.bind ?_ (fun _ => ?_))
      | exact ih0 _ _ _
      | exact ih1 _ _ _ _
      | exact LeO.none _
      | refine LeO.ite ?_ ?_
      | refine LeO.bind ?_ (fun _ => ?_)
    · intro y0 y1 y2 y3
      unfold jobberref16_Total.l0
      repeat' first
      | (with_reducible exact ih0 _ _ _)
      | (with_reducible exact ih1 _ _ _ _)
      | (with_reducible exact LeO.refl _)
      | (with_reducible exact LeO.none _)
      | (with_reducible refine LeO.ite ?_ ?_)
      | (with_reducible refine LeO.bind ?_ (fun _ => ?_))
      | exact ih0 _ _ _
      | exact ih1 _ _ _ _
      | exact LeO.none _
      | refine LeO.ite ?_ ?_
      | refine LeO.bind ?_ (fun _ => ?_)
theorem jobberref16_Total.mono : ∀ a0 a1 k, LeO (jobberref16_Total.f k a0 a1) (jobberref16_Total.f (k + 1) a0 a1) := by
  intro a0 a1 k
  obtain ⟨ih0, ih1⟩ := jobberref16_Total.mono_l k
  unfold jobberref16_Total.f
  repeat' first
      | (with_reducible exact ih0 _ _ _)
      | (with_reducible exact ih1 _ _ _ _)
      | (with_reducible exact LeO.refl _)
      | (with_reducible exact LeO.none _)
      | (with_reducible refine LeO.ite ?_ ?_)
      | (with_reducible refine LeO.bind ?_ (fun _ => ?_))
      | exact ih0 _ _ _
      | exact ih1 _ _ _ _
      | exact LeO.none _
      | refine LeO.ite ?_ ?_
      | refine LeO.bind ?_ (fun _ => ?_)
set_option maxHeartbeats 8000000 in
set_option maxRecDepth 100000 in
theorem jobberref16_Total.calls (k : Nat) (A0 : Option Addr) (c0 : Nat) (l0 : List (S73)) (a1 : Int) (r : Int) (w : World) (hr0 : Kd.C k73 w A0 l0.length l0) (hc0 : l0.length ≤ c0) (h : jobberref16_Total.f k l0 a1 = some r) :
    Calls Try.prog 27 #[.slice A0 l0.length c0, .int .i64 a1] w fun e w' => e = .returned (.int .i64 r) ∧ Drawn0 w w' := by
  have HR0 := Aside0.mk hr0
  have HC0 := Aside0.mk hc0
  clear hr0 hc0
  have H : (if a1 < 1 then (jobberref16_Total.j0 k l0 a1 true) else (if a1 > 1099511627776 then (jobberref16_Total.j0 k l0 a1 true) else (jobberref16_Total.j0 k l0 a1 (decide ((l0.length : Int) > 64))))) = some r := h
  clear h
  have HC3 := Aside0.mk H
  clear H
  go_enter Try.func27, Try.ntmps27
  go_upto_region 1 with (fail)
  go_cut [17] (fun v17 wc => ∃ (kq : Nat) (x17_2 : Bool), v17 = .bool x17_2 ∧ Aside0 (jobberref16_Total.j0 kq l0 a1 x17_2 = some r) ∧ Aside0 (kq ≤ k) ∧ Drawn0 w wc)
  case first =>
    have H := HC3.out
    clear HC3
    by_cases c4 : a1 < 1
    · rw [if_pos c4] at H
      have c4b0 : decide (a1 < 1) = true := decide_eq_true c4
      clear c4
      (first | rw [c4b0] | (simp only [i64_w, i32_w]; rw [c4b0]) | skip)
      have H' := Aside0.mk H
      clear H
      go_wp2
      go_meet
      case rel => exact ⟨_, (true), (by first | rfl | (simp; done) | (simp [*]; done)), H', ⟨by first | omega | exact Nat.le_refl _⟩, by repeat (first | exact Drawn0.refl _ | apply Drawn0.step)⟩
    · rw [if_neg c4] at H
      have c4b0 : decide (a1 < 1) = false := decide_eq_false c4
      clear c4
      (first | rw [c4b0] | (simp only [i64_w, i32_w]; rw [c4b0]) | skip)
      by_cases c5 : a1 > 1099511627776
      · rw [if_pos c5] at H
        have c5b0 : decide (1099511627776 < a1) = true := decide_eq_true c5
        clear c5
        have H' := Aside0.mk H
        clear H
        go_wp2
        go_meet
        case rel => exact ⟨_, (true), (by first | rfl | (simp; done) | (simp [*]; done)), H', ⟨by first | omega | exact Nat.le_refl _⟩, by repeat (first | exact Drawn0.refl _ | apply Drawn0.step)⟩
      · rw [if_neg c5] at H
        have c5b0 : decide (1099511627776 < a1) = false := decide_eq_false c5
        clear c5
        have H' := Aside0.mk H
        clear H
        go_wp2
        go_meet
        case rel => exact ⟨_, (decide ((l0.length : Int) > 64)), (by first | rfl | (simp; done) | (simp [*]; done)), H', ⟨by first | omega | exact Nat.le_refl _⟩, by repeat (first | exact Drawn0.refl _ | apply Drawn0.step)⟩
  case rest =>
    clear HC3
    try clear c2
    try clear p2
    try clear c4
    try clear c4b0
    try clear c5
    try clear c5b0
    obtain ⟨kq, x17_2, rfl, HA, HJ2, ⟨mc2, rfl⟩⟩ := hcut
    cases kq with
    | zero => exact absurd HA.out (by simp [jobberref16_Total.j0])
    | succ kj2 =>
      have H := HA.out
      clear HA
      simp only [jobberref16_Total.j0] at H
      by_cases c6 : x17_2 = true
      · subst c6
        have H1 : (some 0) = some r := by rw [if_pos rfl] at H; exact H
        clear H
        have H := H1
        clear H1
        obtain rfl := Option.some.inj H
        go_wp2
        go_ret
        exact ⟨by first | rfl | (simp; done) | (simp [*]; done), by repeat (first | exact Drawn0.refl _ | apply Drawn0.step)⟩
      · replace c6 := Bool.eq_false_iff.mpr c6
        subst c6
        have H1 : (jobberref16_Total.l0 kj2 l0 a1 0 0) = some r := by rw [if_neg (show ¬ (false = true) by decide)] at H; exact H
        clear H
        have H := H1
        clear H1
        have H' := Aside0.mk H
        clear H
        go_wp2
        go_loopg [5, 6] kj2 (fun kq v5 v6 w' => ∃ (x5_2 : Int) (x6_2 : Int), v5 = .int .i64 x5_2 ∧ v6 = .int .i64 x6_2 ∧ Aside0 (jobberref16_Total.l0 kq l0 a1 x5_2 x6_2 = some r) ∧ Aside0 (kq ≤ kj2) ∧ Drawn0 w w')
        case atStart => exact ⟨(0), (0), (by first | rfl | (simp; done) | (simp [*]; done)), (by first | rfl | (simp; done) | (simp [*]; done)), H', ⟨Nat.le_refl _⟩, by repeat (first | exact Drawn0.refl _ | apply Drawn0.step)⟩
        case round =>
          clear H'
          try clear c2
          try clear p2
          try clear c4
          try clear c4b0
          try clear c5
          try clear c5b0
          try clear c6
          try clear p2
          obtain ⟨x5_2, x6_2, rfl, rfl, HA, HK2, ⟨m2, rfl⟩⟩ := hrel
          cases gk with
          | zero => exact absurd HA.out (by simp [jobberref16_Total.l0])
          | succ k2 =>
            have H := HA.out
            clear HA
            simp only [jobberref16_Total.l0] at H
            by_cases c7 : x6_2 < (l0.length : Int)
            · rw [if_pos c7] at H
              have c7b0 : decide (x6_2 < (l0.length : Int)) = true := decide_eq_true c7
              clear c7
              by_cases c8 : 0 ≤ x6_2
              · rw [if_pos c8] at H
                have c8b0 : decide (0 ≤ x6_2) = true := decide_eq_true c8
                clear c8
                by_cases c9 : ((rd_T73 l0 x6_2).f4) < 0
                · rw [if_pos c9] at H
                  have c9b0 : decide (((rd_T73 l0 x6_2).f4) < 0) = true := decide_eq_true c9
                  clear c9
                  obtain rfl := Option.some.inj H
                  have p163 : 0 ≤ (x6_2 : Int) := of_decide_eq_true (by first | (with_reducible assumption) | assumption)
                  have q163 : x6_2 < (l0.length : Int) := of_decide_eq_true (by first | (with_reducible assumption) | assumption)
                  obtain ⟨ad163, e163, hx163_0, hx163_1, hx163_2, hx163_3, hx163_4, hx163_5⟩ := at_T73 HR0.out x6_2 p163 q163
                  cases e163
                  replace p163 := eq_true p163
                  replace q163 := eq_true q163
                  go_wp2
                  go_ret
                  exact ⟨by first | rfl | (simp; done) | (simp [*]; done), by repeat (first | exact Drawn0.refl _ | apply Drawn0.step)⟩
                · rw [if_neg c9] at H
                  have c9b0 : decide (((rd_T73 l0 x6_2).f4) < 0) = false := decide_eq_false c9
                  clear c9
                  by_cases c10 : ((rd_T73 l0 x6_2).f4) > 1099511627776
                  · rw [if_pos c10] at H
                    have c10b0 : decide (1099511627776 < ((rd_T73 l0 x6_2).f4)) = true := decide_eq_true c10
                    clear c10
                    obtain rfl := Option.some.inj H
                    have p163 : 0 ≤ (x6_2 : Int) := of_decide_eq_true (by first | (with_reducible assumption) | assumption)
                    have q163 : x6_2 < (l0.length : Int) := of_decide_eq_true (by first | (with_reducible assumption) | assumption)
                    obtain ⟨ad163, e163, hx163_0, hx163_1, hx163_2, hx163_3, hx163_4, hx163_5⟩ := at_T73 HR0.out x6_2 p163 q163
                    cases e163
                    replace p163 := eq_true p163
                    replace q163 := eq_true q163
                    have p164 : 0 ≤ (x6_2 : Int) := of_decide_eq_true (by first | (with_reducible assumption) | assumption)
                    have q164 : x6_2 < (l0.length : Int) := of_decide_eq_true (by first | (with_reducible assumption) | assumption)
                    obtain ⟨ad164, e164, hx164_0, hx164_1, hx164_2, hx164_3, hx164_4, hx164_5⟩ := at_T73 HR0.out x6_2 p164 q164
                    obtain rfl : ad163 = ad164 := (by injection e164)
                    replace p164 := eq_true p164
                    replace q164 := eq_true q164
                    go_wp2
                    go_ret
                    exact ⟨by first | rfl | (simp; done) | (simp [*]; done), by repeat (first | exact Drawn0.refl _ | apply Drawn0.step)⟩
                  · rw [if_neg c10] at H
                    have c10b0 : decide (1099511627776 < ((rd_T73 l0 x6_2).f4)) = false := decide_eq_false c10
                    clear c10
                    replace H := Option.bind_eq_some_iff.mp H
                    obtain ⟨t166, A110, H⟩ := H
                    replace H : (jobberref16_Total.l0 k2 l0 a1 (wrap64 (x5_2 + t166)) (wrap64 (x6_2 + 1))) = some r := H
                    have A11 := Aside0.mk A110
                    clear A110
                    have H' := Aside0.mk H
                    clear H
                    have p163 : 0 ≤ (x6_2 : Int) := of_decide_eq_true (by first | (with_reducible assumption) | assumption)
                    have q163 : x6_2 < (l0.length : Int) := of_decide_eq_true (by first | (with_reducible assumption) | assumption)
                    obtain ⟨ad163, e163, hx163_0, hx163_1, hx163_2, hx163_3, hx163_4, hx163_5⟩ := at_T73 HR0.out x6_2 p163 q163
                    cases e163
                    replace p163 := eq_true p163
                    replace q163 := eq_true q163
                    have p164 : 0 ≤ (x6_2 : Int) := of_decide_eq_true (by first | (with_reducible assumption) | assumption)
                    have q164 : x6_2 < (l0.length : Int) := of_decide_eq_true (by first | (with_reducible assumption) | assumption)
                    obtain ⟨ad164, e164, hx164_0, hx164_1, hx164_2, hx164_3, hx164_4, hx164_5⟩ := at_T73 HR0.out x6_2 p164 q164
                    obtain rfl : ad163 = ad164 := (by injection e164)
                    replace p164 := eq_true p164
                    replace q164 := eq_true q164
                    have p165 : 0 ≤ (x6_2 : Int) := of_decide_eq_true (by first | (with_reducible assumption) | assumption)
                    have q165 : x6_2 < (l0.length : Int) := of_decide_eq_true (by first | (with_reducible assumption) | assumption)
                    obtain ⟨ad165, e165, hx165_0, hx165_1, hx165_2, hx165_3, hx165_4, hx165_5⟩ := at_T73 HR0.out x6_2 p165 q165
                    obtain rfl : ad163 = ad165 := (by injection e165)
                    replace p165 := eq_true p165
                    replace q165 := eq_true q165
                    go_wp2_with (first | ((with_reducible refine gate_callee (f := 15) rfl ?_); refine goesL_ (some 45) rfl rfl Try.func15 (by kernel_rfl) rfl #[.int .i64 a1, .int .i64 ((rd_T73 l0 x6_2).f4)] rfl (by (try simp only [List.map_toArray, List.map_cons, List.map_nil]); first | done | rfl | (simp only [List.length_drop, List.length_take]; rfl)) ?_; (with_reducible refine (jobberref07_Trim.calls a1 ((rd_T73 l0 x6_2).f4) t166 _ A11.out).mono ?_); rintro e w' ⟨rfl, ⟨nd, rfl⟩⟩; refine ⟨_, rfl, ?_⟩))
                    go_roundg k2
                    case measure => have := HJ2.out; have := HK2.out; omega
                    case rel => exact ⟨(wrap64 (x5_2 + t166)), (wrap64 (x6_2 + 1)), (by first | rfl | (simp; done) | (simp [*]; done)), (by first | rfl | (simp; done) | (simp [*]; done)), H', ⟨by have := HJ2.out; have := HK2.out; omega⟩, by repeat (first | exact Drawn0.refl _ | apply Drawn0.step)⟩
              · rw [if_neg c8] at H
                exact absurd H (by simp)
            · rw [if_neg c7] at H
              have c7b0 : decide (x6_2 < (l0.length : Int)) = false := decide_eq_false c7
              clear c7
              obtain rfl := Option.some.inj H
              go_wp2
              go_ret
              exact ⟨by first | rfl | (simp; done) | (simp [*]; done), by repeat (first | exact Drawn0.refl _ | apply Drawn0.step)⟩

/-! ### jobberref01_nought: function 63 (by hand; for other hand texts alone) -/
/-- A number's cells: its bits, and whether it is below 0. -/
def numL (m : Nat) (g : Bool) : List Value := (List.range 136).map (fun i => Value.bool (m.testBit i)) ++ [.bool g]
def numC (m : Nat) (g : Bool) : Array Value := (numL m g).toArray
theorem numC_size (m : Nat) (g : Bool) : (numC m g).size = 137 := by simp [numC, numL]
theorem numC_bit (m : Nat) (g : Bool) {i : Nat} (h : i < 136) : (numC m g)[i]? = some (.bool (m.testBit i)) := by
  simp [numC, numL, List.getElem?_append, h]
theorem numC_neg (m : Nat) (g : Bool) : (numC m g)[136]? = some (.bool g) := by
  simp [numC, numL, List.getElem?_append]
theorem numC_one (m : Nat) (g : Bool) : (numC m g).all (·.oneCell') = true := by
  simp [numC, numL, Value.oneCell']
theorem numC_set {m m' : Nat} {g : Bool} {i : Nat} {b : Bool} (hi : i < 136) (h : ∀ j, j < 136 → m'.testBit j = if j = i then b else m.testBit j) : (numC m g).setIfInBounds i (.bool b) = numC m' g := by
  apply Array.ext_getElem?
  intro j
  rw [Array.getElem?_setIfInBounds]
  by_cases hj : i = j
  · subst hj
    rw [if_pos rfl, numC_size, if_pos (by omega), numC_bit _ _ hi, h i hi, if_pos rfl]
  · rw [if_neg hj]
    by_cases hj2 : j < 136
    · rw [numC_bit _ _ hj2, numC_bit _ _ hj2, h j hj2, if_neg (fun e => hj e.symm)]
    · by_cases hj3 : j = 136
      · subst hj3; rw [numC_neg, numC_neg]
      · rw [Array.getElem?_eq_none (by rw [numC_size]; omega), Array.getElem?_eq_none (by rw [numC_size]; omega)]
theorem numC_setNeg (m : Nat) (g b : Bool) : (numC m g).setIfInBounds 136 (.bool b) = numC m b := by
  apply Array.ext_getElem?
  intro j
  rw [Array.getElem?_setIfInBounds]
  by_cases hj : 136 = j
  · subst hj
    rw [if_pos rfl, numC_size, if_pos (by omega), numC_neg]
  · rw [if_neg hj]
    by_cases hj2 : j < 136
    · rw [numC_bit _ _ hj2, numC_bit _ _ hj2]
    · rw [Array.getElem?_eq_none (by rw [numC_size]; omega), Array.getElem?_eq_none (by rw [numC_size]; omega)]
theorem numZ : (Array.replicate 137 (Value.bool false)) = numC 0 false := by
  apply Array.ext_getElem?
  intro j
  by_cases hj2 : j < 136
  · rw [numC_bit _ _ hj2, Array.getElem?_replicate, if_pos (by omega)]; simp
  · by_cases hj3 : j = 136
    · subst hj3; rw [numC_neg]; simp
    · rw [Array.getElem?_eq_none (by simp; omega), Array.getElem?_eq_none (by rw [numC_size]; omega)]
/-! Numbers as rows of bits -/
def setb (V i : Nat) (b : Bool) : Nat := if V.testBit i = b then V else V ^^^ 2 ^ i
theorem tb_setb (V i : Nat) (b : Bool) (j : Nat) : (setb V i b).testBit j = if j = i then b else V.testBit j := by
  unfold setb
  by_cases h : V.testBit i = b
  · rw [if_pos h]
    by_cases hj : j = i
    · subst hj; rw [if_pos rfl, h]
    · rw [if_neg hj]
  · rw [if_neg h, Nat.testBit_xor, Nat.testBit_two_pow]
    by_cases hj : j = i
    · subst hj
      rw [if_pos rfl]
      cases hb : V.testBit j <;> cases b <;> simp_all
    · rw [if_neg hj, decide_eq_false (fun e => hj e.symm)]
      simp
theorem numC_setb (m : Nat) (g : Bool) (i : Nat) (b : Bool) (hi : i < 136) : (numC m g).setIfInBounds i (.bool b) = numC (setb m i b) g := numC_set hi (fun j _ => tb_setb m i b j)
theorem numC_congr {m m' : Nat} {g : Bool} (h : ∀ j, j < 136 → m.testBit j = m'.testBit j) : numC m g = numC m' g := by
  apply Array.ext_getElem?
  intro j
  by_cases hj2 : j < 136
  · rw [numC_bit _ _ hj2, numC_bit _ _ hj2, h j hj2]
  · by_cases hj3 : j = 136
    · subst hj3; rw [numC_neg, numC_neg]
    · rw [Array.getElem?_eq_none (by rw [numC_size]; omega), Array.getElem?_eq_none (by rw [numC_size]; omega)]
theorem tb_div (x k : Nat) : (if x.testBit k then 1 else 0) = x / 2 ^ k % 2 := by
  rw [Nat.testBit_eq_decide_div_mod_eq]
  rcases Nat.mod_two_eq_zero_or_one (x / 2 ^ k) with h | h <;> simp [h]
theorem tb_eq {x y k : Nat} (h : x / 2 ^ k % 2 = y / 2 ^ k % 2) : x.testBit k = y.testBit k := by
  rw [Nat.testBit_eq_decide_div_mod_eq, Nat.testBit_eq_decide_div_mod_eq, h]
theorem split_at (x k : Nat) : x = x / 2 ^ k * 2 ^ k + x % 2 ^ k ∧ x % 2 ^ k < 2 ^ k := ⟨by have := Nat.div_add_mod x (2 ^ k); rw [Nat.mul_comm] at this; omega, Nat.mod_lt _ (Nat.two_pow_pos k)⟩
/-- carry into place k -/
def car (a b k : Nat) : Bool := decide (2 ^ k ≤ a % 2 ^ k + b % 2 ^ k)
theorem add_bit (a b k : Nat) : (a + b) / 2 ^ k = a / 2 ^ k + b / 2 ^ k + (if car a b k then 1 else 0) := by
  have ha := split_at a k; have hb := split_at b k
  have hp := Nat.two_pow_pos k
  unfold car
  have e : a + b = (a / 2 ^ k + b / 2 ^ k) * 2 ^ k + (a % 2 ^ k + b % 2 ^ k) := by rw [Nat.add_mul]; omega
  rw [e, Nat.add_comm, Nat.add_mul_div_right _ _ hp, Nat.add_comm]
  congr 1
  by_cases h : 2 ^ k ≤ a % 2 ^ k + b % 2 ^ k
  · have hd : (a % 2 ^ k + b % 2 ^ k) / 2 ^ k = 1 := Nat.div_eq_of_lt_le (by omega) (by omega)
    rw [decide_eq_true h, if_pos rfl, hd]
  · rw [decide_eq_false h, if_neg (by decide), Nat.div_eq_of_lt (by omega)]
theorem car_succ (a b k : Nat) : car a b (k + 1) = decide (2 ≤ a / 2 ^ k % 2 + b / 2 ^ k % 2 + (if car a b k then 1 else 0)) := by
  have h1 := Nat.mod_pow_succ (b := 2) (k := k) (x := a)
  have h2 := Nat.mod_pow_succ (b := 2) (k := k) (x := b)
  have ha := (split_at a k).2; have hb := (split_at b k).2
  unfold car
  rw [h1, h2, Nat.pow_succ]
  have c1 := Nat.mod_two_eq_zero_or_one (a / 2 ^ k)
  have c2 := Nat.mod_two_eq_zero_or_one (b / 2 ^ k)
  generalize a / 2 ^ k % 2 = x at *
  generalize b / 2 ^ k % 2 = y at *
  generalize a % 2 ^ k = p at *
  generalize b % 2 ^ k = q at *
  generalize 2 ^ k = P at *
  rw [Bool.eq_iff_iff]
  by_cases h : P ≤ p + q
  · rw [decide_eq_true h]
    rcases c1 with rfl | rfl <;> rcases c2 with rfl | rfl <;> simp <;> omega
  · rw [decide_eq_false h]
    rcases c1 with rfl | rfl <;> rcases c2 with rfl | rfl <;> simp <;> omega
/-- borrow from place k -/
def bor (a b k : Nat) : Bool := decide (a % 2 ^ k < b % 2 ^ k)
theorem sub_bit {a b : Nat} (h : b ≤ a) (k : Nat) : (a - b) / 2 ^ k + b / 2 ^ k + (if bor a b k then 1 else 0) = a / 2 ^ k := by
  have ha := split_at a k; have hb := split_at b k
  have hp := Nat.two_pow_pos k
  unfold bor
  by_cases hc : a % 2 ^ k < b % 2 ^ k
  · rw [decide_eq_true hc, if_pos rfl]
    have hlt : b / 2 ^ k + 1 ≤ a / 2 ^ k := by
      rcases Nat.lt_or_ge (b / 2 ^ k) (a / 2 ^ k) with h1 | h1
      · exact h1
      · have := Nat.mul_le_mul_right (2 ^ k) h1
        omega
    have e : a - b = (a / 2 ^ k - b / 2 ^ k - 1) * 2 ^ k + (a % 2 ^ k + 2 ^ k - b % 2 ^ k) := by
      have := Nat.mul_le_mul_right (2 ^ k) hlt
      rw [Nat.sub_mul, Nat.sub_mul, Nat.one_mul]
      rw [Nat.add_mul, Nat.one_mul] at this
      omega
    rw [e, Nat.add_comm ((a / 2 ^ k - b / 2 ^ k - 1) * 2 ^ k), Nat.add_mul_div_right _ _ hp, Nat.div_eq_of_lt (by omega)]
    omega
  · rw [decide_eq_false hc, if_neg (by decide)]
    have hle : b / 2 ^ k ≤ a / 2 ^ k := Nat.div_le_div_right h
    have e : a - b = (a / 2 ^ k - b / 2 ^ k) * 2 ^ k + (a % 2 ^ k - b % 2 ^ k) := by
      have := Nat.mul_le_mul_right (2 ^ k) hle
      rw [Nat.sub_mul]
      omega
    rw [e, Nat.add_comm ((a / 2 ^ k - b / 2 ^ k) * 2 ^ k), Nat.add_mul_div_right _ _ hp, Nat.div_eq_of_lt (by omega)]
    omega
theorem bor_succ (a b k : Nat) : bor a b (k + 1) = decide (a / 2 ^ k % 2 < b / 2 ^ k % 2 + (if bor a b k then 1 else 0)) := by
  have h1 := Nat.mod_pow_succ (b := 2) (k := k) (x := a)
  have h2 := Nat.mod_pow_succ (b := 2) (k := k) (x := b)
  have ha := (split_at a k).2; have hb := (split_at b k).2
  unfold bor
  rw [h1, h2]
  have c1 := Nat.mod_two_eq_zero_or_one (a / 2 ^ k)
  have c2 := Nat.mod_two_eq_zero_or_one (b / 2 ^ k)
  generalize a / 2 ^ k % 2 = x at *
  generalize b / 2 ^ k % 2 = y at *
  generalize a % 2 ^ k = p at *
  generalize b % 2 ^ k = q at *
  generalize 2 ^ k = P at *
  rw [Bool.eq_iff_iff]
  by_cases h : p < q
  · rw [decide_eq_true h]
    rcases c1 with rfl | rfl <;> rcases c2 with rfl | rfl <;> simp <;> omega
  · rw [decide_eq_false h]
    rcases c1 with rfl | rfl <;> rcases c2 with rfl | rfl <;> simp <;> omega
theorem add_tb (a b k : Nat) : (a + b).testBit k = ((a.testBit k ^^ b.testBit k) ^^ car a b k) := by
  rw [Nat.testBit_eq_decide_div_mod_eq, Nat.testBit_eq_decide_div_mod_eq, Nat.testBit_eq_decide_div_mod_eq, add_bit]
  have c1 := Nat.mod_two_eq_zero_or_one (a / 2 ^ k)
  have c2 := Nat.mod_two_eq_zero_or_one (b / 2 ^ k)
  generalize a / 2 ^ k = x at *
  generalize b / 2 ^ k = y at *
  rw [Bool.eq_iff_iff]
  cases car a b k <;> rcases c1 with c1 | c1 <;> rcases c2 with c2 | c2 <;> simp [c1, c2] <;> omega
theorem car_tb (a b k : Nat) : car a b (k + 1) = ((a.testBit k && b.testBit k) || (car a b k && (a.testBit k || b.testBit k))) := by
  rw [Nat.testBit_eq_decide_div_mod_eq, Nat.testBit_eq_decide_div_mod_eq, car_succ]
  have c1 := Nat.mod_two_eq_zero_or_one (a / 2 ^ k)
  have c2 := Nat.mod_two_eq_zero_or_one (b / 2 ^ k)
  cases car a b k <;> rcases c1 with c1 | c1 <;> rcases c2 with c2 | c2 <;> simp [c1, c2]
theorem sub_tb {a b : Nat} (h : b ≤ a) (k : Nat) : (a - b).testBit k = ((a.testBit k ^^ b.testBit k) ^^ bor a b k) := by
  rw [Nat.testBit_eq_decide_div_mod_eq, Nat.testBit_eq_decide_div_mod_eq, Nat.testBit_eq_decide_div_mod_eq]
  have e := sub_bit h k
  have c1 := Nat.mod_two_eq_zero_or_one (a / 2 ^ k)
  have c2 := Nat.mod_two_eq_zero_or_one (b / 2 ^ k)
  generalize a / 2 ^ k = x at *
  generalize b / 2 ^ k = y at *
  generalize (a - b) / 2 ^ k = z at *
  rw [Bool.eq_iff_iff]
  cases hb : bor a b k <;> rw [hb] at e <;> rcases c1 with c1 | c1 <;> rcases c2 with c2 | c2 <;> simp [c1, c2] at e ⊢ <;> omega
theorem bor_tb (a b k : Nat) : bor a b (k + 1) = ((!a.testBit k && b.testBit k) || (bor a b k && (!a.testBit k || b.testBit k))) := by
  rw [Nat.testBit_eq_decide_div_mod_eq, Nat.testBit_eq_decide_div_mod_eq, bor_succ]
  have c1 := Nat.mod_two_eq_zero_or_one (a / 2 ^ k)
  have c2 := Nat.mod_two_eq_zero_or_one (b / 2 ^ k)
  cases bor a b k <;> rcases c1 with c1 | c1 <;> rcases c2 with c2 | c2 <;> simp [c1, c2]
/-- What is known of the number that is filled from the lowest place on. -/
def Upto (V r k : Nat) : Prop := ∀ j, j < 136 → V.testBit j = if j < k then r.testBit j else false
theorem Upto.zero (r : Nat) : Upto 0 r 0 := fun j _ => by simp
theorem Upto.step {V r k : Nat} {b : Bool} (h : Upto V r k) (hb : r.testBit k = b) : Upto (setb V k b) r (k + 1) := by
  intro j hj
  rw [tb_setb, h j hj]
  by_cases e : j = k
  · subst e; rw [if_pos rfl, if_pos (by omega), hb]
  · rw [if_neg e]
    by_cases e2 : j < k
    · rw [if_pos e2, if_pos (by omega)]
    · rw [if_neg e2, if_neg (by omega)]
theorem Upto.done {V r k : Nat} {g : Bool} (h : Upto V r k) (hk : 136 ≤ k) : numC V g = numC r g := numC_congr fun j hj => by rw [h j hj, if_pos (by omega)]

theorem zcNum : Try.zeroCells84 = numC 0 false := by
  rw [← numZ]
  kernel_rfl
theorem sizeNum (m : Nat) (g : Bool) : (Try.prog.info? 84).map (·.size) = some (numC m g).size := by
  rw [numC_size]
  kernel_rfl
/-- the numbers of the call's own: block, bits, sign -/
abbrev NB := List (Nat × Nat × Bool)
def Own (w0 W : World) (l : NB) : Prop := Below w0.heap.size w0 W ∧ (∀ (i : Nat) (x : Nat × Nat × Bool), l[i]? = some x → w0.heap.size ≤ x.1 ∧ W.heap[x.1]? = some (.cells (numC x.2.1 x.2.2) 84 (0, 0))) ∧ ∀ (i j : Nat) (x y : Nat × Nat × Bool), l[i]? = some x → l[j]? = some y → i ≠ j → x.1 ≠ y.1
theorem num_setRow {B g : Nat} {w0 w : World} (hb : Below B w0 w) (hBg : B ≤ g) (cs : Array Value) : Below B w0 (w.setRow g cs) := hb.trans ⟨rfl, rfl, rfl, by simp [World.setRow], fun k hk => setRow_other w g k cs (by omega)⟩
theorem Own.start (w : World) : Own w w [] := ⟨Below.refl _ _, fun i x h => by simp at h, fun i j x y h => by simp at h⟩
theorem Own.below {w0 W : World} {l : NB} (h : Own w0 W l) : Below w0.heap.size w0 W := h.1
theorem Own.blk {w0 W : World} {l : NB} (h : Own w0 W l) (i : Nat) {g m : Nat} {s : Bool} (hi : l[i]? = some (g, m, s)) : W.heap[g]? = some (.cells (numC m s) 84 (0, 0)) := (h.2.1 i _ hi).2
theorem Own.call {w0 W W1 : World} {l : NB} (h : Own w0 W l) (hB : Below W.heap.size W W1) : Own w0 W1 l := ⟨below_step h.1 hB, fun i x hx => ⟨(h.2.1 i x hx).1, blk_below (h.2.1 i x hx).2 hB⟩, h.2.2⟩
theorem Own.alloc {w0 W W1 : World} {l : NB} (h : Own w0 W l) {g m : Nat} {s : Bool} (hg : g = W.heap.size) (hb : W1.heap[g]? = some (.cells (numC m s) 84 (0, 0))) (hB : Below W.heap.size W W1) : Own w0 W1 (l ++ [(g, m, s)]) := by
  have h1 := h.call hB
  have hlt : ∀ (i : Nat) (x : Nat × Nat × Bool), l[i]? = some x → x.1 < W.heap.size := fun i x hx => blk_lt (h.2.1 i x hx).2
  have hcase : ∀ (i : Nat) (x : Nat × Nat × Bool), (l ++ [(g, m, s)])[i]? = some x → (i < l.length ∧ l[i]? = some x) ∨ (i = l.length ∧ x = (g, m, s)) := fun i x hx => by
    by_cases hi : i < l.length
    · rw [List.getElem?_append_left hi] at hx; exact .inl ⟨hi, hx⟩
    · rw [List.getElem?_append_right (by omega)] at hx
      have h0 : i - l.length = 0 := by
        have := (List.getElem?_eq_some_iff.1 hx).1
        simp at this
        omega
      rw [h0] at hx
      simp at hx
      exact .inr ⟨by omega, hx.symm⟩
  refine ⟨h1.1, fun i x hx => ?_, fun i j x y hx hy hij => ?_⟩
  · rcases hcase i x hx with ⟨_, h2⟩ | ⟨_, rfl⟩
    · exact h1.2.1 i x h2
    · exact ⟨by rw [hg]; exact h.1.size, hb⟩
  · rcases hcase i x hx with ⟨_, h2⟩ | ⟨h2, rfl⟩ <;> rcases hcase j y hy with ⟨_, h3⟩ | ⟨h3, rfl⟩
    · exact h.2.2 i j x y h2 h3 hij
    · have := hlt i x h2; dsimp only; omega
    · have := hlt j y h3; dsimp only; omega
    · omega
theorem Own.put {w0 W W1 : World} {l : NB} (h : Own w0 W l) (i : Nat) {g m m' : Nat} {s s' : Bool} (hi : l[i]? = some (g, m, s)) (hb : W1.heap[g]? = some (.cells (numC m' s') 84 (0, 0))) (hB : Below w0.heap.size w0 W1) (ho : ∀ k, k ≠ g → W1.heap[k]? = W.heap[k]?) : Own w0 W1 (l.set i (g, m', s')) := by
  have hlt : i < l.length := (List.getElem?_eq_some_iff.1 hi).1
  refine ⟨hB, fun j x hx => ?_, fun j k x y hx hy hjk => ?_⟩
  · rw [List.getElem?_set] at hx
    by_cases e : i = j
    · rw [if_pos e, if_pos hlt] at hx
      cases hx
      exact ⟨(h.2.1 i _ hi).1, hb⟩
    · rw [if_neg e] at hx
      exact ⟨(h.2.1 j x hx).1, by rw [ho x.1 (h.2.2 j i x _ hx hi (Ne.symm e))]; exact (h.2.1 j x hx).2⟩
  · have hf : ∀ (j : Nat) (x : Nat × Nat × Bool), (l.set i (g, m', s'))[j]? = some x → ∃ y, l[j]? = some y ∧ y.1 = x.1 := fun j x hx => by
      rw [List.getElem?_set] at hx
      by_cases e : i = j
      · rw [if_pos e, if_pos hlt] at hx
        cases hx
        exact ⟨(g, m, s), e ▸ hi, rfl⟩
      · rw [if_neg e] at hx
        exact ⟨x, hx, rfl⟩
    obtain ⟨x', hx', e1⟩ := hf j x hx
    obtain ⟨y', hy', e2⟩ := hf k y hy
    rw [← e1, ← e2]
    exact h.2.2 j k x' y' hx' hy' hjk
theorem Own.bit {w0 W : World} {l : NB} (h : Own w0 W l) (i k : Nat) {g m : Nat} {s : Bool} (hi : l[i]? = some (g, m, s)) (hk : k < 136) (b : Bool) : Own w0 (W.setCell ⟨g, k, none⟩ (.bool b)) (l.set i (g, setb m k b, s)) :=
  h.put i hi (by rw [← numC_setb _ _ _ _ hk]; exact blk_set (h.blk i hi) k _) (below_set h.1 (h.2.1 i _ hi).1) (fun j hj => Below.heap_setCell W ⟨g, k, none⟩ _ j hj)
theorem Own.sign {w0 W : World} {l : NB} (h : Own w0 W l) (i : Nat) {g m : Nat} {s : Bool} (hi : l[i]? = some (g, m, s)) (b : Bool) : Own w0 (W.setCell ⟨g, 136, none⟩ (.bool b)) (l.set i (g, m, b)) :=
  h.put i hi (by rw [← numC_setNeg m s b]; exact blk_set (h.blk i hi) 136 _) (below_set h.1 (h.2.1 i _ hi).1) (fun j hj => Below.heap_setCell W ⟨g, 136, none⟩ _ j hj)
theorem Own.cell {w0 W : World} {l : NB} (h : Own w0 W l) (i k : Nat) {g m : Nat} {s : Bool} (hi : l[i]? = some (g, m, s)) (hk : k < 136) : W.cell? ⟨g, k, none⟩ = some (.bool (m.testBit k)) := (blk_cell (h.blk i hi) k).trans (numC_bit m s hk)
theorem Own.neg {w0 W : World} {l : NB} (h : Own w0 W l) (i : Nat) {g m : Nat} {s : Bool} (hi : l[i]? = some (g, m, s)) : W.cell? ⟨g, 136, none⟩ = some (.bool s) := (blk_cell (h.blk i hi) 136).trans (numC_neg m s)
theorem Own.free {w0 W : World} {l : NB} (h : Own w0 W l) (i k : Nat) {g m : Nat} {s : Bool} (hi : l[i]? = some (g, m, s)) : W.frozen? ⟨g, k, none⟩ = false := blk_frozen (h.blk i hi) k
section
variable {ops : Array Oper} {rest : List Oper} {o : Oper} {a : Act} {Q : Exit → Act → World → Prop} {w0 W : World} {l : NB}
/-- a number made -/
theorem num_new (hgd : o.guard = none) {N : Tmp} (_hd : o.dst = some N) {cs : Array Value} (hO : Own w0 W l) (m : Nat) (s : Bool) (hc : cs = numC m s)
    (hrun : (execOp a.eval o).run Try.prog W = .ok (.value (.pointer (some ⟨W.heap.size, 0, none⟩))) (W.alloc (.cells cs 84 (0, 0))))
    (h : ∀ g W1, Own w0 W1 (l ++ [(g, m, s)]) → wpList Try.prog ops Q rest (a.put o.dst (.pointer (some ⟨g, 0, none⟩))) W1) : wpList Try.prog ops Q (o :: rest) a W :=
  box_event hgd _hd hrun (fun g hg w1 hb hB => h g w1 (hO.alloc hg (by rw [← hc]; exact hb) hB))
/-- a number read whole -/
theorem num_load (hgd : o.guard = none) {N : Tmp} (_hd : o.dst = some N) (x : Operand) (ho : o.op = .load 84 x) (hO : Own w0 W l) (i : Nat) {g m : Nat} {s : Bool} (hi : l[i]? = some (g, m, s)) (hx : a.eval x = .pointer (some ⟨g, 0, none⟩))
    (h : wpList Try.prog ops Q rest (a.put o.dst (.agg (numC m s))) W) : wpList Try.prog ops Q (o :: rest) a W :=
  wpList_load_row hgd 84 x ho g hx 84 (numC m s) (0, 0) _ (hO.blk i hi) Try.underlying84 rfl (sizeNum _ _) h
/-- a number stored whole -/
theorem num_store (hgd : o.guard = none) (x y : Operand) (ho : o.op = .store 84 x y) (hO : Own w0 W l) (i : Nat) {g m m' : Nat} {s s' : Bool} (hi : l[i]? = some (g, m, s)) (hx : a.eval x = .pointer (some ⟨g, 0, none⟩)) (hy : a.eval y = .agg (numC m' s'))
    (h : ∀ W1, Own w0 W1 (l.set i (g, m', s')) → wpList Try.prog ops Q rest (a.put o.dst undef) W1) : wpList Try.prog ops Q (o :: rest) a W :=
  wpList_store_row hgd 84 x y ho g (numC m' s') hx hy 84 (numC m s) (hO.blk i hi) (sizeNum _ _) (by rw [numC_size, numC_size]) (numC_one _ _)
    (h _ (hO.put i hi (setRow_heap _ _ _ _ _ _ (hO.blk i hi)) (num_setRow hO.1 (hO.2.1 i _ hi).1 _) (fun k hk => setRow_other _ _ _ _ hk)))
end
theorem num_abs {c : Code} {Q : Exit → Act → World → Prop} {a : Act} {w0 W : World} {l : NB} (hO : Own w0 W l) (h : ∀ W1, Own w0 W1 l → c.wp Try.prog Q a W1) : c.wp Try.prog Q a W := h W hO
theorem num_load_run {o : Oper} {a : Act} {w0 W : World} {l : NB} (x : Operand) (ho : o.op = .load 84 x) (hO : Own w0 W l) (i : Nat) {g m : Nat} {s : Bool} (hi : l[i]? = some (g, m, s)) (hx : a.eval x = .pointer (some ⟨g, 0, none⟩)) :
    (execOp a.eval o).run Try.prog W = .ok (.value (.agg (numC m s))) W := by
  unfold execOp
  simp only [ho, hx, Instr.loadAt, Instr.sureAddr, Sem.run_bind, Sem.run_pure, Result.andThen_ok, run_loadVar_row W g 84 84 (numC m s) (0, 0) _ (hO.blk i hi) Try.underlying84 rfl (sizeNum _ _)]
theorem num_store_wp {o : Oper} {a : Act} {K : Act → World → Prop} {Q : Exit → Act → World → Prop} {w0 W : World} {l : NB} (x y : Operand) (ho : o.op = .store 84 x y) (hO : Own w0 W l) (i : Nat) {g m m' : Nat} {s s' : Bool} (hi : l[i]? = some (g, m, s)) (hx : a.eval x = .pointer (some ⟨g, 0, none⟩)) (hy : a.eval y = .agg (numC m' s'))
    (h : ∀ W1, Own w0 W1 (l.set i (g, m', s')) → K (a.put o.dst undef) W1) : o.wp Try.prog a W K Q :=
  wp_store_row 84 x y ho g (numC m' s') hx hy 84 (numC m s) (hO.blk i hi) (sizeNum _ _) (by rw [numC_size, numC_size]) (numC_one _ _)
    (h _ (hO.put i hi (setRow_heap _ _ _ _ _ _ (hO.blk i hi)) (num_setRow hO.1 (hO.2.1 i _ hi).1 _) (fun k hk => setRow_other _ _ _ _ hk)))
theorem Own.drew {w0 W : World} {l : NB} (h : Own w0 W l) : Own w0 W.drew l := h.call (below_drew (Below.refl _ _))
theorem num_result2 {fn : Func} {p q : Tmp} (hf : fn.results = #[.cell p 84, .cell q 84]) {w0 W : World} {l : NB} (hO : Own w0 W l) (i j : Nat) {g g' m m' : Nat} {s s' : Bool} (hi : l[i]? = some (g, m, s)) (hj : l[j]? = some (g', m', s')) (tmps : Array Value) (hp : tmps.getD p undef = .pointer (some ⟨g, 0, none⟩)) (hq : tmps.getD q undef = .pointer (some ⟨g', 0, none⟩)) :
    (results fn tmps).run Try.prog W = .ok (.tuple #[.agg (numC m s), .agg (numC m' s')]) W := by
  have hp' : tmps[p]?.getD undef = .pointer (some ⟨g, 0, none⟩) := by simpa using hp
  have hq' : tmps[q]?.getD undef = .pointer (some ⟨g', 0, none⟩) := by simpa using hq
  simp [results, hf, hp', hq', asAddr, run_loadVar_row W g 84 84 (numC m s) (0, 0) _ (hO.blk i hi) Try.underlying84 rfl (sizeNum _ _), run_loadVar_row W g' 84 84 (numC m' s') (0, 0) _ (hO.blk j hj) Try.underlying84 rfl (sizeNum _ _)]
theorem num_result {fn : Func} {p : Tmp} (hf : fn.results = #[.cell p 84]) {w0 W : World} {l : NB} (hO : Own w0 W l) (i : Nat) {g m : Nat} {s : Bool} (hi : l[i]? = some (g, m, s)) (tmps : Array Value) (hp : tmps.getD p undef = .pointer (some ⟨g, 0, none⟩)) :
    (results fn tmps).run Try.prog W = .ok (.agg (numC m s)) W := results_cell_row hf tmps W g 84 (numC m s) (0, 0) _ hp (hO.blk i hi) Try.underlying84 rfl (sizeNum _ _)
set_option maxHeartbeats 8000000 in
set_option maxRecDepth 100000 in
theorem num_nought (m : Nat) (g : Bool) (hm : m < 2 ^ 136) (w : World) :
    Calls Try.prog 63 #[.agg (numC m g)] w fun e w' => e = .returned (.bool (decide (m = 0))) ∧ Below w.heap.size w w' := by
  have HB := Aside0.mk (below_alloc (Below.refl w.heap.size w) (.cells (numC m g) 84))
  have BK := Aside0.mk (blk_new w (.cells (numC m g) 84))
  have HM := Aside0.mk hm
  clear hm
  go_enter Try.func63, Try.ntmps63
  go_wp2
  go_loopg [3] 136 (fun kq v3 wr => ∃ k : Nat, v3 = .int .i64 k ∧ Aside0 (k + kq = 136) ∧ Aside0 (m % 2 ^ k = 0) ∧ Aside0 (wr = w.alloc (.cells (numC m g) 84)))
  case atStart => exact ⟨0, rfl, ⟨rfl⟩, ⟨Nat.mod_one m⟩, ⟨rfl⟩⟩
  case round =>
    obtain ⟨k, rfl, HK, HA, HW⟩ := hrel
    obtain rfl := HW.out
    by_cases hk : k < 136
    · have hd : decide ((k : Int) < 136) = true := decide_eq_true (by omega)
      have hcell := (blk_cell BK.out k).trans (numC_bit m g hk)
      have h2 := Nat.mod_pow_succ (b := 2) (k := k) (x := m)
      cases hb : m.testBit k with
      | true =>
        rw [hb] at hcell
        have HN : Aside0 (decide (m = 0) = false) := ⟨decide_eq_false (fun e => by subst e; simp at hb)⟩
        clear hb h2
        go_wp2
        go_ret
        exact ⟨by rw [HN.out]; rfl, HB.out⟩
      | false =>
        rw [hb] at hcell
        have HN : Aside0 (m % 2 ^ (k + 1) = 0) := ⟨by
          rw [Nat.testBit_eq_decide_div_mod_eq] at hb
          have := HA.out
          have hb2 : m / 2 ^ k % 2 = 0 := by have := Nat.mod_two_eq_zero_or_one (m / 2 ^ k); simp at hb; omega
          rw [h2, this, hb2]; simp⟩
        clear hb h2
        go_wp2
        go_roundg (gk - 1)
        case measure => have := HK.out; omega
        case rel => exact ⟨k + 1, by go_num, ⟨by have := HK.out; omega⟩, HN, ⟨rfl⟩⟩
    · have hd : decide ((k : Int) < 136) = false := decide_eq_false (by omega)
      have HN : Aside0 (decide (m = 0) = true) := ⟨decide_eq_true (by
        have h1 := HA.out
        rwa [Nat.mod_eq_of_lt (Nat.lt_of_lt_of_le HM.out (Nat.pow_le_pow_right (by decide) (by omega)))] at h1)⟩
      go_wp2
      go_ret
      exact ⟨by rw [HN.out]; rfl, HB.out⟩

/-! ### jobberref01_twice: function 64 (by hand; for other hand texts alone) -/
theorem tw_bit (a j : Nat) : (2 * a).testBit (j + 1) = a.testBit j := by
  rw [Nat.testBit_succ]; congr 1; omega
theorem tw_zero (a : Nat) : (2 * a).testBit 0 = false := by simp
/-- filled from above: places above i are b's, the others a's -/
def Down (V a b i : Nat) : Prop := ∀ j, j < 136 → V.testBit j = if i < j then b.testBit j else a.testBit j
theorem Down.start (a b : Nat) : Down a a b 135 := fun j hj => by rw [if_neg (by omega)]
theorem Down.step {V a b i : Nat} {c : Bool} (h : Down V a b (i + 1)) (hb : b.testBit (i + 1) = c) : Down (setb V (i + 1) c) a b i := by
  intro j hj
  rw [tb_setb, h j hj]
  by_cases e : j = i + 1
  · subst e; rw [if_pos rfl, if_pos (by omega), hb]
  · rw [if_neg e]
    by_cases e2 : i + 1 < j
    · rw [if_pos e2, if_pos (by omega)]
    · rw [if_neg e2, if_neg (by omega)]
theorem Down.done {V a b : Nat} {g : Bool} (h : Down V a b 0) (hb : b.testBit 0 = false) : numC (setb V 0 false) g = numC b g := numC_congr fun j hj => by
  rw [tb_setb, h j hj]
  by_cases e : j = 0
  · subst e; rw [if_pos rfl, hb]
  · rw [if_neg e, if_pos (by omega)]
set_option maxHeartbeats 8000000 in
set_option maxRecDepth 100000 in
theorem num_twice (a : Nat) (ga : Bool) (w : World) :
    Calls Try.prog 64 #[.agg (numC a ga)] w fun e w' => e = .returned (.agg (numC (2 * a) ga)) ∧ Below w.heap.size w w' := by
  have HO : Aside0 (Own w w []) := ⟨Own.start w⟩
  go_enter Try.func64, Try.ntmps64
  go_wp2_with (first | ((with_reducible refine gate_dst (N := 1) rfl ?_); refine num_new ?hg (N := 1) ?hd (cs := numC a ga) HO.out a ga ?hc ?hr ?_; (case hc => first | rfl | exact zcNum); (case hd => rfl); (case hg => rfl); (case hr => first | (go_simp; done) | (go_simp; rfl)); intro gA w1 hO_; have n0_ : Aside0 (Own w w1 [(gA, a, ga)]) := ⟨hO_⟩; clear HO hO_; have HO := n0_; clear n0_) | ((with_reducible refine gate_dst (N := 2) rfl ?_); refine num_new ?hg (N := 2) ?hd (cs := Try.zeroCells84) HO.out 0 false ?hc ?hr ?_; (case hc => first | rfl | exact zcNum); (case hd => rfl); (case hg => rfl); (case hr => first | (go_simp; done) | (go_simp; rfl)); intro gR w2 hO_; have n0_ : Aside0 (Own w w2 [(gA, a, ga), (gR, 0, false)]) := ⟨hO_⟩; clear HO hO_; have HO := n0_; clear n0_) | ((with_reducible refine gate_dst (N := 5) rfl ?_); refine num_load ?hg (N := 5) ?hd (.tmp 1) ?ho HO.out 0 (g := gA) (m := a) (s := ga) ?hi ?hx ?_; (case hd => rfl); (case hg => rfl); (case ho => rfl); (case hi => rfl); (case hx => rfl)) | ((with_reducible refine gate_dst (N := 3) rfl ?_); refine num_new ?hg (N := 3) ?hd (cs := Try.zeroCells84) HO.out 0 false ?hc ?hr ?_; (case hc => first | rfl | exact zcNum); (case hd => rfl); (case hg => rfl); (case hr => first | (go_simp; done) | (go_simp; rfl)); intro gN w3 hO_; have n0_ : Aside0 (Own w w3 [(gA, a, ga), (gR, 0, false), (gN, 0, false)]) := ⟨hO_⟩; clear HO hO_; have HO := n0_; clear n0_) | ((with_reducible refine gate_store (t := 84) (p := 3) (v := .tmp 5) rfl ?_); refine num_store ?hg (.tmp 3) (.tmp 5) ?ho HO.out 2 (g := gN) (m := 0) (s := false) (m' := a) (s' := ga) ?hi ?hx ?hy ?_; (case hg => rfl); (case ho => rfl); (case hi => rfl); (case hx => rfl); (case hy => rfl); intro w4 hO_; have n0_ : Aside0 (Own w w4 [(gA, a, ga), (gR, 0, false), (gN, a, ga)]) := ⟨hO_⟩; clear HO hO_; have HO := n0_; clear n0_))
  go_loopg [4] 135 (fun kq v4 wr => ∃ (i : Int) (V : Nat), v4 = .int .i64 i ∧ Aside0 (i = kq) ∧ Aside0 (kq ≤ 135) ∧ Aside0 (Down V a (2 * a) kq) ∧ Aside0 (Own w wr [(gA, a, ga), (gR, 0, false), (gN, V, ga)]))
  case atStart => exact ⟨135, a, rfl, ⟨rfl⟩, ⟨Nat.le_refl _⟩, ⟨Down.start _ _⟩, HO⟩
  case round =>
    clear HO
    obtain ⟨i, V, rfl, HI, HK, HV, HO⟩ := hrel
    cases gk with
    | zero =>
      obtain rfl : i = 0 := HI.out
      have zc_ := HO.out.cell 2 0 rfl (by omega)
      have zf_ := HO.out.free 2 0 rfl
      have HEQ := Aside0.mk (HV.out.done (g := ga) (tw_zero a))
      go_upto_region 7 with (fail)
      refine num_abs (w0 := w) (l := [(gA, a, ga), (gR, 0, false), (gN, setb V 0 false, ga)]) (HO.out.bit 2 0 rfl (by omega) false) ?_
      intro w8 hO_
      clear HO
      have HO := Aside0.mk hO_
      clear hO_
      clear zc_ zf_
      go_wp2_with (first | ((with_reducible refine gate_dst (N := 20) rfl ?_); refine num_load ?hg (N := 20) ?hd (.tmp 3) ?ho HO.out 2 (g := gN) (m := setb V 0 false) (s := ga) ?hi ?hx ?_; (case hd => rfl); (case hg => rfl); (case ho => rfl); (case hi => rfl); (case hx => rfl)) | ((with_reducible refine gate_store (t := 84) (p := 2) (v := .tmp 20) rfl ?_); refine num_store ?hg (.tmp 2) (.tmp 20) ?ho HO.out 1 (g := gR) (m := 0) (s := false) (m' := (setb V 0 false)) (s' := ga) ?hi ?hx ?hy ?_; (case hg => rfl); (case ho => rfl); (case hi => rfl); (case hx => rfl); (case hy => rfl); intro w9 hO_; have n0_ : Aside0 (Own w w9 [(gA, a, ga), (gR, (setb V 0 false), ga), (gN, setb V 0 false, ga)]) := ⟨hO_⟩; clear HO hO_; have HO := n0_; clear n0_))
      exact bodyPost_ret (num_result rfl HO.out 1 rfl _ rfl) rfl ⟨by rw [HEQ.out], HO.out.below⟩
    | succ k =>
      have hi1 : 0 < i := by have := HI.out; omega
      have hd : decide (0 < i) = true := decide_eq_true hi1
      have hw : wrap64 (i - 1) = i - 1 := by have := HI.out; have := HK.out; unfold wrap64; omega
      have hi2 : i - 1 = (k : Int) := by have := HI.out; omega
      have hk3 : (0 : Int) ≤ (k : Int) ∧ (k : Int) < 136 := by have := HK.out; omega
      have hk4 : (0 : Int) ≤ i ∧ i < 136 := by have := HI.out; have := HK.out; omega
      have hk5 : i.toNat = k + 1 := by have := HI.out; omega
      have hk1 : k < 136 := by have := HK.out; omega
      have HKK : Aside0 (k + 1 < 136) := ⟨by have := HK.out; omega⟩
      have zA := HO.out.cell 0 k rfl hk1
      have zc_ := HO.out.cell 2 (k + 1) rfl HKK.out
      have zf_ := HO.out.free 2 (k + 1) rfl
      have HS := Aside0.mk (fun c h => HV.out.step (c := c) h)
      have hb := tw_bit a k
      cases hxa : a.testBit k
      all_goals
        rw [hxa] at zA hb
        have HSS := Aside0.mk (HS.out _ hb)
        clear hb hxa HS
        obtain ⟨p1, p2⟩ := hk3
        obtain ⟨p3, p4⟩ := hk4
        go_wp2
        go_roundg k
        case measure => omega
        case rel => exact ⟨(k : Int), _, rfl, ⟨rfl⟩, ⟨by have := HK.out; omega⟩, HSS, ⟨HO.out.bit 2 (k + 1) rfl HKK.out _⟩⟩

/-! ### jobberref01_more: function 66 (by hand; for other hand texts alone) -/
set_option maxHeartbeats 8000000 in
set_option maxRecDepth 100000 in
theorem num_more (a b : Nat) (ga gb : Bool) (w : World) :
    Calls Try.prog 66 #[.agg (numC a ga), .agg (numC b gb)] w fun e w' => e = .returned (.agg (numC (a + b) false)) ∧ Below w.heap.size w w' := by
  have HO : Aside0 (Own w w []) := ⟨Own.start w⟩
  go_enter Try.func66, Try.ntmps66
  go_wp2_with (first | ((with_reducible refine gate_dst (N := 2) rfl ?_); refine num_new ?hg (N := 2) ?hd (cs := numC a ga) HO.out a ga ?hc ?hr ?_; (case hc => first | rfl | exact zcNum); (case hd => rfl); (case hg => rfl); (case hr => first | (go_simp; done) | (go_simp; rfl)); intro gA w1 hO_; have n0_ : Aside0 (Own w w1 [(gA, a, ga)]) := ⟨hO_⟩; clear HO hO_; have HO := n0_; clear n0_) | ((with_reducible refine gate_dst (N := 3) rfl ?_); refine num_new ?hg (N := 3) ?hd (cs := numC b gb) HO.out b gb ?hc ?hr ?_; (case hc => first | rfl | exact zcNum); (case hd => rfl); (case hg => rfl); (case hr => first | (go_simp; done) | (go_simp; rfl)); intro gB w2 hO_; have n0_ : Aside0 (Own w w2 [(gA, a, ga), (gB, b, gb)]) := ⟨hO_⟩; clear HO hO_; have HO := n0_; clear n0_) | ((with_reducible refine gate_dst (N := 4) rfl ?_); refine num_new ?hg (N := 4) ?hd (cs := Try.zeroCells84) HO.out 0 false ?hc ?hr ?_; (case hc => first | rfl | exact zcNum); (case hd => rfl); (case hg => rfl); (case hr => first | (go_simp; done) | (go_simp; rfl)); intro gR w3 hO_; have n0_ : Aside0 (Own w w3 [(gA, a, ga), (gB, b, gb), (gR, 0, false)]) := ⟨hO_⟩; clear HO hO_; have HO := n0_; clear n0_) | ((with_reducible refine gate_dst (N := 5) rfl ?_); refine num_new ?hg (N := 5) ?hd (cs := Try.zeroCells84) HO.out 0 false ?hc ?hr ?_; (case hc => first | rfl | exact zcNum); (case hd => rfl); (case hg => rfl); (case hr => first | (go_simp; done) | (go_simp; rfl)); intro gN w4 hO_; have n0_ : Aside0 (Own w w4 [(gA, a, ga), (gB, b, gb), (gR, 0, false), (gN, 0, false)]) := ⟨hO_⟩; clear HO hO_; have HO := n0_; clear n0_))
  go_loopg [6, 7] 136 (fun kq v6 v7 wr => ∃ (k : Nat) (c : Bool) (V : Nat), v7 = .int .i64 k ∧ v6 = .bool c ∧ Aside0 (k + kq = 136) ∧ Aside0 (c = car a b k) ∧ Aside0 (Upto V (a + b) k) ∧ Aside0 (Own w wr [(gA, a, ga), (gB, b, gb), (gR, 0, false), (gN, V, false)]))
  case atStart => exact ⟨0, false, 0, rfl, rfl, ⟨rfl⟩, ⟨by simp [car, Nat.mod_one]⟩, ⟨Upto.zero _⟩, HO⟩
  case round =>
    clear HO
    obtain ⟨k, c, V, rfl, rfl, HK, HC, HV, HO⟩ := hrel
    by_cases hk : k < 136
    · have hd : decide ((k : Int) < 136) = true := decide_eq_true (by omega)
      have hca := HO.out.cell 0 k rfl hk
      have hcb := HO.out.cell 1 k rfl hk
      have hcn := HO.out.cell 3 k rfl hk
      have hfn := HO.out.free 3 k rfl
      have HKK := Aside0.mk hk
      have hs := add_tb a b k
      have hc := car_tb a b k
      rw [← HC.out] at hs hc
      cases hxa : a.testBit k <;> cases hxb : b.testBit k <;> cases c <;> rw [hxa] at hca hs hc <;> rw [hxb] at hcb hs hc
      all_goals
        simp at hs hc
        have HS := Aside0.mk hs
        have HC' := Aside0.mk hc
        clear hs hc hxa hxb
        go_wp2
        go_roundg (gk - 1)
        case measure => have := HK.out; omega
        case rel => exact ⟨k + 1, _, _, by go_num, rfl, ⟨by have := HK.out; omega⟩, ⟨HC'.out.symm⟩, ⟨HV.out.step HS.out⟩, ⟨HO.out.bit 3 k rfl HKK.out _⟩⟩
    · have hd : decide ((k : Int) < 136) = false := decide_eq_false (by omega)
      have HEQ := Aside0.mk (HV.out.done (g := false) (by omega))
      go_wp2_with (first | ((with_reducible refine gate_dst (N := 36) rfl ?_); refine num_load ?hg (N := 36) ?hd (.tmp 5) ?ho HO.out 3 (g := gN) (m := V) (s := false) ?hi ?hx ?_; (case hd => rfl); (case hg => rfl); (case ho => rfl); (case hi => rfl); (case hx => rfl)) | ((with_reducible refine gate_store (t := 84) (p := 4) (v := .tmp 36) rfl ?_); refine num_store ?hg (.tmp 4) (.tmp 36) ?ho HO.out 2 (g := gR) (m := 0) (s := false) (m' := V) (s' := false) ?hi ?hx ?hy ?_; (case hg => rfl); (case ho => rfl); (case hi => rfl); (case hx => rfl); (case hy => rfl); intro w9 hO_; have n0_ : Aside0 (Own w w9 [(gA, a, ga), (gB, b, gb), (gR, V, false), (gN, V, false)]) := ⟨hO_⟩; clear HO hO_; have HO := n0_; clear n0_))
      exact bodyPost_ret (num_result rfl HO.out 2 rfl _ rfl) rfl ⟨by rw [HEQ.out], HO.out.below⟩

end Go.Proofs.Ythaaghkplbbgdaa.Shb
