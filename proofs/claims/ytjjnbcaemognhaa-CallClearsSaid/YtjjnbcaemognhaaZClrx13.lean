/- Printed by this session's wip/drive.py over the translation; some functions by hand. -/
import Derived.Test.YtjjnbcaemognhaaZClrx0
import Derived.Test.YtjjnbcaemognhaaZClrx1
import Derived.Test.YtjjnbcaemognhaaZClrx6
import Derived.Test.YtjjnbcaemognhaaZClrx11
import Derived.Test.YtjjnbcaemognhaaZClrx12
namespace Go.Proofs.Ytjjnbcaemognhaa.Clr
open Go.RowKit Go.Proofs.YtjjnbcaemognhaaW.PrintWords Go.Proofs.YtjjnbcaemognhaaW.PrintLast Go.Proofs.YtjjnbcaemognhaaW.PrintMore
attribute [local go_sem] max2_int min2_int max_two min_two max_three min_three max_four min_four
set_option linter.unusedVariables false
set_option linter.unusedSimpArgs false
attribute [local go_sem high] eqA42
mutual
def jobberlaw19_CallClears.j0 : Nat → List (S42) → Int → Int → Int → Bool → Option (Bool)
  | 0, _, _, _, _, _ => none
  | k + 1, x0, x1, x2, x3, x42 => if x42 = true then ((jobberlaw19_lives.f k).bind fun t203 => (some t203)) else (jobberlaw19_CallClears.l0 k x0 x1 x2 x3 x0 (x0.length : Int) 0)
def jobberlaw19_CallClears.l0 : Nat → List (S42) → Int → Int → Int → List (S42) → Int → Int → Option (Bool)
  | 0, _, _, _, _, _, _, _ => none
  | k + 1, x0, x1, x2, x3, x44, x45, x46 => if x46 < x45 then (if 0 ≤ x46 then (if x46 < (x44.length : Int) then (if x3 = 0 then (none) else (if (Int.tmod ((rd_T42 x44 x46).f4) x3) = 0 then (jobberlaw19_CallClears.l0 k x0 x1 x2 x3 x44 x45 (wrap64 (x46 + 1))) else ((jobberlaw19_lives.f k).bind fun t206 => (some t206)))) else (none)) else (none)) else ((call_Price.f x0 x1).bind fun bt207 => ((call_Deals.f k x0 bt207.1 bt207.2 x2 x3).bind fun t209 => (if bt207.2 = 0 then (if bt207.1 = 0 then (if (t209.length : Int) = 0 then ((jobberlaw19_lives.f k).bind fun t212 => (some t212)) else (none)) else (none)) else (jobberlaw19_CallClears.l1 k x0 bt207.1 bt207.2 t209 0 t209 (t209.length : Int) 0))))
def jobberlaw19_CallClears.l1 : Nat → List (S42) → Int → Int → List (S44) → Int → List (S44) → Int → Int → Option (Bool)
  | 0, _, _, _, _, _, _, _, _ => none
  | k + 1, x0, x11, x12, x13, x14, x81, x82, x83 => if x83 < x82 then (if 0 ≤ x83 then (if x83 < (x81.length : Int) then (if ((rd_T44 x81 x83).f2) < 1 then (none) else (if ((rd_T44 x81 x83).f0.f3) < x11 then (none) else (if ((rd_T44 x81 x83).f1.f3) > x11 then (none) else (if ((rd_T44 x81 x83).f0.f2) = 1 then (if ((rd_T44 x81 x83).f1.f2) = 2 then (jobberlaw19_CallClears.l1 k x0 x11 x12 x13 (wrap64 (x14 + ((rd_T44 x81 x83).f2))) x81 x82 (wrap64 (x83 + 1))) else (none)) else (none))))) else (none)) else (none)) else (jobberlaw19_CallClears.l2 k x12 x13 x14 0 1099511627777 x0 (x0.length : Int) 0)
def jobberlaw19_CallClears.l2 : Nat → Int → List (S44) → Int → Int → Int → List (S42) → Int → Int → Option (Bool)
  | 0, _, _, _, _, _, _, _, _ => none
  | k + 1, x12, x13, x14, x17, x18, x121, x122, x123 => if x123 < x122 then (if 0 ≤ x123 then (if x123 < (x121.length : Int) then (jobberlaw19_CallClears.l3 k x12 x13 x14 x17 x18 ((rd_T42 x121 x123).f4) x121 x122 x123 x13 (x13.length : Int) 0 ((rd_T42 x121 x123).f0) ((rd_T42 x121 x123).f1) ((rd_T42 x121 x123).f2) ((rd_T42 x121 x123).f3) ((rd_T42 x121 x123).f4) ((rd_T42 x121 x123).f5)) else (none)) else (none)) else (if x14 = x12 then (if x17 < x18 then ((jobberlaw19_lives.f k).bind fun t215 => (some t215)) else (none)) else (none))
def jobberlaw19_CallClears.l3 : Nat → Int → List (S44) → Int → Int → Int → Int → List (S42) → Int → Int → List (S44) → Int → Int → Int → Int → Int → Int → Int → Int → Option (Bool)
  | 0, _, _, _, _, _, _, _, _, _, _, _, _, _, _, _, _, _, _ => none
  | k + 1, x12, x13, x14, x17, x18, x21, x121, x122, x123, x129, x130, x131, x218000, x218001, x218002, x218003, x218004, x218005 => if x131 < x130 then (if 0 ≤ x131 then (if x131 < (x129.length : Int) then (if (((rd_T44 x129 x131).f0.f0) == x218000 && (((rd_T44 x129 x131).f0.f1) == x218001 && (((rd_T44 x129 x131).f0.f2) == x218002 && (((rd_T44 x129 x131).f0.f3) == x218003 && (((rd_T44 x129 x131).f0.f4) == x218004 && (((rd_T44 x129 x131).f0.f5) == x218005)))))) = true then (jobberlaw19_CallClears.l3 k x12 x13 x14 x17 x18 (wrap64 (x21 - ((rd_T44 x129 x131).f2))) x121 x122 x123 x129 x130 (wrap64 (x131 + 1)) x218000 x218001 x218002 x218003 x218004 x218005) else (if (((rd_T44 x129 x131).f1.f0) == x218000 && (((rd_T44 x129 x131).f1.f1) == x218001 && (((rd_T44 x129 x131).f1.f2) == x218002 && (((rd_T44 x129 x131).f1.f3) == x218003 && (((rd_T44 x129 x131).f1.f4) == x218004 && (((rd_T44 x129 x131).f1.f5) == x218005)))))) = true then (jobberlaw19_CallClears.l3 k x12 x13 x14 x17 x18 (wrap64 (x21 - ((rd_T44 x129 x131).f2))) x121 x122 x123 x129 x130 (wrap64 (x131 + 1)) x218000 x218001 x218002 x218003 x218004 x218005) else (jobberlaw19_CallClears.l3 k x12 x13 x14 x17 x18 x21 x121 x122 x123 x129 x130 (wrap64 (x131 + 1)) x218000 x218001 x218002 x218003 x218004 x218005))) else (none)) else (none)) else (if x21 < 0 then (none) else (if x21 > 0 then (jobberlaw19_CallClears.j5 k x12 x13 x14 x17 x18 x21 x121 x122 x123 (x218002 == 1) x218000 x218001 x218002 x218003 x218004 x218005) else (jobberlaw19_CallClears.j5 k x12 x13 x14 x17 x18 x21 x121 x122 x123 false x218000 x218001 x218002 x218003 x218004 x218005)))
def jobberlaw19_CallClears.j5 : Nat → Int → List (S44) → Int → Int → Int → Int → List (S42) → Int → Int → Bool → Int → Int → Int → Int → Int → Int → Option (Bool)
  | 0, _, _, _, _, _, _, _, _, _, _, _, _, _, _, _, _ => none
  | k + 1, x12, x13, x14, x17, x18, x21, x121, x122, x123, x158, x218000, x218001, x218002, x218003, x218004, x218005 => if x158 = true then (if x21 > 0 then (if x218002 = 2 then (jobberlaw19_CallClears.l2 k x12 x13 x14 (mx x17 x218003) (mn x18 x218003) x121 x122 (wrap64 (x123 + 1))) else (jobberlaw19_CallClears.l2 k x12 x13 x14 (mx x17 x218003) x18 x121 x122 (wrap64 (x123 + 1)))) else (jobberlaw19_CallClears.l2 k x12 x13 x14 (mx x17 x218003) x18 x121 x122 (wrap64 (x123 + 1)))) else (if x21 > 0 then (if x218002 = 2 then (jobberlaw19_CallClears.l2 k x12 x13 x14 x17 (mn x18 x218003) x121 x122 (wrap64 (x123 + 1))) else (jobberlaw19_CallClears.l2 k x12 x13 x14 x17 x18 x121 x122 (wrap64 (x123 + 1)))) else (jobberlaw19_CallClears.l2 k x12 x13 x14 x17 x18 x121 x122 (wrap64 (x123 + 1))))
end
def jobberlaw19_CallClears.f (k : Nat) (l0 : List (S42)) (a1 : Int) (a2 : Int) (a3 : Int) : Option (Bool) := if (l0.length : Int) > 64 then (jobberlaw19_CallClears.j0 k l0 a1 a2 a3 true) else (if a3 < 1 then (jobberlaw19_CallClears.j0 k l0 a1 a2 a3 true) else (if a3 > 1099511627776 then (jobberlaw19_CallClears.j0 k l0 a1 a2 a3 true) else (if a2 = 1 then (jobberlaw19_CallClears.j0 k l0 a1 a2 a3 false) else (jobberlaw19_CallClears.j0 k l0 a1 a2 a3 (a2 != 2)))))
theorem jobberlaw19_CallClears.mono_l : ∀ k, (∀ y0 y1 y2 y3 y4, LeO (jobberlaw19_CallClears.j0 k y0 y1 y2 y3 y4) (jobberlaw19_CallClears.j0 (k + 1) y0 y1 y2 y3 y4)) ∧ (∀ y0 y1 y2 y3 y4 y5 y6, LeO (jobberlaw19_CallClears.l0 k y0 y1 y2 y3 y4 y5 y6) (jobberlaw19_CallClears.l0 (k + 1) y0 y1 y2 y3 y4 y5 y6)) ∧ (∀ y0 y1 y2 y3 y4 y5 y6 y7, LeO (jobberlaw19_CallClears.l1 k y0 y1 y2 y3 y4 y5 y6 y7) (jobberlaw19_CallClears.l1 (k + 1) y0 y1 y2 y3 y4 y5 y6 y7)) ∧ (∀ y0 y1 y2 y3 y4 y5 y6 y7, LeO (jobberlaw19_CallClears.l2 k y0 y1 y2 y3 y4 y5 y6 y7) (jobberlaw19_CallClears.l2 (k + 1) y0 y1 y2 y3 y4 y5 y6 y7)) ∧ (∀ y0 y1 y2 y3 y4 y5 y6 y7 y8 y9 y10 y11 y12 y13 y14 y15 y16 y17, LeO (jobberlaw19_CallClears.l3 k y0 y1 y2 y3 y4 y5 y6 y7 y8 y9 y10 y11 y12 y13 y14 y15 y16 y17) (jobberlaw19_CallClears.l3 (k + 1) y0 y1 y2 y3 y4 y5 y6 y7 y8 y9 y10 y11 y12 y13 y14 y15 y16 y17)) ∧ (∀ y0 y1 y2 y3 y4 y5 y6 y7 y8 y9 y10 y11 y12 y13 y14 y15, LeO (jobberlaw19_CallClears.j5 k y0 y1 y2 y3 y4 y5 y6 y7 y8 y9 y10 y11 y12 y13 y14 y15) (jobberlaw19_CallClears.j5 (k + 1) y0 y1 y2 y3 y4 y5 y6 y7 y8 y9 y10 y11 y12 y13 y14 y15))
  | 0 => ⟨fun _ _ _ _ _ r h => by simp [jobberlaw19_CallClears.j0] at h, fun _ _ _ _ _ _ _ r h => by simp [jobberlaw19_CallClears.l0] at h, fun _ _ _ _ _ _ _ _ r h => by simp [jobberlaw19_CallClears.l1] at h, fun _ _ _ _ _ _ _ _ r h => by simp [jobberlaw19_CallClears.l2] at h, fun _ _ _ _ _ _ _ _ _ _ _ _ _ _ _ _ _ _ r h => by simp [jobberlaw19_CallClears.l3] at h, fun _ _ _ _ _ _ _ _ _ _ _ _ _ _ _ _ r h => by simp [jobberlaw19_CallClears.j5] at h⟩
  | k + 1 => by
    obtain ⟨ih0, ih1, ih2, ih3, ih4, ih5⟩ := jobberlaw19_CallClears.mono_l k
    refine ⟨?_, ?_, ?_, ?_, ?_, ?_⟩
    · intro y0 y1 y2 y3 y4
      unfold jobberlaw19_CallClears.j0
      repeat' first
      | (with_reducible exact ih0 _ _ _ _ _)
      | (with_reducible exact ih1 _ _ _ _ _ _ _)
      | (with_reducible exact ih2 _ _ _ _ _ _ _ _)
      | (with_reducible exact ih3 _ _ _ _ _ _ _ _)
      | (with_reducible exact ih4 _ _ _ _ _ _ _ _ _ _ _ _ _ _ _ _ _ _)
      | (with_reducible exact ih5 _ _ _ _ _ _ _ _ _ _ _ _ _ _ _ _)
      | (with_reducible exact call_Deals.mono _ _ _ _ _ _)
      | (with_reducible exact jobberlaw19_lives.mono _)
      | (with_reducible exact LeO.refl _)
      | (with_reducible exact LeO.none _)
      | (with_reducible refine LeO.ite ?_ ?_)
      | (with_reducible refine LeO.bind ?_ (fun _ => ?_))
      | exact ih0 _ _ _ _ _
      | exact ih1 _ _ _ _ _ _ _
      | exact ih2 _ _ _ _ _ _ _ _
      | exact ih3 _ _ _ _ _ _ _ _
      | exact ih4 _ _ _ _ _ _ _ _ _ _ _ _ _ _ _ _ _ _
      | exact ih5 _ _ _ _ _ _ _ _ _ _ _ _ _ _ _ _
      | exact call_Deals.mono _ _ _ _ _ _
      | exact jobberlaw19_lives.mono _
      | exact LeO.none _
      | refine LeO.ite ?_ ?_
      | refine LeO.bind ?_ (fun _ => ?_)
    · intro y0 y1 y2 y3 y4 y5 y6
      unfold jobberlaw19_CallClears.l0
      repeat' first
      | (with_reducible exact ih0 _ _ _ _ _)
      | (with_reducible exact ih1 _ _ _ _ _ _ _)
      | (with_reducible exact ih2 _ _ _ _ _ _ _ _)
      | (with_reducible exact ih3 _ _ _ _ _ _ _ _)
      | (with_reducible exact ih4 _ _ _ _ _ _ _ _ _ _ _ _ _ _ _ _ _ _)
      | (with_reducible exact ih5 _ _ _ _ _ _ _ _ _ _ _ _ _ _ _ _)
      | (with_reducible exact call_Deals.mono _ _ _ _ _ _)
      | (with_reducible exact jobberlaw19_lives.mono _)
      | (with_reducible exact LeO.refl _)
      | (with_reducible exact LeO.none _)
      | (with_reducible refine LeO.ite ?_ ?_)
      | (with_reducible refine LeO.bind ?_ (fun _ => ?_))
      | exact ih0 _ _ _ _ _
      | exact ih1 _ _ _ _ _ _ _
      | exact ih2 _ _ _ _ _ _ _ _
      | exact ih3 _ _ _ _ _ _ _ _
      | exact ih4 _ _ _ _ _ _ _ _ _ _ _ _ _ _ _ _ _ _
      | exact ih5 _ _ _ _ _ _ _ _ _ _ _ _ _ _ _ _
      | exact call_Deals.mono _ _ _ _ _ _
      | exact jobberlaw19_lives.mono _
      | exact LeO.none _
      | refine LeO.ite ?_ ?_
      | refine LeO.bind ?_ (fun _ => ?_)
    · intro y0 y1 y2 y3 y4 y5 y6 y7
      unfold jobberlaw19_CallClears.l1
      repeat' first
      | (with_reducible exact ih0 _ _ _ _ _)
      | (with_reducible exact ih1 _ _ _ _ _ _ _)
      | (with_reducible exact ih2 _ _ _ _ _ _ _ _)
      | (with_reducible exact ih3 _ _ _ _ _ _ _ _)
      | (with_reducible exact ih4 _ _ _ _ _ _ _ _ _ _ _ _ _ _ _ _ _ _)
      | (with_reducible exact ih5 _ _ _ _ _ _ _ _ _ _ _ _ _ _ _ _)
      | (with_reducible exact call_Deals.mono _ _ _ _ _ _)
      | (with_reducible exact jobberlaw19_lives.mono _)
      | (with_reducible exact LeO.refl _)
      | (with_reducible exact LeO.none _)
      | (with_reducible refine LeO.ite ?_ ?_)
      | (with_reducible refine LeO.bind ?_ (fun _ => ?_))
      | exact ih0 _ _ _ _ _
      | exact ih1 _ _ _ _ _ _ _
      | exact ih2 _ _ _ _ _ _ _ _
      | exact ih3 _ _ _ _ _ _ _ _
      | exact ih4 _ _ _ _ _ _ _ _ _ _ _ _ _ _ _ _ _ _
      | exact ih5 _ _ _ _ _ _ _ _ _ _ _ _ _ _ _ _
      | exact call_Deals.mono _ _ _ _ _ _
      | exact jobberlaw19_lives.mono _
      | exact LeO.none _
      | refine LeO.ite ?_ ?_
      | refine LeO.bind ?_ (fun _ => ?_)
    · intro y0 y1 y2 y3 y4 y5 y6 y7
      unfold jobberlaw19_CallClears.l2
      repeat' first
      | (with_reducible exact ih0 _ _ _ _ _)
      | (with_reducible exact ih1 _ _ _ _ _ _ _)
      | (with_reducible exact ih2 _ _ _ _ _ _ _ _)
      | (with_reducible exact ih3 _ _ _ _ _ _ _ _)
      | (with_reducible exact ih4 _ _ _ _ _ _ _ _ _ _ _ _ _ _ _ _ _ _)
      | (with_reducible exact ih5 _ _ _ _ _ _ _ _ _ _ _ _ _ _ _ _)
      | (with_reducible exact call_Deals.mono _ _ _ _ _ _)
      | (with_reducible exact jobberlaw19_lives.mono _)
      | (with_reducible exact LeO.refl _)
      | (with_reducible exact LeO.none _)
      | (with_reducible refine LeO.ite ?_ ?_)
      | (with_reducible refine LeO.bind ?_ (fun _ => ?_))
      | exact ih0 _ _ _ _ _
      | exact ih1 _ _ _ _ _ _ _
      | exact ih2 _ _ _ _ _ _ _ _
      | exact ih3 _ _ _ _ _ _ _ _
      | exact ih4 _ _ _ _ _ _ _ _ _ _ _ _ _ _ _ _ _ _
      | exact ih5 _ _ _ _ _ _ _ _ _ _ _ _ _ _ _ _
      | exact call_Deals.mono _ _ _ _ _ _
      | exact jobberlaw19_lives.mono _
      | exact LeO.none _
      | refine LeO.ite ?_ ?_
      | refine LeO.bind ?_ (fun _ => ?_)
    · intro y0 y1 y2 y3 y4 y5 y6 y7 y8 y9 y10 y11 y12 y13 y14 y15 y16 y17
      unfold jobberlaw19_CallClears.l3
      repeat' first
      | (with_reducible exact ih0 _ _ _ _ _)
      | (with_reducible exact ih1 _ _ _ _ _ _ _)
      | (with_reducible exact ih2 _ _ _ _ _ _ _ _)
      | (with_reducible exact ih3 _ _ _ _ _ _ _ _)
      | (with_reducible exact ih4 _ _ _ _ _ _ _ _ _ _ _ _ _ _ _ _ _ _)
      | (with_reducible exact ih5 _ _ _ _ _ _ _ _ _ _ _ _ _ _ _ _)
      | (with_reducible exact call_Deals.mono _ _ _ _ _ _)
      | (with_reducible exact jobberlaw19_lives.mono _)
      | (with_reducible exact LeO.refl _)
      | (with_reducible exact LeO.none _)
      | (with_reducible refine LeO.ite ?_ ?_)
      | (with_reducible refine LeO.bind ?_ (fun _ => ?_))
      | exact ih0 _ _ _ _ _
      | exact ih1 _ _ _ _ _ _ _
      | exact ih2 _ _ _ _ _ _ _ _
      | exact ih3 _ _ _ _ _ _ _ _
      | exact ih4 _ _ _ _ _ _ _ _ _ _ _ _ _ _ _ _ _ _
      | exact ih5 _ _ _ _ _ _ _ _ _ _ _ _ _ _ _ _
      | exact call_Deals.mono _ _ _ _ _ _
      | exact jobberlaw19_lives.mono _
      | exact LeO.none _
      | refine LeO.ite ?_ ?_
      | refine LeO.bind ?_ (fun _ => ?_)
    · intro y0 y1 y2 y3 y4 y5 y6 y7 y8 y9 y10 y11 y12 y13 y14 y15
      unfold jobberlaw19_CallClears.j5
      repeat' first
      | (with_reducible exact ih0 _ _ _ _ _)
      | (with_reducible exact ih1 _ _ _ _ _ _ _)
      | (with_reducible exact ih2 _ _ _ _ _ _ _ _)
      | (with_reducible exact ih3 _ _ _ _ _ _ _ _)
      | (with_reducible exact ih4 _ _ _ _ _ _ _ _ _ _ _ _ _ _ _ _ _ _)
      | (with_reducible exact ih5 _ _ _ _ _ _ _ _ _ _ _ _ _ _ _ _)
      | (with_reducible exact call_Deals.mono _ _ _ _ _ _)
      | (with_reducible exact jobberlaw19_lives.mono _)
      | (with_reducible exact LeO.refl _)
      | (with_reducible exact LeO.none _)
      | (with_reducible refine LeO.ite ?_ ?_)
      | (with_reducible refine LeO.bind ?_ (fun _ => ?_))
      | exact ih0 _ _ _ _ _
      | exact ih1 _ _ _ _ _ _ _
      | exact ih2 _ _ _ _ _ _ _ _
      | exact ih3 _ _ _ _ _ _ _ _
      | exact ih4 _ _ _ _ _ _ _ _ _ _ _ _ _ _ _ _ _ _
      | exact ih5 _ _ _ _ _ _ _ _ _ _ _ _ _ _ _ _
      | exact call_Deals.mono _ _ _ _ _ _
      | exact jobberlaw19_lives.mono _
      | exact LeO.none _
      | refine LeO.ite ?_ ?_
      | refine LeO.bind ?_ (fun _ => ?_)
theorem jobberlaw19_CallClears.mono : ∀ a0 a1 a2 a3 k, LeO (jobberlaw19_CallClears.f k a0 a1 a2 a3) (jobberlaw19_CallClears.f (k + 1) a0 a1 a2 a3) := by
  intro a0 a1 a2 a3 k
  obtain ⟨ih0, ih1, ih2, ih3, ih4, ih5⟩ := jobberlaw19_CallClears.mono_l k
  unfold jobberlaw19_CallClears.f
  repeat' first
      | (with_reducible exact ih0 _ _ _ _ _)
      | (with_reducible exact ih1 _ _ _ _ _ _ _)
      | (with_reducible exact ih2 _ _ _ _ _ _ _ _)
      | (with_reducible exact ih3 _ _ _ _ _ _ _ _)
      | (with_reducible exact ih4 _ _ _ _ _ _ _ _ _ _ _ _ _ _ _ _ _ _)
      | (with_reducible exact ih5 _ _ _ _ _ _ _ _ _ _ _ _ _ _ _ _)
      | (with_reducible exact call_Deals.mono _ _ _ _ _ _)
      | (with_reducible exact jobberlaw19_lives.mono _)
      | (with_reducible exact LeO.refl _)
      | (with_reducible exact LeO.none _)
      | (with_reducible refine LeO.ite ?_ ?_)
      | (with_reducible refine LeO.bind ?_ (fun _ => ?_))
      | exact ih0 _ _ _ _ _
      | exact ih1 _ _ _ _ _ _ _
      | exact ih2 _ _ _ _ _ _ _ _
      | exact ih3 _ _ _ _ _ _ _ _
      | exact ih4 _ _ _ _ _ _ _ _ _ _ _ _ _ _ _ _ _ _
      | exact ih5 _ _ _ _ _ _ _ _ _ _ _ _ _ _ _ _
      | exact call_Deals.mono _ _ _ _ _ _
      | exact jobberlaw19_lives.mono _
      | exact LeO.none _
      | refine LeO.ite ?_ ?_
      | refine LeO.bind ?_ (fun _ => ?_)
set_option maxHeartbeats 8000000 in
set_option maxRecDepth 100000 in
theorem jobberlaw19_CallClears.calls (k : Nat) (A0 : Option Addr) (c0 : Nat) (l0 : List (S42)) (a1 : Int) (a2 : Int) (a3 : Int) (r : Bool) (w : World) (hr0 : Kd.C k42 w A0 l0.length l0) (hc0 : l0.length ≤ c0) (h : jobberlaw19_CallClears.f k l0 a1 a2 a3 = some r) :
    Calls Try.prog 6 #[.slice A0 l0.length c0, .int .i64 a1, .int .i64 a2, .int .i64 a3] w fun e w' => e = .returned (.bool r) ∧ Below w.heap.size w w' := by
  have hu42 := Try.underlying42
  have hu44 := Try.underlying44
  have HR0 := Aside0.mk hr0
  have HC0 := Aside0.mk hc0
  clear hr0 hc0
  have HB := Aside0.mk (Below.refl w.heap.size w)
  have H : (if (l0.length : Int) > 64 then (jobberlaw19_CallClears.j0 k l0 a1 a2 a3 true) else (if a3 < 1 then (jobberlaw19_CallClears.j0 k l0 a1 a2 a3 true) else (if a3 > 1099511627776 then (jobberlaw19_CallClears.j0 k l0 a1 a2 a3 true) else (if a2 = 1 then (jobberlaw19_CallClears.j0 k l0 a1 a2 a3 false) else (jobberlaw19_CallClears.j0 k l0 a1 a2 a3 (a2 != 2)))))) = some r := h
  clear h
  have HC5 := Aside0.mk H
  clear H
  go_enter Try.func6, Try.ntmps6
  go_upto_region 1 with (fail)
  go_cut [42] (fun v42 wc => ∃ (kq : Nat) (x42_4 : Bool), v42 = .bool x42_4 ∧ Aside0 (jobberlaw19_CallClears.j0 kq l0 a1 a2 a3 x42_4 = some r) ∧ Aside0 (kq ≤ k) ∧ Aside0 (Below w.heap.size w wc))
  case first =>
    have H := HC5.out
    clear HC5
    by_cases c6 : (l0.length : Int) > 64
    · rw [if_pos c6] at H
      have c6b0 : decide (64 < (l0.length : Int)) = true := decide_eq_true c6
      have c6b1 : decide (64 < l0.length) = true := decide_eq_true (by omega)
      clear c6
      (first | rw [c6b0] | (simp only [i64_w, i32_w]; rw [c6b0]) | skip)
      have H' := Aside0.mk H
      clear H
      go_wp2
      go_meet
      case rel => exact ⟨_, (true), (by first | rfl | (simp; done) | (simp [*]; done)), H', ⟨by first | omega | exact Nat.le_refl _⟩, ⟨by repeat (first | (with_reducible first | exact HB.out | apply below_alloc | apply pw_below_drewN | apply below_drew1) | exact HB.out)⟩⟩
    · rw [if_neg c6] at H
      have c6b0 : decide (64 < (l0.length : Int)) = false := decide_eq_false c6
      have c6b1 : decide (64 < l0.length) = false := decide_eq_false (by omega)
      clear c6
      (first | rw [c6b0] | (simp only [i64_w, i32_w]; rw [c6b0]) | skip)
      by_cases c7 : a3 < 1
      · rw [if_pos c7] at H
        have c7b0 : decide (a3 < 1) = true := decide_eq_true c7
        clear c7
        have H' := Aside0.mk H
        clear H
        go_wp2
        go_meet
        case rel => exact ⟨_, (true), (by first | rfl | (simp; done) | (simp [*]; done)), H', ⟨by first | omega | exact Nat.le_refl _⟩, ⟨by repeat (first | (with_reducible first | exact HB.out | apply below_alloc | apply pw_below_drewN | apply below_drew1) | exact HB.out)⟩⟩
      · rw [if_neg c7] at H
        have c7b0 : decide (a3 < 1) = false := decide_eq_false c7
        clear c7
        by_cases c8 : a3 > 1099511627776
        · rw [if_pos c8] at H
          have c8b0 : decide (1099511627776 < a3) = true := decide_eq_true c8
          clear c8
          have H' := Aside0.mk H
          clear H
          go_wp2
          go_meet
          case rel => exact ⟨_, (true), (by first | rfl | (simp; done) | (simp [*]; done)), H', ⟨by first | omega | exact Nat.le_refl _⟩, ⟨by repeat (first | (with_reducible first | exact HB.out | apply below_alloc | apply pw_below_drewN | apply below_drew1) | exact HB.out)⟩⟩
        · rw [if_neg c8] at H
          have c8b0 : decide (1099511627776 < a3) = false := decide_eq_false c8
          clear c8
          by_cases c9 : a2 = 1
          · rw [if_pos c9] at H
            have c9b0 : (a2 == 1) = true := beq_iff_eq.mpr c9
            have c9b1 : (a2 != 1) = false := bne_eq_false_iff_eq.mpr c9
            clear c9
            have H' := Aside0.mk H
            clear H
            go_wp2
            go_meet
            case rel => exact ⟨_, (false), (by first | rfl | (simp; done) | (simp [*]; done)), H', ⟨by first | omega | exact Nat.le_refl _⟩, ⟨by repeat (first | (with_reducible first | exact HB.out | apply below_alloc | apply pw_below_drewN | apply below_drew1) | exact HB.out)⟩⟩
          · rw [if_neg c9] at H
            have c9b0 : (a2 == 1) = false := beq_eq_false_iff_ne.mpr c9
            have c9b1 : (a2 != 1) = true := bne_iff_ne.mpr c9
            have H' := Aside0.mk H
            clear H
            go_wp2
            go_meet
            case rel => exact ⟨_, ((a2 != 2)), (by first | rfl | (simp; done) | (simp [*]; done)), H', ⟨by first | omega | exact Nat.le_refl _⟩, ⟨by repeat (first | (with_reducible first | exact HB.out | apply below_alloc | apply pw_below_drewN | apply below_drew1) | exact HB.out)⟩⟩
  case rest =>
    clear HC5
    try clear p2
    try clear c6
    try clear c6b0
    try clear c6b1
    try clear c7
    try clear c7b0
    try clear c8
    try clear c8b0
    try clear c9
    try clear c9b0
    try clear c9b1
    obtain ⟨kq, x42_4, rfl, HA, HJ4, HB⟩ := hcut
    cases kq with
    | zero => exact absurd HA.out (by simp [jobberlaw19_CallClears.j0])
    | succ kj4 =>
      have H := HA.out
      clear HA
      simp only [jobberlaw19_CallClears.j0] at H
      by_cases c10 : x42_4 = true
      · subst c10
        have H1 : ((jobberlaw19_lives.f kj4).bind fun t203 => (some t203)) = some r := by rw [if_pos rfl] at H; exact H
        clear H
        have H := H1
        clear H1
        replace H := Option.bind_eq_some_iff.mp H
        obtain ⟨t203, A110, H⟩ := H
        replace H : (some t203) = some r := H
        have A11 := Aside0.mk A110
        clear A110
        obtain rfl := Option.some.inj H
        go_wp2_with (first | ((with_reducible refine gate_callee (f := 7) rfl ?_); refine goesL_ (some 43) rfl rfl Try.func7 (by kernel_rfl) rfl #[] rfl (by (try simp only [List.map_toArray, List.map_cons, List.map_nil]); first | done | rfl | (simp only [List.length_drop, List.length_take]; rfl)) ?_; (with_reducible refine (jobberlaw19_lives.calls kj4  t203 _ A11.out).mono ?_); rintro e w12 ⟨rfl, hb⟩; refine ⟨_, rfl, ?_⟩; have n0_ := Aside0.mk (below_step (by repeat (first | (with_reducible first | exact HB.out | apply below_alloc | apply pw_below_drewN | apply below_drew1) | exact HB.out)) hb); clear HB; have HB := n0_; clear n0_; (try clear hb); (try clear hb2); (try clear hk); (try clear hi)))
        go_ret
        exact ⟨by first | rfl | (simp [errW_none, errW_some] <;> rfl) | (simp [*, errW_none, errW_some] <;> rfl), by repeat (first | (with_reducible first | exact HB.out | apply below_alloc | apply pw_below_drewN | apply below_drew1) | exact HB.out)⟩
      · replace c10 := Bool.eq_false_iff.mpr c10
        subst c10
        have H1 : (jobberlaw19_CallClears.l0 kj4 l0 a1 a2 a3 l0 (l0.length : Int) 0) = some r := by rw [if_neg (show ¬ (false = true) by decide)] at H; exact H
        clear H
        have H := H1
        clear H1
        have H' := Aside0.mk H
        clear H
        go_wp2
        go_loopg [46] kj4 (fun kq v46 w' => ∃ (x46_2 : Int), v46 = .int .i64 x46_2 ∧ Aside0 (jobberlaw19_CallClears.l0 kq l0 a1 a2 a3 l0 (l0.length : Int) x46_2 = some r) ∧ Aside0 (kq ≤ kj4) ∧ Aside0 (Below w.heap.size w w'))
        case atStart => exact ⟨(0), (by first | rfl | (simp; done) | (simp [*]; done)), H', ⟨Nat.le_refl _⟩, ⟨by repeat (first | (with_reducible first | exact HB.out | apply below_alloc | apply pw_below_drewN | apply below_drew1) | exact HB.out)⟩⟩
        case round =>
          clear H'
          try clear c1
          try clear p2
          try clear c6
          try clear c6b0
          try clear c6b1
          try clear c7
          try clear c7b0
          try clear c8
          try clear c8b0
          try clear c9
          try clear c9b0
          try clear c9b1
          try clear c10
          try clear p2
          obtain ⟨x46_2, rfl, HA, HK2, HB⟩ := hrel
          cases gk with
          | zero => exact absurd HA.out (by simp [jobberlaw19_CallClears.l0])
          | succ k2 =>
            have H := HA.out
            clear HA
            simp only [jobberlaw19_CallClears.l0] at H
            by_cases c13 : x46_2 < (l0.length : Int)
            · rw [if_pos c13] at H
              have c13b0 : decide (x46_2 < (l0.length : Int)) = true := decide_eq_true c13
              clear c13
              by_cases c14 : 0 ≤ x46_2
              · rw [if_pos c14] at H
                have c14b0 : decide (0 ≤ x46_2) = true := decide_eq_true c14
                clear c14
                by_cases c15 : x46_2 < (l0.length : Int)
                · rw [if_pos c15] at H
                  have c15b0 : decide (x46_2 < (l0.length : Int)) = true := decide_eq_true c15
                  clear c15
                  by_cases c16 : a3 = 0
                  · rw [if_pos c16] at H
                    exact absurd H (by simp)
                  · rw [if_neg c16] at H
                    have c16b0 : (a3 == 0) = false := beq_eq_false_iff_ne.mpr c16
                    have c16b1 : (a3 != 0) = true := bne_iff_ne.mpr c16
                    by_cases c17 : (Int.tmod ((rd_T42 l0 x46_2).f4) a3) = 0
                    · rw [if_pos c17] at H
                      have c17b0 : ((Int.tmod ((rd_T42 l0 x46_2).f4) a3) == 0) = true := beq_iff_eq.mpr c17
                      have c17b1 : ((Int.tmod ((rd_T42 l0 x46_2).f4) a3) != 0) = false := bne_eq_false_iff_eq.mpr c17
                      clear c17
                      have H' := Aside0.mk H
                      clear H
                      have p204 : 0 ≤ (x46_2 : Int) := of_decide_eq_true (by first | (with_reducible assumption) | assumption)
                      have q204 : x46_2 < (l0.length : Int) := of_decide_eq_true (by first | (with_reducible assumption) | assumption)
                      obtain ⟨ad204, e204, hx204_0, hx204_1, hx204_2, hx204_3, hx204_4, hx204_5⟩ := at_T42 HR0.out x46_2 p204 q204
                      cases e204
                      replace hx204_0 := (HB.out.cell (World.block_lt_of_cell? w _ hx204_0)).trans hx204_0
                      replace hx204_1 := (HB.out.cell (World.block_lt_of_cell? w _ hx204_1)).trans hx204_1
                      replace hx204_2 := (HB.out.cell (World.block_lt_of_cell? w _ hx204_2)).trans hx204_2
                      replace hx204_3 := (HB.out.cell (World.block_lt_of_cell? w _ hx204_3)).trans hx204_3
                      replace hx204_4 := (HB.out.cell (World.block_lt_of_cell? w _ hx204_4)).trans hx204_4
                      replace hx204_5 := (HB.out.cell (World.block_lt_of_cell? w _ hx204_5)).trans hx204_5
                      replace p204 := eq_true p204
                      replace q204 := eq_true q204
                      go_wp2_with (first | ((with_reducible refine gate_dst (N := 10) rfl ?_); (try (refine gate_guard (by rfl) ?_; dsimp only)); refine box_event ?hg (N := 10) ?hd (cs := #[.int .u64 0, .int .i64 0, .int .i64 0, .int .i64 0, .int .i64 0, .int .u64 0]) (t := 42) ?hr ?_; (case hd => rfl); (case hg => rfl); (case hr => first | (go_simp; done) | (go_simp; rfl)); intro gb205 hg w18 hbox hb; have n0_ := Aside0.mk (below_step (by repeat (first | (with_reducible first | exact HB.out | apply below_alloc | apply pw_below_drewN | apply below_drew1) | exact HB.out)) hb); have n1_ := Aside0.mk (hbox); have n2_ := Aside0.mk ((by rw [hg]; exact (below_size (by repeat (first | (with_reducible first | exact HB.out | apply below_alloc | apply pw_below_drewN | apply below_drew1) | exact HB.out))) : w.heap.size ≤ gb205)); have n3_ := Aside0.mk ((by rw [hg]; exact (below_size (by repeat (first | (with_reducible first | exact HB.out | apply below_alloc | apply pw_below_drewN | apply below_drew1) | exact HB.out))) : w.heap.size ≤ gb205)); clear HB; have HB := n0_; have BK205 := n1_; have GW205 := n2_; have GE205 := n3_; clear n0_ n1_ n2_ n3_; clear hb hbox hg; have hcz19_0 : w18.cell? ⟨gb205, 0, none⟩ = some (.int .u64 0) := (blk_cell BK205.out 0).trans rfl; have hcz19_1 : w18.cell? ⟨gb205, 1, none⟩ = some (.int .i64 0) := (blk_cell BK205.out 1).trans rfl; have hcz19_2 : w18.cell? ⟨gb205, 2, none⟩ = some (.int .i64 0) := (blk_cell BK205.out 2).trans rfl; have hcz19_3 : w18.cell? ⟨gb205, 3, none⟩ = some (.int .i64 0) := (blk_cell BK205.out 3).trans rfl; have hcz19_4 : w18.cell? ⟨gb205, 4, none⟩ = some (.int .i64 0) := (blk_cell BK205.out 4).trans rfl; have hcz19_5 : w18.cell? ⟨gb205, 5, none⟩ = some (.int .u64 0) := (blk_cell BK205.out 5).trans rfl; have hfz19_0 := blk_frozen BK205.out 0; have hfz19_1 := blk_frozen BK205.out 1; have hfz19_2 := blk_frozen BK205.out 2; have hfz19_3 := blk_frozen BK205.out 3; have hfz19_4 := blk_frozen BK205.out 4; have hfz19_5 := blk_frozen BK205.out 5))
                      go_roundg k2
                      case measure => have := HJ4.out; have := HK2.out; omega
                      case rel => exact ⟨(wrap64 (x46_2 + 1)), (by first | rfl | (simp; done) | (simp [*]; done)), H', ⟨by have := HJ4.out; have := HK2.out; omega⟩, ⟨by repeat (first | (with_reducible first | exact HB.out | apply below_alloc | apply pw_below_drewN | apply below_drew1 | refine below_set ?_ GE205.out) | exact HB.out)⟩⟩
                    · rw [if_neg c17] at H
                      have c17b0 : ((Int.tmod ((rd_T42 l0 x46_2).f4) a3) == 0) = false := beq_eq_false_iff_ne.mpr c17
                      have c17b1 : ((Int.tmod ((rd_T42 l0 x46_2).f4) a3) != 0) = true := bne_iff_ne.mpr c17
                      replace H := Option.bind_eq_some_iff.mp H
                      obtain ⟨t206, A200, H⟩ := H
                      replace H : (some t206) = some r := H
                      have A20 := Aside0.mk A200
                      clear A200
                      obtain rfl := Option.some.inj H
                      have p204 : 0 ≤ (x46_2 : Int) := of_decide_eq_true (by first | (with_reducible assumption) | assumption)
                      have q204 : x46_2 < (l0.length : Int) := of_decide_eq_true (by first | (with_reducible assumption) | assumption)
                      obtain ⟨ad204, e204, hx204_0, hx204_1, hx204_2, hx204_3, hx204_4, hx204_5⟩ := at_T42 HR0.out x46_2 p204 q204
                      cases e204
                      replace hx204_0 := (HB.out.cell (World.block_lt_of_cell? w _ hx204_0)).trans hx204_0
                      replace hx204_1 := (HB.out.cell (World.block_lt_of_cell? w _ hx204_1)).trans hx204_1
                      replace hx204_2 := (HB.out.cell (World.block_lt_of_cell? w _ hx204_2)).trans hx204_2
                      replace hx204_3 := (HB.out.cell (World.block_lt_of_cell? w _ hx204_3)).trans hx204_3
                      replace hx204_4 := (HB.out.cell (World.block_lt_of_cell? w _ hx204_4)).trans hx204_4
                      replace hx204_5 := (HB.out.cell (World.block_lt_of_cell? w _ hx204_5)).trans hx204_5
                      replace p204 := eq_true p204
                      replace q204 := eq_true q204
                      go_wp2_with (first | ((with_reducible refine gate_dst (N := 10) rfl ?_); (try (refine gate_guard (by rfl) ?_; dsimp only)); refine box_event ?hg (N := 10) ?hd (cs := #[.int .u64 0, .int .i64 0, .int .i64 0, .int .i64 0, .int .i64 0, .int .u64 0]) (t := 42) ?hr ?_; (case hd => rfl); (case hg => rfl); (case hr => first | (go_simp; done) | (go_simp; rfl)); intro gb205 hg w21 hbox hb; have n0_ := Aside0.mk (below_step (by repeat (first | (with_reducible first | exact HB.out | apply below_alloc | apply pw_below_drewN | apply below_drew1) | exact HB.out)) hb); have n1_ := Aside0.mk (hbox); have n2_ := Aside0.mk ((by rw [hg]; exact (below_size (by repeat (first | (with_reducible first | exact HB.out | apply below_alloc | apply pw_below_drewN | apply below_drew1) | exact HB.out))) : w.heap.size ≤ gb205)); have n3_ := Aside0.mk ((by rw [hg]; exact (below_size (by repeat (first | (with_reducible first | exact HB.out | apply below_alloc | apply pw_below_drewN | apply below_drew1) | exact HB.out))) : w.heap.size ≤ gb205)); clear HB; have HB := n0_; have BK205 := n1_; have GW205 := n2_; have GE205 := n3_; clear n0_ n1_ n2_ n3_; clear hb hbox hg; have hcz22_0 : w21.cell? ⟨gb205, 0, none⟩ = some (.int .u64 0) := (blk_cell BK205.out 0).trans rfl; have hcz22_1 : w21.cell? ⟨gb205, 1, none⟩ = some (.int .i64 0) := (blk_cell BK205.out 1).trans rfl; have hcz22_2 : w21.cell? ⟨gb205, 2, none⟩ = some (.int .i64 0) := (blk_cell BK205.out 2).trans rfl; have hcz22_3 : w21.cell? ⟨gb205, 3, none⟩ = some (.int .i64 0) := (blk_cell BK205.out 3).trans rfl; have hcz22_4 : w21.cell? ⟨gb205, 4, none⟩ = some (.int .i64 0) := (blk_cell BK205.out 4).trans rfl; have hcz22_5 : w21.cell? ⟨gb205, 5, none⟩ = some (.int .u64 0) := (blk_cell BK205.out 5).trans rfl; have hfz22_0 := blk_frozen BK205.out 0; have hfz22_1 := blk_frozen BK205.out 1; have hfz22_2 := blk_frozen BK205.out 2; have hfz22_3 := blk_frozen BK205.out 3; have hfz22_4 := blk_frozen BK205.out 4; have hfz22_5 := blk_frozen BK205.out 5) | ((with_reducible refine gate_callee (f := 7) rfl ?_); refine goesL_ (some 55) rfl rfl Try.func7 (by kernel_rfl) rfl #[] rfl (by (try simp only [List.map_toArray, List.map_cons, List.map_nil]); first | done | rfl | (simp only [List.length_drop, List.length_take]; rfl)) ?_; (with_reducible refine (jobberlaw19_lives.calls k2  t206 _ A20.out).mono ?_); rintro e w23 ⟨rfl, hb⟩; refine ⟨_, rfl, ?_⟩; have n0_ := Aside0.mk (blk_below (g := gb205) (o := .cells #[.int .u64 ((rd_T42 l0 x46_2).f0), .int .i64 ((rd_T42 l0 x46_2).f1), .int .i64 ((rd_T42 l0 x46_2).f2), .int .i64 ((rd_T42 l0 x46_2).f3), .int .i64 ((rd_T42 l0 x46_2).f4), .int .u64 ((rd_T42 l0 x46_2).f5)] 42 (0, 0)) (by (with_reducible repeat (first | refine blk_drewN ?_ _ | refine blk_drew ?_ | refine blk_alloc ?_ _)); refine blk_put (cs := #[.int .u64 ((rd_T42 l0 x46_2).f0), .int .i64 ((rd_T42 l0 x46_2).f1), .int .i64 ((rd_T42 l0 x46_2).f2), .int .i64 ((rd_T42 l0 x46_2).f3), .int .i64 ((rd_T42 l0 x46_2).f4), .int .u64 0]) ?_ 5 _ rfl; (with_reducible repeat (first | refine blk_drewN ?_ _ | refine blk_drew ?_ | refine blk_alloc ?_ _)); refine blk_put (cs := #[.int .u64 ((rd_T42 l0 x46_2).f0), .int .i64 ((rd_T42 l0 x46_2).f1), .int .i64 ((rd_T42 l0 x46_2).f2), .int .i64 ((rd_T42 l0 x46_2).f3), .int .i64 0, .int .u64 0]) ?_ 4 _ rfl; (with_reducible repeat (first | refine blk_drewN ?_ _ | refine blk_drew ?_ | refine blk_alloc ?_ _)); refine blk_put (cs := #[.int .u64 ((rd_T42 l0 x46_2).f0), .int .i64 ((rd_T42 l0 x46_2).f1), .int .i64 ((rd_T42 l0 x46_2).f2), .int .i64 0, .int .i64 0, .int .u64 0]) ?_ 3 _ rfl; (with_reducible repeat (first | refine blk_drewN ?_ _ | refine blk_drew ?_ | refine blk_alloc ?_ _)); refine blk_put (cs := #[.int .u64 ((rd_T42 l0 x46_2).f0), .int .i64 ((rd_T42 l0 x46_2).f1), .int .i64 0, .int .i64 0, .int .i64 0, .int .u64 0]) ?_ 2 _ rfl; (with_reducible repeat (first | refine blk_drewN ?_ _ | refine blk_drew ?_ | refine blk_alloc ?_ _)); refine blk_put (cs := #[.int .u64 ((rd_T42 l0 x46_2).f0), .int .i64 0, .int .i64 0, .int .i64 0, .int .i64 0, .int .u64 0]) ?_ 1 _ rfl; (with_reducible repeat (first | refine blk_drewN ?_ _ | refine blk_drew ?_ | refine blk_alloc ?_ _)); refine blk_put (cs := #[.int .u64 0, .int .i64 0, .int .i64 0, .int .i64 0, .int .i64 0, .int .u64 0]) ?_ 0 _ rfl; (with_reducible repeat (first | refine blk_drewN ?_ _ | refine blk_drew ?_ | refine blk_alloc ?_ _)); exact BK205.out) hb); have n1_ := Aside0.mk (below_step (by repeat (first | (with_reducible first | exact HB.out | apply below_alloc | apply pw_below_drewN | apply below_drew1 | refine below_set ?_ GE205.out) | exact HB.out)) hb); clear BK205; clear HB; have BK205 := n0_; have HB := n1_; clear n0_ n1_; (try clear hb); (try clear hb2); (try clear hk); (try clear hi)))
                      go_ret
                      exact ⟨by first | rfl | (simp [errW_none, errW_some] <;> rfl) | (simp [*, errW_none, errW_some] <;> rfl), by repeat (first | (with_reducible first | exact HB.out | apply below_alloc | apply pw_below_drewN | apply below_drew1 | refine below_set ?_ GE205.out) | exact HB.out)⟩
                · rw [if_neg c15] at H
                  exact absurd H (by simp)
              · rw [if_neg c14] at H
                exact absurd H (by simp)
            · rw [if_neg c13] at H
              have c13b0 : decide (x46_2 < (l0.length : Int)) = false := decide_eq_false c13
              clear c13
              replace H := Option.bind_eq_some_iff.mp H
              obtain ⟨⟨t207, t208⟩, A240, H⟩ := H
              replace H : ((call_Deals.f k2 l0 t207 t208 a2 a3).bind fun t209 => (if t208 = 0 then (if t207 = 0 then (if (t209.length : Int) = 0 then ((jobberlaw19_lives.f k2).bind fun t212 => (some t212)) else (none)) else (none)) else (jobberlaw19_CallClears.l1 k2 l0 t207 t208 t209 0 t209 (t209.length : Int) 0))) = some r := H
              have A24 := Aside0.mk A240
              clear A240
              replace H := Option.bind_eq_some_iff.mp H
              obtain ⟨t209, A250, H⟩ := H
              replace H : (if t208 = 0 then (if t207 = 0 then (if (t209.length : Int) = 0 then ((jobberlaw19_lives.f k2).bind fun t212 => (some t212)) else (none)) else (none)) else (jobberlaw19_CallClears.l1 k2 l0 t207 t208 t209 0 t209 (t209.length : Int) 0)) = some r := H
              have A25 := Aside0.mk A250
              clear A250
              by_cases c26 : t208 = 0
              · rw [if_pos c26] at H
                have c26b0 : (t208 == 0) = true := beq_iff_eq.mpr c26
                have c26b1 : (t208 != 0) = false := bne_eq_false_iff_eq.mpr c26
                clear c26
                by_cases c27 : t207 = 0
                · rw [if_pos c27] at H
                  have c27b0 : (t207 == 0) = true := beq_iff_eq.mpr c27
                  have c27b1 : (t207 != 0) = false := bne_eq_false_iff_eq.mpr c27
                  clear c27
                  by_cases c28 : (t209.length : Int) = 0
                  · rw [if_pos c28] at H
                    have c28b0 : ((t209.length : Int) == 0) = true := beq_iff_eq.mpr c28
                    have c28b1 : ((t209.length : Int) != 0) = false := bne_eq_false_iff_eq.mpr c28
                    clear c28
                    replace H := Option.bind_eq_some_iff.mp H
                    obtain ⟨t212, A290, H⟩ := H
                    replace H : (some t212) = some r := H
                    have A29 := Aside0.mk A290
                    clear A290
                    obtain rfl := Option.some.inj H
                    go_wp2_with (first | ((with_reducible refine gate_callee (f := 8) rfl ?_); refine goesL_ (some 60) rfl rfl Try.func8 (by kernel_rfl) rfl #[.slice A0 l0.length c0, .int .i64 a1] rfl (by (try simp only [List.map_toArray, List.map_cons, List.map_nil]); first | done | rfl | (simp only [List.length_drop, List.length_take]; rfl)) ?_; (with_reducible refine (call_Price.calls _ _ l0 a1 t207 t208 _ ?side1 ?side2 A24.out).mono ?_); (case side1 => repeat (first | exact (Kd.C_below HR0.out HB.out) | (with_reducible refine Kd.C_alloc ?_ _) | (with_reducible refine Kd.C_drewN ?_ _) | (with_reducible refine Kd.C_drew ?_))); (case side2 => exact HC0.out); rintro e w30 ⟨rfl, hb⟩; refine ⟨_, rfl, ?_⟩; have n0_ := Aside0.mk (below_step (by repeat (first | (with_reducible first | exact HB.out | apply below_alloc | apply pw_below_drewN | apply below_drew1) | exact HB.out)) hb); clear HB; have HB := n0_; clear n0_; (try clear hb); (try clear hb2); (try clear hk); (try clear hi)) | ((with_reducible refine gate_callee (f := 14) rfl ?_); refine goesL_ (some 68) rfl rfl Try.func14 (by kernel_rfl) rfl #[.slice A0 l0.length c0, .int .i64 t207, .int .i64 t208, .int .i64 a2, .int .i64 a3] rfl (by (try simp only [List.map_toArray, List.map_cons, List.map_nil]); first | done | rfl | (simp only [List.length_drop, List.length_take]; rfl)) ?_; (with_reducible refine (call_Deals.calls k2 _ _ l0 t207 t208 a2 a3 t209 _ ?side1 ?side2 A25.out).mono ?_); (case side1 => repeat (first | exact (Kd.C_below HR0.out HB.out) | (with_reducible refine Kd.C_alloc ?_ _) | (with_reducible refine Kd.C_drewN ?_ _) | (with_reducible refine Kd.C_drew ?_))); (case side2 => exact HC0.out); rintro e w31 ⟨v210, rfl, ho0, hb⟩; refine ⟨_, rfl, ?_⟩; have n0_ := Aside0.mk (Kd.R_lower ho0 (below_size (by repeat (first | (with_reducible first | exact HB.out | apply below_alloc | apply pw_below_drewN | apply below_drew1) | exact HB.out)))); have n1_ := Aside0.mk (below_step (by repeat (first | (with_reducible first | exact HB.out | apply below_alloc | apply pw_below_drewN | apply below_drew1) | exact HB.out)) hb); clear HB; have HO211 := n0_; have HB := n1_; clear n0_ n1_; (try clear hb); (try clear hb2); (try clear hk); (try clear hi); (try clear ho0); obtain ⟨Ao32, co32, eo32⟩ := Kd.R_slice HO211.out; subst eo32) | (go_at_call 7; (with_reducible refine (jobberlaw19_lives.calls k2  t212 _ A29.out).mono ?_); rintro e w33 ⟨rfl, hb⟩; have n0_ := Aside0.mk (Kd.R_below (by (with_reducible repeat (first | apply Kd.R_alloc | apply Kd.R_drewN | apply Kd.R_drew)); exact HO211.out) hb); have n1_ := Aside0.mk (below_step (by repeat (first | (with_reducible first | exact HB.out | apply below_alloc | apply pw_below_drewN | apply below_drew1) | exact HB.out)) hb); clear HO211; clear HB; have HO211 := n0_; have HB := n1_; clear n0_ n1_; (try clear hb); (try clear hb2); (try clear hk); (try clear hi)))
                    go_ret
                    exact ⟨by first | rfl | (simp [errW_none, errW_some] <;> rfl) | (simp [*, errW_none, errW_some] <;> rfl), by repeat (first | (with_reducible first | exact HB.out | apply below_alloc | apply pw_below_drewN | apply below_drew1) | exact HB.out)⟩
                  · rw [if_neg c28] at H
                    exact absurd H (by simp)
                · rw [if_neg c27] at H
                  exact absurd H (by simp)
              · rw [if_neg c26] at H
                have c26b0 : (t208 == 0) = false := beq_eq_false_iff_ne.mpr c26
                have c26b1 : (t208 != 0) = true := bne_iff_ne.mpr c26
                have H' := Aside0.mk H
                clear H
                go_wp2_with (first | ((with_reducible refine gate_callee (f := 8) rfl ?_); refine goesL_ (some 60) rfl rfl Try.func8 (by kernel_rfl) rfl #[.slice A0 l0.length c0, .int .i64 a1] rfl (by (try simp only [List.map_toArray, List.map_cons, List.map_nil]); first | done | rfl | (simp only [List.length_drop, List.length_take]; rfl)) ?_; (with_reducible refine (call_Price.calls _ _ l0 a1 t207 t208 _ ?side1 ?side2 A24.out).mono ?_); (case side1 => repeat (first | exact (Kd.C_below HR0.out HB.out) | (with_reducible refine Kd.C_alloc ?_ _) | (with_reducible refine Kd.C_drewN ?_ _) | (with_reducible refine Kd.C_drew ?_))); (case side2 => exact HC0.out); rintro e w34 ⟨rfl, hb⟩; refine ⟨_, rfl, ?_⟩; have n0_ := Aside0.mk (below_step (by repeat (first | (with_reducible first | exact HB.out | apply below_alloc | apply pw_below_drewN | apply below_drew1) | exact HB.out)) hb); clear HB; have HB := n0_; clear n0_; (try clear hb); (try clear hb2); (try clear hk); (try clear hi)) | ((with_reducible refine gate_callee (f := 14) rfl ?_); refine goesL_ (some 68) rfl rfl Try.func14 (by kernel_rfl) rfl #[.slice A0 l0.length c0, .int .i64 t207, .int .i64 t208, .int .i64 a2, .int .i64 a3] rfl (by (try simp only [List.map_toArray, List.map_cons, List.map_nil]); first | done | rfl | (simp only [List.length_drop, List.length_take]; rfl)) ?_; (with_reducible refine (call_Deals.calls k2 _ _ l0 t207 t208 a2 a3 t209 _ ?side1 ?side2 A25.out).mono ?_); (case side1 => repeat (first | exact (Kd.C_below HR0.out HB.out) | (with_reducible refine Kd.C_alloc ?_ _) | (with_reducible refine Kd.C_drewN ?_ _) | (with_reducible refine Kd.C_drew ?_))); (case side2 => exact HC0.out); rintro e w35 ⟨v210, rfl, ho0, hb⟩; refine ⟨_, rfl, ?_⟩; have n0_ := Aside0.mk (Kd.R_lower ho0 (below_size (by repeat (first | (with_reducible first | exact HB.out | apply below_alloc | apply pw_below_drewN | apply below_drew1) | exact HB.out)))); have n1_ := Aside0.mk (below_step (by repeat (first | (with_reducible first | exact HB.out | apply below_alloc | apply pw_below_drewN | apply below_drew1) | exact HB.out)) hb); clear HB; have HO211 := n0_; have HB := n1_; clear n0_ n1_; (try clear hb); (try clear hb2); (try clear hk); (try clear hi); (try clear ho0); obtain ⟨Ao36, co36, eo36⟩ := Kd.R_slice HO211.out; subst eo36))
                go_loopg [14, 83] k2 (fun kq v14 v83 w' => ∃ (x14_3 : Int) (x83_3 : Int), v14 = .int .i64 x14_3 ∧ v83 = .int .i64 x83_3 ∧ Aside0 (jobberlaw19_CallClears.l1 kq l0 t207 t208 t209 x14_3 t209 (t209.length : Int) x83_3 = some r) ∧ Aside0 (kq ≤ k2) ∧ Aside0 (Kd.R k44 44 w' w.heap.size (fun _ => True) (.slice Ao36 t209.length co36) t209) ∧ Aside0 (Kd.R k44 44 w' w.heap.size (fun _ => True) (.slice Ao36 t209.length co36) t209) ∧ Aside0 (Below w.heap.size w w'))
                case atStart => exact ⟨(0), (0), (by first | rfl | (simp; done) | (simp [*]; done)), (by first | rfl | (simp; done) | (simp [*]; done)), H', ⟨Nat.le_refl _⟩, ⟨by (with_reducible repeat (first | apply Kd.R_alloc | apply Kd.R_drewN | apply Kd.R_drew)); exact HO211.out⟩, ⟨by (with_reducible repeat (first | apply Kd.R_alloc | apply Kd.R_drewN | apply Kd.R_drew)); exact HO211.out⟩, ⟨by repeat (first | (with_reducible first | exact HB.out | apply below_alloc | apply pw_below_drewN | apply below_drew1) | exact HB.out)⟩⟩
                case round =>
                  clear H'
                  try clear c1
                  try clear c2
                  try clear p2
                  try clear q2
                  try clear hx2
                  try clear c6
                  try clear c6b0
                  try clear c6b1
                  try clear p6
                  try clear c7
                  try clear c7b0
                  try clear c8
                  try clear c8b0
                  try clear c9
                  try clear c9b0
                  try clear c9b1
                  try clear c10
                  try clear c13
                  try clear c13b0
                  try clear c14
                  try clear c14b0
                  try clear c15
                  try clear c15b0
                  try clear c16
                  try clear c16b0
                  try clear c16b1
                  try clear c17
                  try clear c17b0
                  try clear c17b1
                  try clear p20
                  try clear q20
                  try clear hx20
                  try clear c26
                  try clear c26b0
                  try clear c26b1
                  try clear c27
                  try clear c27b0
                  try clear c27b1
                  try clear c28
                  try clear c28b0
                  try clear c28b1
                  try clear hcz19_0
                  try clear hcz19_1
                  try clear hcz19_2
                  try clear hcz19_3
                  try clear hcz19_4
                  try clear hcz19_5
                  try clear hcz22_0
                  try clear hcz22_1
                  try clear hcz22_2
                  try clear hcz22_3
                  try clear hcz22_4
                  try clear hcz22_5
                  try clear hfz19_0
                  try clear hfz19_1
                  try clear hfz19_2
                  try clear hfz19_3
                  try clear hfz19_4
                  try clear hfz19_5
                  try clear hfz22_0
                  try clear hfz22_1
                  try clear hfz22_2
                  try clear hfz22_3
                  try clear hfz22_4
                  try clear hfz22_5
                  try clear hx204_0
                  try clear hx204_1
                  try clear hx204_2
                  try clear hx204_3
                  try clear hx204_4
                  try clear hx204_5
                  try clear p2
                  try clear p204
                  try clear q204
                  obtain ⟨x14_3, x83_3, rfl, rfl, HA, HK3, HO_13, HO_81, HB⟩ := hrel
                  cases gk with
                  | zero => exact absurd HA.out (by simp [jobberlaw19_CallClears.l1])
                  | succ k3 =>
                    have H := HA.out
                    clear HA
                    simp only [jobberlaw19_CallClears.l1] at H
                    by_cases c37 : x83_3 < (t209.length : Int)
                    · rw [if_pos c37] at H
                      have c37b0 : decide (x83_3 < (t209.length : Int)) = true := decide_eq_true c37
                      clear c37
                      by_cases c38 : 0 ≤ x83_3
                      · rw [if_pos c38] at H
                        have c38b0 : decide (0 ≤ x83_3) = true := decide_eq_true c38
                        clear c38
                        by_cases c39 : x83_3 < (t209.length : Int)
                        · rw [if_pos c39] at H
                          have c39b0 : decide (x83_3 < (t209.length : Int)) = true := decide_eq_true c39
                          clear c39
                          by_cases c40 : ((rd_T44 t209 x83_3).f2) < 1
                          · rw [if_pos c40] at H
                            exact absurd H (by simp)
                          · rw [if_neg c40] at H
                            have c40b0 : decide (((rd_T44 t209 x83_3).f2) < 1) = false := decide_eq_false c40
                            clear c40
                            by_cases c41 : ((rd_T44 t209 x83_3).f0.f3) < t207
                            · rw [if_pos c41] at H
                              exact absurd H (by simp)
                            · rw [if_neg c41] at H
                              have c41b0 : decide (((rd_T44 t209 x83_3).f0.f3) < t207) = false := decide_eq_false c41
                              clear c41
                              by_cases c42 : ((rd_T44 t209 x83_3).f1.f3) > t207
                              · rw [if_pos c42] at H
                                exact absurd H (by simp)
                              · rw [if_neg c42] at H
                                have c42b0 : decide (t207 < ((rd_T44 t209 x83_3).f1.f3)) = false := decide_eq_false c42
                                clear c42
                                by_cases c43 : ((rd_T44 t209 x83_3).f0.f2) = 1
                                · rw [if_pos c43] at H
                                  have c43b0 : (((rd_T44 t209 x83_3).f0.f2) == 1) = true := beq_iff_eq.mpr c43
                                  have c43b1 : (((rd_T44 t209 x83_3).f0.f2) != 1) = false := bne_eq_false_iff_eq.mpr c43
                                  clear c43
                                  by_cases c44 : ((rd_T44 t209 x83_3).f1.f2) = 2
                                  · rw [if_pos c44] at H
                                    have c44b0 : (((rd_T44 t209 x83_3).f1.f2) == 2) = true := beq_iff_eq.mpr c44
                                    have c44b1 : (((rd_T44 t209 x83_3).f1.f2) != 2) = false := bne_eq_false_iff_eq.mpr c44
                                    clear c44
                                    have H' := Aside0.mk H
                                    clear H
                                    have p213 : 0 ≤ (x83_3 : Int) := of_decide_eq_true (by first | (with_reducible assumption) | assumption)
                                    have q213 : x83_3 < (t209.length : Int) := of_decide_eq_true (by first | (with_reducible assumption) | assumption)
                                    obtain ⟨ad213, e213, hx213_0, hx213_1, hx213_2, hx213_3, hx213_4, hx213_5, hx213_6, hx213_7, hx213_8, hx213_9, hx213_10, hx213_11, hx213_12⟩ := at_T44 (Kd.R_reads' HO_81.out).2.2 x83_3 p213 q213
                                    cases e213
                                    replace p213 := eq_true p213
                                    replace q213 := eq_true q213
                                    go_wp2_with (first | ((with_reducible refine gate_dst (N := 16) rfl ?_); (try (refine gate_guard (by rfl) ?_; dsimp only)); refine box_event ?hg (N := 16) ?hd (cs := #[.int .u64 0, .int .i64 0, .int .i64 0, .int .i64 0, .int .i64 0, .int .u64 0, .int .u64 0, .int .i64 0, .int .i64 0, .int .i64 0, .int .i64 0, .int .u64 0, .int .i64 0]) (t := 44) ?hr ?_; (case hd => rfl); (case hg => rfl); (case hr => first | (go_simp; done) | (go_simp; rfl)); intro gb214 hg w45 hbox hb; have n0_ := Aside0.mk (Kd.R_below (Kd.R_elderB (by (with_reducible repeat (first | apply Kd.R_alloc | apply Kd.R_drewN | apply Kd.R_drew)); exact HO_13.out) gb214 (Nat.le_of_eq hg.symm)) hb); have n1_ := Aside0.mk (Kd.R_below (Kd.R_elderB (by (with_reducible repeat (first | apply Kd.R_alloc | apply Kd.R_drewN | apply Kd.R_drew)); exact HO_81.out) gb214 (Nat.le_of_eq hg.symm)) hb); have n2_ := Aside0.mk (below_step (by repeat (first | (with_reducible first | exact HB.out | apply below_alloc | apply pw_below_drewN | apply below_drew1) | exact HB.out)) hb); have n3_ := Aside0.mk (hbox); have n4_ := Aside0.mk ((by rw [hg]; exact (below_size (by repeat (first | (with_reducible first | exact HB.out | apply below_alloc | apply pw_below_drewN | apply below_drew1) | exact HB.out))) : w.heap.size ≤ gb214)); have n5_ := Aside0.mk ((by rw [hg]; exact (below_size (by repeat (first | (with_reducible first | exact HB.out | apply below_alloc | apply pw_below_drewN | apply below_drew1) | exact HB.out))) : w.heap.size ≤ gb214)); clear HO_13; clear HO_81; clear HB; have HO_13 := n0_; have HO_81 := n1_; have HB := n2_; have BK214 := n3_; have GW214 := n4_; have GE214 := n5_; clear n0_ n1_ n2_ n3_ n4_ n5_; clear hb hbox hg; have hcz46_0 : w45.cell? ⟨gb214, 0, none⟩ = some (.int .u64 0) := (blk_cell BK214.out 0).trans rfl; have hcz46_1 : w45.cell? ⟨gb214, 1, none⟩ = some (.int .i64 0) := (blk_cell BK214.out 1).trans rfl; have hcz46_2 : w45.cell? ⟨gb214, 2, none⟩ = some (.int .i64 0) := (blk_cell BK214.out 2).trans rfl; have hcz46_3 : w45.cell? ⟨gb214, 3, none⟩ = some (.int .i64 0) := (blk_cell BK214.out 3).trans rfl; have hcz46_4 : w45.cell? ⟨gb214, 4, none⟩ = some (.int .i64 0) := (blk_cell BK214.out 4).trans rfl; have hcz46_5 : w45.cell? ⟨gb214, 5, none⟩ = some (.int .u64 0) := (blk_cell BK214.out 5).trans rfl; have hcz46_6 : w45.cell? ⟨gb214, 6, none⟩ = some (.int .u64 0) := (blk_cell BK214.out 6).trans rfl; have hcz46_7 : w45.cell? ⟨gb214, 7, none⟩ = some (.int .i64 0) := (blk_cell BK214.out 7).trans rfl; have hcz46_8 : w45.cell? ⟨gb214, 8, none⟩ = some (.int .i64 0) := (blk_cell BK214.out 8).trans rfl; have hcz46_9 : w45.cell? ⟨gb214, 9, none⟩ = some (.int .i64 0) := (blk_cell BK214.out 9).trans rfl; have hcz46_10 : w45.cell? ⟨gb214, 10, none⟩ = some (.int .i64 0) := (blk_cell BK214.out 10).trans rfl; have hcz46_11 : w45.cell? ⟨gb214, 11, none⟩ = some (.int .u64 0) := (blk_cell BK214.out 11).trans rfl; have hcz46_12 : w45.cell? ⟨gb214, 12, none⟩ = some (.int .i64 0) := (blk_cell BK214.out 12).trans rfl; have hfz46_0 := blk_frozen BK214.out 0; have hfz46_1 := blk_frozen BK214.out 1; have hfz46_2 := blk_frozen BK214.out 2; have hfz46_3 := blk_frozen BK214.out 3; have hfz46_4 := blk_frozen BK214.out 4; have hfz46_5 := blk_frozen BK214.out 5; have hfz46_6 := blk_frozen BK214.out 6; have hfz46_7 := blk_frozen BK214.out 7; have hfz46_8 := blk_frozen BK214.out 8; have hfz46_9 := blk_frozen BK214.out 9; have hfz46_10 := blk_frozen BK214.out 10; have hfz46_11 := blk_frozen BK214.out 11; have hfz46_12 := blk_frozen BK214.out 12))
                                    go_roundg k3
                                    case measure => have := HJ4.out; have := HK2.out; have := HK3.out; omega
                                    case rel => exact ⟨(wrap64 (x14_3 + ((rd_T44 t209 x83_3).f2))), (wrap64 (x83_3 + 1)), (by first | rfl | (simp; done) | (simp [*]; done)), (by first | rfl | (simp; done) | (simp [*]; done)), H', ⟨by have := HJ4.out; have := HK2.out; have := HK3.out; omega⟩, ⟨by (with_reducible repeat (first | apply Kd.R_alloc | apply Kd.R_drewN | apply Kd.R_drew)); exact Kd.R_mono (Kd.R_far (p := ⟨gb214, 12, none⟩) (Kd.R_far (p := ⟨gb214, 11, none⟩) (Kd.R_far (p := ⟨gb214, 10, none⟩) (Kd.R_far (p := ⟨gb214, 9, none⟩) (Kd.R_far (p := ⟨gb214, 8, none⟩) (Kd.R_far (p := ⟨gb214, 7, none⟩) (Kd.R_far (p := ⟨gb214, 6, none⟩) (Kd.R_far (p := ⟨gb214, 5, none⟩) (Kd.R_far (p := ⟨gb214, 4, none⟩) (Kd.R_far (p := ⟨gb214, 3, none⟩) (Kd.R_far (p := ⟨gb214, 2, none⟩) (Kd.R_far (p := ⟨gb214, 1, none⟩) (Kd.R_far (p := ⟨gb214, 0, none⟩) (Kd.R_mono HO_13.out (fun k_ hk => (⟨hk, hk.2⟩ : _ ∧ k_ ≠ gb214))) (fun _ hk => hk.2) (.int .u64 ((rd_T44 t209 x83_3).f0.f0))) (fun _ hk => hk.2) (.int .i64 ((rd_T44 t209 x83_3).f0.f1))) (fun _ hk => hk.2) (.int .i64 ((rd_T44 t209 x83_3).f0.f2))) (fun _ hk => hk.2) (.int .i64 ((rd_T44 t209 x83_3).f0.f3))) (fun _ hk => hk.2) (.int .i64 ((rd_T44 t209 x83_3).f0.f4))) (fun _ hk => hk.2) (.int .u64 ((rd_T44 t209 x83_3).f0.f5))) (fun _ hk => hk.2) (.int .u64 ((rd_T44 t209 x83_3).f1.f0))) (fun _ hk => hk.2) (.int .i64 ((rd_T44 t209 x83_3).f1.f1))) (fun _ hk => hk.2) (.int .i64 ((rd_T44 t209 x83_3).f1.f2))) (fun _ hk => hk.2) (.int .i64 ((rd_T44 t209 x83_3).f1.f3))) (fun _ hk => hk.2) (.int .i64 ((rd_T44 t209 x83_3).f1.f4))) (fun _ hk => hk.2) (.int .u64 ((rd_T44 t209 x83_3).f1.f5))) (fun _ hk => hk.2) (.int .i64 ((rd_T44 t209 x83_3).f2))) (fun _ hk => trivial)⟩, ⟨by (with_reducible repeat (first | apply Kd.R_alloc | apply Kd.R_drewN | apply Kd.R_drew)); exact Kd.R_mono (Kd.R_far (p := ⟨gb214, 12, none⟩) (Kd.R_far (p := ⟨gb214, 11, none⟩) (Kd.R_far (p := ⟨gb214, 10, none⟩) (Kd.R_far (p := ⟨gb214, 9, none⟩) (Kd.R_far (p := ⟨gb214, 8, none⟩) (Kd.R_far (p := ⟨gb214, 7, none⟩) (Kd.R_far (p := ⟨gb214, 6, none⟩) (Kd.R_far (p := ⟨gb214, 5, none⟩) (Kd.R_far (p := ⟨gb214, 4, none⟩) (Kd.R_far (p := ⟨gb214, 3, none⟩) (Kd.R_far (p := ⟨gb214, 2, none⟩) (Kd.R_far (p := ⟨gb214, 1, none⟩) (Kd.R_far (p := ⟨gb214, 0, none⟩) (Kd.R_mono HO_81.out (fun k_ hk => (⟨hk, hk.2⟩ : _ ∧ k_ ≠ gb214))) (fun _ hk => hk.2) (.int .u64 ((rd_T44 t209 x83_3).f0.f0))) (fun _ hk => hk.2) (.int .i64 ((rd_T44 t209 x83_3).f0.f1))) (fun _ hk => hk.2) (.int .i64 ((rd_T44 t209 x83_3).f0.f2))) (fun _ hk => hk.2) (.int .i64 ((rd_T44 t209 x83_3).f0.f3))) (fun _ hk => hk.2) (.int .i64 ((rd_T44 t209 x83_3).f0.f4))) (fun _ hk => hk.2) (.int .u64 ((rd_T44 t209 x83_3).f0.f5))) (fun _ hk => hk.2) (.int .u64 ((rd_T44 t209 x83_3).f1.f0))) (fun _ hk => hk.2) (.int .i64 ((rd_T44 t209 x83_3).f1.f1))) (fun _ hk => hk.2) (.int .i64 ((rd_T44 t209 x83_3).f1.f2))) (fun _ hk => hk.2) (.int .i64 ((rd_T44 t209 x83_3).f1.f3))) (fun _ hk => hk.2) (.int .i64 ((rd_T44 t209 x83_3).f1.f4))) (fun _ hk => hk.2) (.int .u64 ((rd_T44 t209 x83_3).f1.f5))) (fun _ hk => hk.2) (.int .i64 ((rd_T44 t209 x83_3).f2))) (fun _ hk => trivial)⟩, ⟨by repeat (first | (with_reducible first | exact HB.out | apply below_alloc | apply pw_below_drewN | apply below_drew1 | refine below_set ?_ GE214.out) | exact HB.out)⟩⟩
                                  · rw [if_neg c44] at H
                                    exact absurd H (by simp)
                                · rw [if_neg c43] at H
                                  exact absurd H (by simp)
                        · rw [if_neg c39] at H
                          exact absurd H (by simp)
                      · rw [if_neg c38] at H
                        exact absurd H (by simp)
                    · rw [if_neg c37] at H
                      have c37b0 : decide (x83_3 < (t209.length : Int)) = false := decide_eq_false c37
                      clear c37
                      have H' := Aside0.mk H
                      clear H
                      go_wp2
                      go_loopg [17, 18, 123] k3 (fun kq v17 v18 v123 w' => ∃ (x17_4 : Int) (x18_4 : Int) (x123_4 : Int), v17 = .int .i64 x17_4 ∧ v18 = .int .i64 x18_4 ∧ v123 = .int .i64 x123_4 ∧ Aside0 (jobberlaw19_CallClears.l2 kq t208 t209 x14_3 x17_4 x18_4 l0 (l0.length : Int) x123_4 = some r) ∧ Aside0 (kq ≤ k3) ∧ Aside0 (Kd.R k44 44 w' w.heap.size (fun _ => True) (.slice Ao36 t209.length co36) t209) ∧ Aside0 (Below w.heap.size w w'))
                      case atStart => exact ⟨(0), (1099511627777), (0), (by first | rfl | (simp; done) | (simp [*]; done)), (by first | rfl | (simp; done) | (simp [*]; done)), (by first | rfl | (simp; done) | (simp [*]; done)), H', ⟨Nat.le_refl _⟩, ⟨by (with_reducible repeat (first | apply Kd.R_alloc | apply Kd.R_drewN | apply Kd.R_drew)); exact HO_13.out⟩, ⟨by repeat (first | (with_reducible first | exact HB.out | apply below_alloc | apply pw_below_drewN | apply below_drew1) | exact HB.out)⟩⟩
                      case round =>
                        clear H'
                        try clear c1
                        try clear c2
                        try clear p2
                        try clear q2
                        try clear hx2
                        try clear c3
                        try clear c4
                        try clear c6
                        try clear c6b0
                        try clear c6b1
                        try clear p6
                        try clear c7
                        try clear c7b0
                        try clear c8
                        try clear c8b0
                        try clear c9
                        try clear c9b0
                        try clear c9b1
                        try clear c10
                        try clear c13
                        try clear c13b0
                        try clear c14
                        try clear c14b0
                        try clear c15
                        try clear c15b0
                        try clear c16
                        try clear c16b0
                        try clear c16b1
                        try clear c17
                        try clear c17b0
                        try clear c17b1
                        try clear p20
                        try clear q20
                        try clear hx20
                        try clear p21
                        try clear q21
                        try clear hx21
                        try clear c26
                        try clear c26b0
                        try clear c26b1
                        try clear c27
                        try clear c27b0
                        try clear c27b1
                        try clear c28
                        try clear c28b0
                        try clear c28b1
                        try clear c37
                        try clear c37b0
                        try clear c38
                        try clear c38b0
                        try clear c39
                        try clear c39b0
                        try clear c40
                        try clear c40b0
                        try clear c41
                        try clear c41b0
                        try clear c42
                        try clear c42b0
                        try clear c43
                        try clear c43b0
                        try clear c43b1
                        try clear c44
                        try clear c44b0
                        try clear c44b1
                        try clear hcz19_0
                        try clear hcz19_1
                        try clear hcz19_2
                        try clear hcz19_3
                        try clear hcz19_4
                        try clear hcz19_5
                        try clear hcz22_0
                        try clear hcz22_1
                        try clear hcz22_2
                        try clear hcz22_3
                        try clear hcz22_4
                        try clear hcz22_5
                        try clear hcz46_0
                        try clear hcz46_1
                        try clear hcz46_10
                        try clear hcz46_11
                        try clear hcz46_12
                        try clear hcz46_2
                        try clear hcz46_3
                        try clear hcz46_4
                        try clear hcz46_5
                        try clear hcz46_6
                        try clear hcz46_7
                        try clear hcz46_8
                        try clear hcz46_9
                        try clear hfz19_0
                        try clear hfz19_1
                        try clear hfz19_2
                        try clear hfz19_3
                        try clear hfz19_4
                        try clear hfz19_5
                        try clear hfz22_0
                        try clear hfz22_1
                        try clear hfz22_2
                        try clear hfz22_3
                        try clear hfz22_4
                        try clear hfz22_5
                        try clear hfz46_0
                        try clear hfz46_1
                        try clear hfz46_10
                        try clear hfz46_11
                        try clear hfz46_12
                        try clear hfz46_2
                        try clear hfz46_3
                        try clear hfz46_4
                        try clear hfz46_5
                        try clear hfz46_6
                        try clear hfz46_7
                        try clear hfz46_8
                        try clear hfz46_9
                        try clear hx204_0
                        try clear hx204_1
                        try clear hx204_2
                        try clear hx204_3
                        try clear hx204_4
                        try clear hx204_5
                        try clear hx213_0
                        try clear hx213_1
                        try clear hx213_10
                        try clear hx213_11
                        try clear hx213_12
                        try clear hx213_2
                        try clear hx213_3
                        try clear hx213_4
                        try clear hx213_5
                        try clear hx213_6
                        try clear hx213_7
                        try clear hx213_8
                        try clear hx213_9
                        try clear p2
                        try clear p20
                        try clear p204
                        try clear p213
                        try clear p6
                        try clear q2
                        try clear q20
                        try clear q204
                        try clear q213
                        obtain ⟨x17_4, x18_4, x123_4, rfl, rfl, rfl, HA, HK4, HO_13, HB⟩ := hrel
                        cases gk with
                        | zero => exact absurd HA.out (by simp [jobberlaw19_CallClears.l2])
                        | succ k4 =>
                          have H := HA.out
                          clear HA
                          simp only [jobberlaw19_CallClears.l2] at H
                          by_cases c47 : x123_4 < (l0.length : Int)
                          · rw [if_pos c47] at H
                            have c47b0 : decide (x123_4 < (l0.length : Int)) = true := decide_eq_true c47
                            clear c47
                            by_cases c48 : 0 ≤ x123_4
                            · rw [if_pos c48] at H
                              have c48b0 : decide (0 ≤ x123_4) = true := decide_eq_true c48
                              clear c48
                              by_cases c49 : x123_4 < (l0.length : Int)
                              · rw [if_pos c49] at H
                                have c49b0 : decide (x123_4 < (l0.length : Int)) = true := decide_eq_true c49
                                clear c49
                                have H' := Aside0.mk H
                                clear H
                                have p216 : 0 ≤ (x123_4 : Int) := of_decide_eq_true (by first | (with_reducible assumption) | assumption)
                                have q216 : x123_4 < (l0.length : Int) := of_decide_eq_true (by first | (with_reducible assumption) | assumption)
                                obtain ⟨ad216, e216, hx216_0, hx216_1, hx216_2, hx216_3, hx216_4, hx216_5⟩ := at_T42 HR0.out x123_4 p216 q216
                                cases e216
                                replace hx216_0 := (HB.out.cell (World.block_lt_of_cell? w _ hx216_0)).trans hx216_0
                                replace hx216_1 := (HB.out.cell (World.block_lt_of_cell? w _ hx216_1)).trans hx216_1
                                replace hx216_2 := (HB.out.cell (World.block_lt_of_cell? w _ hx216_2)).trans hx216_2
                                replace hx216_3 := (HB.out.cell (World.block_lt_of_cell? w _ hx216_3)).trans hx216_3
                                replace hx216_4 := (HB.out.cell (World.block_lt_of_cell? w _ hx216_4)).trans hx216_4
                                replace hx216_5 := (HB.out.cell (World.block_lt_of_cell? w _ hx216_5)).trans hx216_5
                                replace p216 := eq_true p216
                                replace q216 := eq_true q216
                                go_wp2_with (first | ((with_reducible refine gate_dst (N := 20) rfl ?_); (try (refine gate_guard (by rfl) ?_; dsimp only)); refine box_event ?hg (N := 20) ?hd (cs := #[.int .u64 0, .int .i64 0, .int .i64 0, .int .i64 0, .int .i64 0, .int .u64 0]) (t := 42) ?hr ?_; (case hd => rfl); (case hg => rfl); (case hr => first | (go_simp; done) | (go_simp; rfl)); intro gb217 hg w50 hbox hb; have n0_ := Aside0.mk (Kd.R_below (by (with_reducible repeat (first | apply Kd.R_alloc | apply Kd.R_drewN | apply Kd.R_drew)); exact HO_13.out) hb); have n1_ := Aside0.mk (below_step (by repeat (first | (with_reducible first | exact HB.out | apply below_alloc | apply pw_below_drewN | apply below_drew1) | exact HB.out)) hb); have n2_ := Aside0.mk (hbox); have n3_ := Aside0.mk ((by rw [hg]; exact (below_size (by repeat (first | (with_reducible first | exact HB.out | apply below_alloc | apply pw_below_drewN | apply below_drew1) | exact HB.out))) : w.heap.size ≤ gb217)); have n4_ := Aside0.mk ((by rw [hg]; exact (below_size (by repeat (first | (with_reducible first | exact HB.out | apply below_alloc | apply pw_below_drewN | apply below_drew1) | exact HB.out))) : w.heap.size ≤ gb217)); clear HO_13; clear HB; have HO_13 := n0_; have HB := n1_; have BK217 := n2_; have GW217 := n3_; have GE217 := n4_; clear n0_ n1_ n2_ n3_ n4_; clear hb hbox hg; have hcz51_0 : w50.cell? ⟨gb217, 0, none⟩ = some (.int .u64 0) := (blk_cell BK217.out 0).trans rfl; have hcz51_1 : w50.cell? ⟨gb217, 1, none⟩ = some (.int .i64 0) := (blk_cell BK217.out 1).trans rfl; have hcz51_2 : w50.cell? ⟨gb217, 2, none⟩ = some (.int .i64 0) := (blk_cell BK217.out 2).trans rfl; have hcz51_3 : w50.cell? ⟨gb217, 3, none⟩ = some (.int .i64 0) := (blk_cell BK217.out 3).trans rfl; have hcz51_4 : w50.cell? ⟨gb217, 4, none⟩ = some (.int .i64 0) := (blk_cell BK217.out 4).trans rfl; have hcz51_5 : w50.cell? ⟨gb217, 5, none⟩ = some (.int .u64 0) := (blk_cell BK217.out 5).trans rfl; have hfz51_0 := blk_frozen BK217.out 0; have hfz51_1 := blk_frozen BK217.out 1; have hfz51_2 := blk_frozen BK217.out 2; have hfz51_3 := blk_frozen BK217.out 3; have hfz51_4 := blk_frozen BK217.out 4; have hfz51_5 := blk_frozen BK217.out 5))
                                go_loopg [21, 131] k4 (fun kq v21 v131 w' => ∃ (x21_5 : Int) (x131_5 : Int), v21 = .int .i64 x21_5 ∧ v131 = .int .i64 x131_5 ∧ Aside0 (jobberlaw19_CallClears.l3 kq t208 t209 x14_3 x17_4 x18_4 x21_5 l0 (l0.length : Int) x123_4 t209 (t209.length : Int) x131_5 ((rd_T42 l0 x123_4).f0) ((rd_T42 l0 x123_4).f1) ((rd_T42 l0 x123_4).f2) ((rd_T42 l0 x123_4).f3) ((rd_T42 l0 x123_4).f4) ((rd_T42 l0 x123_4).f5) = some r) ∧ Aside0 (kq ≤ k4) ∧ Aside0 (Kd.R k44 44 w' w.heap.size (fun _ => True) (.slice Ao36 t209.length co36) t209) ∧ Aside0 (Kd.R k44 44 w' w.heap.size (fun _ => True) (.slice Ao36 t209.length co36) t209) ∧ Aside0 (w'.heap[gb217]? = some (.cells #[.int .u64 ((rd_T42 l0 x123_4).f0), .int .i64 ((rd_T42 l0 x123_4).f1), .int .i64 ((rd_T42 l0 x123_4).f2), .int .i64 ((rd_T42 l0 x123_4).f3), .int .i64 ((rd_T42 l0 x123_4).f4), .int .u64 ((rd_T42 l0 x123_4).f5)] 42 (0, 0))) ∧ Aside0 (Below w.heap.size w w'))
                                case atStart => exact ⟨((rd_T42 l0 x123_4).f4), (0), (by first | rfl | (simp; done) | (simp [*]; done)), (by first | rfl | (simp; done) | (simp [*]; done)), H', ⟨Nat.le_refl _⟩, ⟨by (with_reducible repeat (first | apply Kd.R_alloc | apply Kd.R_drewN | apply Kd.R_drew)); exact Kd.R_mono (Kd.R_far (p := ⟨gb217, 5, none⟩) (Kd.R_far (p := ⟨gb217, 4, none⟩) (Kd.R_far (p := ⟨gb217, 3, none⟩) (Kd.R_far (p := ⟨gb217, 2, none⟩) (Kd.R_far (p := ⟨gb217, 1, none⟩) (Kd.R_far (p := ⟨gb217, 0, none⟩) (Kd.R_types HO_13.out BK217.out (by decide)) (fun _ hk => hk.2) (.int .u64 ((rd_T42 l0 x123_4).f0))) (fun _ hk => hk.2) (.int .i64 ((rd_T42 l0 x123_4).f1))) (fun _ hk => hk.2) (.int .i64 ((rd_T42 l0 x123_4).f2))) (fun _ hk => hk.2) (.int .i64 ((rd_T42 l0 x123_4).f3))) (fun _ hk => hk.2) (.int .i64 ((rd_T42 l0 x123_4).f4))) (fun _ hk => hk.2) (.int .u64 ((rd_T42 l0 x123_4).f5))) (fun _ hk => trivial)⟩, ⟨by (with_reducible repeat (first | apply Kd.R_alloc | apply Kd.R_drewN | apply Kd.R_drew)); exact Kd.R_mono (Kd.R_far (p := ⟨gb217, 5, none⟩) (Kd.R_far (p := ⟨gb217, 4, none⟩) (Kd.R_far (p := ⟨gb217, 3, none⟩) (Kd.R_far (p := ⟨gb217, 2, none⟩) (Kd.R_far (p := ⟨gb217, 1, none⟩) (Kd.R_far (p := ⟨gb217, 0, none⟩) (Kd.R_types HO_13.out BK217.out (by decide)) (fun _ hk => hk.2) (.int .u64 ((rd_T42 l0 x123_4).f0))) (fun _ hk => hk.2) (.int .i64 ((rd_T42 l0 x123_4).f1))) (fun _ hk => hk.2) (.int .i64 ((rd_T42 l0 x123_4).f2))) (fun _ hk => hk.2) (.int .i64 ((rd_T42 l0 x123_4).f3))) (fun _ hk => hk.2) (.int .i64 ((rd_T42 l0 x123_4).f4))) (fun _ hk => hk.2) (.int .u64 ((rd_T42 l0 x123_4).f5))) (fun _ hk => trivial)⟩, ⟨by (with_reducible repeat (first | refine blk_drewN ?_ _ | refine blk_drew ?_ | refine blk_alloc ?_ _)); refine blk_put (cs := #[.int .u64 ((rd_T42 l0 x123_4).f0), .int .i64 ((rd_T42 l0 x123_4).f1), .int .i64 ((rd_T42 l0 x123_4).f2), .int .i64 ((rd_T42 l0 x123_4).f3), .int .i64 ((rd_T42 l0 x123_4).f4), .int .u64 0]) ?_ 5 _ rfl; (with_reducible repeat (first | refine blk_drewN ?_ _ | refine blk_drew ?_ | refine blk_alloc ?_ _)); refine blk_put (cs := #[.int .u64 ((rd_T42 l0 x123_4).f0), .int .i64 ((rd_T42 l0 x123_4).f1), .int .i64 ((rd_T42 l0 x123_4).f2), .int .i64 ((rd_T42 l0 x123_4).f3), .int .i64 0, .int .u64 0]) ?_ 4 _ rfl; (with_reducible repeat (first | refine blk_drewN ?_ _ | refine blk_drew ?_ | refine blk_alloc ?_ _)); refine blk_put (cs := #[.int .u64 ((rd_T42 l0 x123_4).f0), .int .i64 ((rd_T42 l0 x123_4).f1), .int .i64 ((rd_T42 l0 x123_4).f2), .int .i64 0, .int .i64 0, .int .u64 0]) ?_ 3 _ rfl; (with_reducible repeat (first | refine blk_drewN ?_ _ | refine blk_drew ?_ | refine blk_alloc ?_ _)); refine blk_put (cs := #[.int .u64 ((rd_T42 l0 x123_4).f0), .int .i64 ((rd_T42 l0 x123_4).f1), .int .i64 0, .int .i64 0, .int .i64 0, .int .u64 0]) ?_ 2 _ rfl; (with_reducible repeat (first | refine blk_drewN ?_ _ | refine blk_drew ?_ | refine blk_alloc ?_ _)); refine blk_put (cs := #[.int .u64 ((rd_T42 l0 x123_4).f0), .int .i64 0, .int .i64 0, .int .i64 0, .int .i64 0, .int .u64 0]) ?_ 1 _ rfl; (with_reducible repeat (first | refine blk_drewN ?_ _ | refine blk_drew ?_ | refine blk_alloc ?_ _)); refine blk_put (cs := #[.int .u64 0, .int .i64 0, .int .i64 0, .int .i64 0, .int .i64 0, .int .u64 0]) ?_ 0 _ rfl; (with_reducible repeat (first | refine blk_drewN ?_ _ | refine blk_drew ?_ | refine blk_alloc ?_ _)); exact BK217.out⟩, ⟨by repeat (first | (with_reducible first | exact HB.out | apply below_alloc | apply pw_below_drewN | apply below_drew1 | refine below_set ?_ GE217.out) | exact HB.out)⟩⟩
                                case round =>
                                  clear H'
                                  try clear c1
                                  try clear c2
                                  try clear p2
                                  try clear q2
                                  try clear hx2
                                  try clear c3
                                  try clear c4
                                  try clear c6
                                  try clear c6b0
                                  try clear c6b1
                                  try clear p6
                                  try clear c7
                                  try clear c7b0
                                  try clear c8
                                  try clear c8b0
                                  try clear c9
                                  try clear c9b0
                                  try clear c9b1
                                  try clear c10
                                  try clear c13
                                  try clear c13b0
                                  try clear c14
                                  try clear c14b0
                                  try clear c15
                                  try clear c15b0
                                  try clear c16
                                  try clear c16b0
                                  try clear c16b1
                                  try clear c17
                                  try clear c17b0
                                  try clear c17b1
                                  try clear p20
                                  try clear q20
                                  try clear hx20
                                  try clear p21
                                  try clear q21
                                  try clear hx21
                                  try clear c26
                                  try clear c26b0
                                  try clear c26b1
                                  try clear c27
                                  try clear c27b0
                                  try clear c27b1
                                  try clear c28
                                  try clear c28b0
                                  try clear c28b1
                                  try clear c37
                                  try clear c37b0
                                  try clear c38
                                  try clear c38b0
                                  try clear c39
                                  try clear c39b0
                                  try clear c40
                                  try clear c40b0
                                  try clear c41
                                  try clear c41b0
                                  try clear c42
                                  try clear c42b0
                                  try clear c43
                                  try clear c43b0
                                  try clear c43b1
                                  try clear c44
                                  try clear c44b0
                                  try clear c44b1
                                  try clear c47
                                  try clear c47b0
                                  try clear c48
                                  try clear c48b0
                                  try clear c49
                                  try clear c49b0
                                  try clear hcz19_0
                                  try clear hcz19_1
                                  try clear hcz19_2
                                  try clear hcz19_3
                                  try clear hcz19_4
                                  try clear hcz19_5
                                  try clear hcz22_0
                                  try clear hcz22_1
                                  try clear hcz22_2
                                  try clear hcz22_3
                                  try clear hcz22_4
                                  try clear hcz22_5
                                  try clear hcz46_0
                                  try clear hcz46_1
                                  try clear hcz46_10
                                  try clear hcz46_11
                                  try clear hcz46_12
                                  try clear hcz46_2
                                  try clear hcz46_3
                                  try clear hcz46_4
                                  try clear hcz46_5
                                  try clear hcz46_6
                                  try clear hcz46_7
                                  try clear hcz46_8
                                  try clear hcz46_9
                                  try clear hcz51_0
                                  try clear hcz51_1
                                  try clear hcz51_2
                                  try clear hcz51_3
                                  try clear hcz51_4
                                  try clear hcz51_5
                                  try clear hfz19_0
                                  try clear hfz19_1
                                  try clear hfz19_2
                                  try clear hfz19_3
                                  try clear hfz19_4
                                  try clear hfz19_5
                                  try clear hfz22_0
                                  try clear hfz22_1
                                  try clear hfz22_2
                                  try clear hfz22_3
                                  try clear hfz22_4
                                  try clear hfz22_5
                                  try clear hfz46_0
                                  try clear hfz46_1
                                  try clear hfz46_10
                                  try clear hfz46_11
                                  try clear hfz46_12
                                  try clear hfz46_2
                                  try clear hfz46_3
                                  try clear hfz46_4
                                  try clear hfz46_5
                                  try clear hfz46_6
                                  try clear hfz46_7
                                  try clear hfz46_8
                                  try clear hfz46_9
                                  try clear hfz51_0
                                  try clear hfz51_1
                                  try clear hfz51_2
                                  try clear hfz51_3
                                  try clear hfz51_4
                                  try clear hfz51_5
                                  try clear hx204_0
                                  try clear hx204_1
                                  try clear hx204_2
                                  try clear hx204_3
                                  try clear hx204_4
                                  try clear hx204_5
                                  try clear hx213_0
                                  try clear hx213_1
                                  try clear hx213_10
                                  try clear hx213_11
                                  try clear hx213_12
                                  try clear hx213_2
                                  try clear hx213_3
                                  try clear hx213_4
                                  try clear hx213_5
                                  try clear hx213_6
                                  try clear hx213_7
                                  try clear hx213_8
                                  try clear hx213_9
                                  try clear hx216_0
                                  try clear hx216_1
                                  try clear hx216_2
                                  try clear hx216_3
                                  try clear hx216_4
                                  try clear hx216_5
                                  try clear p2
                                  try clear p20
                                  try clear p204
                                  try clear p21
                                  try clear p213
                                  try clear p216
                                  try clear p6
                                  try clear q2
                                  try clear q20
                                  try clear q204
                                  try clear q21
                                  try clear q213
                                  try clear q216
                                  obtain ⟨x21_5, x131_5, rfl, rfl, HA, HK5, HO_13, HO_129, BK217, HB⟩ := hrel
                                  cases gk with
                                  | zero => exact absurd HA.out (by simp [jobberlaw19_CallClears.l3])
                                  | succ k5 =>
                                    have H := HA.out
                                    clear HA
                                    simp only [jobberlaw19_CallClears.l3] at H
                                    by_cases c52 : x131_5 < (t209.length : Int)
                                    · rw [if_pos c52] at H
                                      have c52b0 : decide (x131_5 < (t209.length : Int)) = true := decide_eq_true c52
                                      clear c52
                                      by_cases c53 : 0 ≤ x131_5
                                      · rw [if_pos c53] at H
                                        have c53b0 : decide (0 ≤ x131_5) = true := decide_eq_true c53
                                        clear c53
                                        by_cases c54 : x131_5 < (t209.length : Int)
                                        · rw [if_pos c54] at H
                                          have c54b0 : decide (x131_5 < (t209.length : Int)) = true := decide_eq_true c54
                                          clear c54
                                          by_cases c55 : (((rd_T44 t209 x131_5).f0.f0) == ((rd_T42 l0 x123_4).f0) && (((rd_T44 t209 x131_5).f0.f1) == ((rd_T42 l0 x123_4).f1) && (((rd_T44 t209 x131_5).f0.f2) == ((rd_T42 l0 x123_4).f2) && (((rd_T44 t209 x131_5).f0.f3) == ((rd_T42 l0 x123_4).f3) && (((rd_T44 t209 x131_5).f0.f4) == ((rd_T42 l0 x123_4).f4) && (((rd_T44 t209 x131_5).f0.f5) == ((rd_T42 l0 x123_4).f5))))))) = true
                                          · rw [if_pos c55] at H
                                            have c55b0 : (((rd_T44 t209 x131_5).f0.f0) == ((rd_T42 l0 x123_4).f0) && (((rd_T44 t209 x131_5).f0.f1) == ((rd_T42 l0 x123_4).f1) && (((rd_T44 t209 x131_5).f0.f2) == ((rd_T42 l0 x123_4).f2) && (((rd_T44 t209 x131_5).f0.f3) == ((rd_T42 l0 x123_4).f3) && (((rd_T44 t209 x131_5).f0.f4) == ((rd_T42 l0 x123_4).f4) && (((rd_T44 t209 x131_5).f0.f5) == ((rd_T42 l0 x123_4).f5))))))) = true := c55
                                            (try (have c55b1 : decide (((rd_T44 t209 x131_5).f0.f0) = ((rd_T42 l0 x123_4).f0) && (((rd_T44 t209 x131_5).f0.f1) == ((rd_T42 l0 x123_4).f1) && (((rd_T44 t209 x131_5).f0.f2) == ((rd_T42 l0 x123_4).f2) && (((rd_T44 t209 x131_5).f0.f3) == ((rd_T42 l0 x123_4).f3) && (((rd_T44 t209 x131_5).f0.f4) == ((rd_T42 l0 x123_4).f4) && (((rd_T44 t209 x131_5).f0.f5) == ((rd_T42 l0 x123_4).f5))))))) = true := by simpa using c55))
                                            (try (have c55b2 : (((rd_T44 t209 x131_5).f0.f0) == ((rd_T42 l0 x123_4).f0) && (((rd_T44 t209 x131_5).f0.f1) == ((rd_T42 l0 x123_4).f1) && (((rd_T44 t209 x131_5).f0.f2) == ((rd_T42 l0 x123_4).f2) && (((rd_T44 t209 x131_5).f0.f3) == ((rd_T42 l0 x123_4).f3) && (((rd_T44 t209 x131_5).f0.f4) == ((rd_T42 l0 x123_4).f4) && (((rd_T44 t209 x131_5).f0.f5) == ((rd_T42 l0 x123_4).f5))))))) = true := by simpa using c55))
                                            clear c55
                                            have H' := Aside0.mk H
                                            clear H
                                            have p218 : 0 ≤ (x131_5 : Int) := of_decide_eq_true (by first | (with_reducible assumption) | assumption)
                                            have q218 : x131_5 < (t209.length : Int) := of_decide_eq_true (by first | (with_reducible assumption) | assumption)
                                            obtain ⟨ad218, e218, hx218_0, hx218_1, hx218_2, hx218_3, hx218_4, hx218_5, hx218_6, hx218_7, hx218_8, hx218_9, hx218_10, hx218_11, hx218_12⟩ := at_T44 (Kd.R_reads' HO_129.out).2.2 x131_5 p218 q218
                                            cases e218
                                            replace p218 := eq_true p218
                                            replace q218 := eq_true q218
                                            go_wp2_with (first | ((with_reducible refine gate_dst (N := 23) rfl ?_); (try (refine gate_guard (by rfl) ?_; dsimp only)); refine box_event ?hg (N := 23) ?hd (cs := #[.int .u64 0, .int .i64 0, .int .i64 0, .int .i64 0, .int .i64 0, .int .u64 0, .int .u64 0, .int .i64 0, .int .i64 0, .int .i64 0, .int .i64 0, .int .u64 0, .int .i64 0]) (t := 44) ?hr ?_; (case hd => rfl); (case hg => rfl); (case hr => first | (go_simp; done) | (go_simp; rfl)); intro gb219 hg w56 hbox hb; have n0_ := Aside0.mk (Kd.R_below (Kd.R_elderB (by (with_reducible repeat (first | apply Kd.R_alloc | apply Kd.R_drewN | apply Kd.R_drew)); exact HO_13.out) gb219 (Nat.le_of_eq hg.symm)) hb); have n1_ := Aside0.mk (Kd.R_below (Kd.R_elderB (by (with_reducible repeat (first | apply Kd.R_alloc | apply Kd.R_drewN | apply Kd.R_drew)); exact HO_129.out) gb219 (Nat.le_of_eq hg.symm)) hb); have n2_ := Aside0.mk (blk_below (g := gb217) (o := .cells #[.int .u64 ((rd_T42 l0 x123_4).f0), .int .i64 ((rd_T42 l0 x123_4).f1), .int .i64 ((rd_T42 l0 x123_4).f2), .int .i64 ((rd_T42 l0 x123_4).f3), .int .i64 ((rd_T42 l0 x123_4).f4), .int .u64 ((rd_T42 l0 x123_4).f5)] 42 (0, 0)) (by (with_reducible repeat (first | refine blk_drewN ?_ _ | refine blk_drew ?_ | refine blk_alloc ?_ _)); exact BK217.out) hb); have n3_ := Aside0.mk (below_step (by repeat (first | (with_reducible first | exact HB.out | apply below_alloc | apply pw_below_drewN | apply below_drew1 | refine below_set ?_ GE217.out) | exact HB.out)) hb); have n4_ := Aside0.mk (hbox); have n5_ := Aside0.mk ((by rw [hg]; exact (below_size (by repeat (first | (with_reducible first | exact HB.out | apply below_alloc | apply pw_below_drewN | apply below_drew1 | refine below_set ?_ GE217.out) | exact HB.out))) : w.heap.size ≤ gb219)); have n6_ := Aside0.mk ((by rw [hg]; exact (below_size (by repeat (first | (with_reducible first | exact HB.out | apply below_alloc | apply pw_below_drewN | apply below_drew1 | refine below_set ?_ GE217.out) | exact HB.out))) : w.heap.size ≤ gb219)); have n7_ := Aside0.mk ((by rw [hg]; exact Nat.ne_of_lt (blk_lt (g := gb217) (o := .cells #[.int .u64 ((rd_T42 l0 x123_4).f0), .int .i64 ((rd_T42 l0 x123_4).f1), .int .i64 ((rd_T42 l0 x123_4).f2), .int .i64 ((rd_T42 l0 x123_4).f3), .int .i64 ((rd_T42 l0 x123_4).f4), .int .u64 ((rd_T42 l0 x123_4).f5)] 42 (0, 0)) (by (with_reducible repeat (first | refine blk_drewN ?_ _ | refine blk_drew ?_ | refine blk_alloc ?_ _)); exact BK217.out)) : gb217 ≠ gb219)); have n8_ := Aside0.mk ((by rw [hg]; exact Nat.ne_of_gt (blk_lt (g := gb217) (o := .cells #[.int .u64 ((rd_T42 l0 x123_4).f0), .int .i64 ((rd_T42 l0 x123_4).f1), .int .i64 ((rd_T42 l0 x123_4).f2), .int .i64 ((rd_T42 l0 x123_4).f3), .int .i64 ((rd_T42 l0 x123_4).f4), .int .u64 ((rd_T42 l0 x123_4).f5)] 42 (0, 0)) (by (with_reducible repeat (first | refine blk_drewN ?_ _ | refine blk_drew ?_ | refine blk_alloc ?_ _)); exact BK217.out)) : gb219 ≠ gb217)); clear HO_13; clear HO_129; clear BK217; clear HB; have HO_13 := n0_; have HO_129 := n1_; have BK217 := n2_; have HB := n3_; have BK219 := n4_; have GW219 := n5_; have GE219 := n6_; have NB217_219 := n7_; have NB219_217 := n8_; clear n0_ n1_ n2_ n3_ n4_ n5_ n6_ n7_ n8_; clear hb hbox hg; have hnb57 := NB219_217.out; have hnc57 := NB217_219.out; have hcz58_0 : w56.cell? ⟨gb219, 0, none⟩ = some (.int .u64 0) := (blk_cell BK219.out 0).trans rfl; have hcz58_1 : w56.cell? ⟨gb219, 1, none⟩ = some (.int .i64 0) := (blk_cell BK219.out 1).trans rfl; have hcz58_2 : w56.cell? ⟨gb219, 2, none⟩ = some (.int .i64 0) := (blk_cell BK219.out 2).trans rfl; have hcz58_3 : w56.cell? ⟨gb219, 3, none⟩ = some (.int .i64 0) := (blk_cell BK219.out 3).trans rfl; have hcz58_4 : w56.cell? ⟨gb219, 4, none⟩ = some (.int .i64 0) := (blk_cell BK219.out 4).trans rfl; have hcz58_5 : w56.cell? ⟨gb219, 5, none⟩ = some (.int .u64 0) := (blk_cell BK219.out 5).trans rfl; have hcz58_6 : w56.cell? ⟨gb219, 6, none⟩ = some (.int .u64 0) := (blk_cell BK219.out 6).trans rfl; have hcz58_7 : w56.cell? ⟨gb219, 7, none⟩ = some (.int .i64 0) := (blk_cell BK219.out 7).trans rfl; have hcz58_8 : w56.cell? ⟨gb219, 8, none⟩ = some (.int .i64 0) := (blk_cell BK219.out 8).trans rfl; have hcz58_9 : w56.cell? ⟨gb219, 9, none⟩ = some (.int .i64 0) := (blk_cell BK219.out 9).trans rfl; have hcz58_10 : w56.cell? ⟨gb219, 10, none⟩ = some (.int .i64 0) := (blk_cell BK219.out 10).trans rfl; have hcz58_11 : w56.cell? ⟨gb219, 11, none⟩ = some (.int .u64 0) := (blk_cell BK219.out 11).trans rfl; have hcz58_12 : w56.cell? ⟨gb219, 12, none⟩ = some (.int .i64 0) := (blk_cell BK219.out 12).trans rfl; have hfz58_0 := blk_frozen BK219.out 0; have hfz58_1 := blk_frozen BK219.out 1; have hfz58_2 := blk_frozen BK219.out 2; have hfz58_3 := blk_frozen BK219.out 3; have hfz58_4 := blk_frozen BK219.out 4; have hfz58_5 := blk_frozen BK219.out 5; have hfz58_6 := blk_frozen BK219.out 6; have hfz58_7 := blk_frozen BK219.out 7; have hfz58_8 := blk_frozen BK219.out 8; have hfz58_9 := blk_frozen BK219.out 9; have hfz58_10 := blk_frozen BK219.out 10; have hfz58_11 := blk_frozen BK219.out 11; have hfz58_12 := blk_frozen BK219.out 12; have hcz59_0 : w56.cell? ⟨gb217, 0, none⟩ = some (.int .u64 ((rd_T42 l0 x123_4).f0)) := (blk_cell BK217.out 0).trans rfl; have hcz59_1 : w56.cell? ⟨gb217, 1, none⟩ = some (.int .i64 ((rd_T42 l0 x123_4).f1)) := (blk_cell BK217.out 1).trans rfl; have hcz59_2 : w56.cell? ⟨gb217, 2, none⟩ = some (.int .i64 ((rd_T42 l0 x123_4).f2)) := (blk_cell BK217.out 2).trans rfl; have hcz59_3 : w56.cell? ⟨gb217, 3, none⟩ = some (.int .i64 ((rd_T42 l0 x123_4).f3)) := (blk_cell BK217.out 3).trans rfl; have hcz59_4 : w56.cell? ⟨gb217, 4, none⟩ = some (.int .i64 ((rd_T42 l0 x123_4).f4)) := (blk_cell BK217.out 4).trans rfl; have hcz59_5 : w56.cell? ⟨gb217, 5, none⟩ = some (.int .u64 ((rd_T42 l0 x123_4).f5)) := (blk_cell BK217.out 5).trans rfl; have hfz59_0 := blk_frozen BK217.out 0; have hfz59_1 := blk_frozen BK217.out 1; have hfz59_2 := blk_frozen BK217.out 2; have hfz59_3 := blk_frozen BK217.out 3; have hfz59_4 := blk_frozen BK217.out 4; have hfz59_5 := blk_frozen BK217.out 5))
                                            go_roundg k5
                                            case measure => have := HJ4.out; have := HK2.out; have := HK3.out; have := HK4.out; have := HK5.out; omega
                                            case rel => exact ⟨(wrap64 (x21_5 - ((rd_T44 t209 x131_5).f2))), (wrap64 (x131_5 + 1)), (by first | rfl | (simp; done) | (simp [*]; done)), (by first | rfl | (simp; done) | (simp [*]; done)), H', ⟨by have := HJ4.out; have := HK2.out; have := HK3.out; have := HK4.out; have := HK5.out; omega⟩, ⟨by (with_reducible repeat (first | apply Kd.R_alloc | apply Kd.R_drewN | apply Kd.R_drew)); exact Kd.R_mono (Kd.R_far (p := ⟨gb219, 12, none⟩) (Kd.R_far (p := ⟨gb219, 11, none⟩) (Kd.R_far (p := ⟨gb219, 10, none⟩) (Kd.R_far (p := ⟨gb219, 9, none⟩) (Kd.R_far (p := ⟨gb219, 8, none⟩) (Kd.R_far (p := ⟨gb219, 7, none⟩) (Kd.R_far (p := ⟨gb219, 6, none⟩) (Kd.R_far (p := ⟨gb219, 5, none⟩) (Kd.R_far (p := ⟨gb219, 4, none⟩) (Kd.R_far (p := ⟨gb219, 3, none⟩) (Kd.R_far (p := ⟨gb219, 2, none⟩) (Kd.R_far (p := ⟨gb219, 1, none⟩) (Kd.R_far (p := ⟨gb219, 0, none⟩) (Kd.R_mono HO_13.out (fun k_ hk => (⟨hk, hk.2⟩ : _ ∧ k_ ≠ gb219))) (fun _ hk => hk.2) (.int .u64 ((rd_T44 t209 x131_5).f0.f0))) (fun _ hk => hk.2) (.int .i64 ((rd_T44 t209 x131_5).f0.f1))) (fun _ hk => hk.2) (.int .i64 ((rd_T44 t209 x131_5).f0.f2))) (fun _ hk => hk.2) (.int .i64 ((rd_T44 t209 x131_5).f0.f3))) (fun _ hk => hk.2) (.int .i64 ((rd_T44 t209 x131_5).f0.f4))) (fun _ hk => hk.2) (.int .u64 ((rd_T44 t209 x131_5).f0.f5))) (fun _ hk => hk.2) (.int .u64 ((rd_T44 t209 x131_5).f1.f0))) (fun _ hk => hk.2) (.int .i64 ((rd_T44 t209 x131_5).f1.f1))) (fun _ hk => hk.2) (.int .i64 ((rd_T44 t209 x131_5).f1.f2))) (fun _ hk => hk.2) (.int .i64 ((rd_T44 t209 x131_5).f1.f3))) (fun _ hk => hk.2) (.int .i64 ((rd_T44 t209 x131_5).f1.f4))) (fun _ hk => hk.2) (.int .u64 ((rd_T44 t209 x131_5).f1.f5))) (fun _ hk => hk.2) (.int .i64 ((rd_T44 t209 x131_5).f2))) (fun _ hk => trivial)⟩, ⟨by (with_reducible repeat (first | apply Kd.R_alloc | apply Kd.R_drewN | apply Kd.R_drew)); exact Kd.R_mono (Kd.R_far (p := ⟨gb219, 12, none⟩) (Kd.R_far (p := ⟨gb219, 11, none⟩) (Kd.R_far (p := ⟨gb219, 10, none⟩) (Kd.R_far (p := ⟨gb219, 9, none⟩) (Kd.R_far (p := ⟨gb219, 8, none⟩) (Kd.R_far (p := ⟨gb219, 7, none⟩) (Kd.R_far (p := ⟨gb219, 6, none⟩) (Kd.R_far (p := ⟨gb219, 5, none⟩) (Kd.R_far (p := ⟨gb219, 4, none⟩) (Kd.R_far (p := ⟨gb219, 3, none⟩) (Kd.R_far (p := ⟨gb219, 2, none⟩) (Kd.R_far (p := ⟨gb219, 1, none⟩) (Kd.R_far (p := ⟨gb219, 0, none⟩) (Kd.R_mono HO_129.out (fun k_ hk => (⟨hk, hk.2⟩ : _ ∧ k_ ≠ gb219))) (fun _ hk => hk.2) (.int .u64 ((rd_T44 t209 x131_5).f0.f0))) (fun _ hk => hk.2) (.int .i64 ((rd_T44 t209 x131_5).f0.f1))) (fun _ hk => hk.2) (.int .i64 ((rd_T44 t209 x131_5).f0.f2))) (fun _ hk => hk.2) (.int .i64 ((rd_T44 t209 x131_5).f0.f3))) (fun _ hk => hk.2) (.int .i64 ((rd_T44 t209 x131_5).f0.f4))) (fun _ hk => hk.2) (.int .u64 ((rd_T44 t209 x131_5).f0.f5))) (fun _ hk => hk.2) (.int .u64 ((rd_T44 t209 x131_5).f1.f0))) (fun _ hk => hk.2) (.int .i64 ((rd_T44 t209 x131_5).f1.f1))) (fun _ hk => hk.2) (.int .i64 ((rd_T44 t209 x131_5).f1.f2))) (fun _ hk => hk.2) (.int .i64 ((rd_T44 t209 x131_5).f1.f3))) (fun _ hk => hk.2) (.int .i64 ((rd_T44 t209 x131_5).f1.f4))) (fun _ hk => hk.2) (.int .u64 ((rd_T44 t209 x131_5).f1.f5))) (fun _ hk => hk.2) (.int .i64 ((rd_T44 t209 x131_5).f2))) (fun _ hk => trivial)⟩, ⟨by (with_reducible repeat (first | refine blk_drewN ?_ _ | refine blk_drew ?_ | refine blk_alloc ?_ _)); refine blk_far ?_ NB217_219.out _; (with_reducible repeat (first | refine blk_drewN ?_ _ | refine blk_drew ?_ | refine blk_alloc ?_ _)); refine blk_far ?_ NB217_219.out _; (with_reducible repeat (first | refine blk_drewN ?_ _ | refine blk_drew ?_ | refine blk_alloc ?_ _)); refine blk_far ?_ NB217_219.out _; (with_reducible repeat (first | refine blk_drewN ?_ _ | refine blk_drew ?_ | refine blk_alloc ?_ _)); refine blk_far ?_ NB217_219.out _; (with_reducible repeat (first | refine blk_drewN ?_ _ | refine blk_drew ?_ | refine blk_alloc ?_ _)); refine blk_far ?_ NB217_219.out _; (with_reducible repeat (first | refine blk_drewN ?_ _ | refine blk_drew ?_ | refine blk_alloc ?_ _)); refine blk_far ?_ NB217_219.out _; (with_reducible repeat (first | refine blk_drewN ?_ _ | refine blk_drew ?_ | refine blk_alloc ?_ _)); refine blk_far ?_ NB217_219.out _; (with_reducible repeat (first | refine blk_drewN ?_ _ | refine blk_drew ?_ | refine blk_alloc ?_ _)); refine blk_far ?_ NB217_219.out _; (with_reducible repeat (first | refine blk_drewN ?_ _ | refine blk_drew ?_ | refine blk_alloc ?_ _)); refine blk_far ?_ NB217_219.out _; (with_reducible repeat (first | refine blk_drewN ?_ _ | refine blk_drew ?_ | refine blk_alloc ?_ _)); refine blk_far ?_ NB217_219.out _; (with_reducible repeat (first | refine blk_drewN ?_ _ | refine blk_drew ?_ | refine blk_alloc ?_ _)); refine blk_far ?_ NB217_219.out _; (with_reducible repeat (first | refine blk_drewN ?_ _ | refine blk_drew ?_ | refine blk_alloc ?_ _)); refine blk_far ?_ NB217_219.out _; (with_reducible repeat (first | refine blk_drewN ?_ _ | refine blk_drew ?_ | refine blk_alloc ?_ _)); refine blk_far ?_ NB217_219.out _; (with_reducible repeat (first | refine blk_drewN ?_ _ | refine blk_drew ?_ | refine blk_alloc ?_ _)); exact BK217.out⟩, ⟨by repeat (first | (with_reducible first | exact HB.out | apply below_alloc | apply pw_below_drewN | apply below_drew1 | refine below_set ?_ GE217.out | refine below_set ?_ GE219.out) | exact HB.out)⟩⟩
                                          · rw [if_neg c55] at H
                                            have c55b0 : (((rd_T44 t209 x131_5).f0.f0) == ((rd_T42 l0 x123_4).f0) && (((rd_T44 t209 x131_5).f0.f1) == ((rd_T42 l0 x123_4).f1) && (((rd_T44 t209 x131_5).f0.f2) == ((rd_T42 l0 x123_4).f2) && (((rd_T44 t209 x131_5).f0.f3) == ((rd_T42 l0 x123_4).f3) && (((rd_T44 t209 x131_5).f0.f4) == ((rd_T42 l0 x123_4).f4) && (((rd_T44 t209 x131_5).f0.f5) == ((rd_T42 l0 x123_4).f5))))))) = false := by simpa using c55
                                            (try (have c55b1 : decide (((rd_T44 t209 x131_5).f0.f0) = ((rd_T42 l0 x123_4).f0) && (((rd_T44 t209 x131_5).f0.f1) == ((rd_T42 l0 x123_4).f1) && (((rd_T44 t209 x131_5).f0.f2) == ((rd_T42 l0 x123_4).f2) && (((rd_T44 t209 x131_5).f0.f3) == ((rd_T42 l0 x123_4).f3) && (((rd_T44 t209 x131_5).f0.f4) == ((rd_T42 l0 x123_4).f4) && (((rd_T44 t209 x131_5).f0.f5) == ((rd_T42 l0 x123_4).f5))))))) = false := by simpa using c55))
                                            (try (have c55b2 : (((rd_T44 t209 x131_5).f0.f0) == ((rd_T42 l0 x123_4).f0) && (((rd_T44 t209 x131_5).f0.f1) == ((rd_T42 l0 x123_4).f1) && (((rd_T44 t209 x131_5).f0.f2) == ((rd_T42 l0 x123_4).f2) && (((rd_T44 t209 x131_5).f0.f3) == ((rd_T42 l0 x123_4).f3) && (((rd_T44 t209 x131_5).f0.f4) == ((rd_T42 l0 x123_4).f4) && (((rd_T44 t209 x131_5).f0.f5) == ((rd_T42 l0 x123_4).f5))))))) = false := by simpa using c55))
                                            (try (have c55b3 : ¬ (((rd_T44 t209 x131_5).f0.f0) = ((rd_T42 l0 x123_4).f0) && (((rd_T44 t209 x131_5).f0.f1) == ((rd_T42 l0 x123_4).f1) && (((rd_T44 t209 x131_5).f0.f2) == ((rd_T42 l0 x123_4).f2) && (((rd_T44 t209 x131_5).f0.f3) == ((rd_T42 l0 x123_4).f3) && (((rd_T44 t209 x131_5).f0.f4) == ((rd_T42 l0 x123_4).f4) && (((rd_T44 t209 x131_5).f0.f5) == ((rd_T42 l0 x123_4).f5))))))) := by simpa using c55))
                                            clear c55
                                            by_cases c60 : (((rd_T44 t209 x131_5).f1.f0) == ((rd_T42 l0 x123_4).f0) && (((rd_T44 t209 x131_5).f1.f1) == ((rd_T42 l0 x123_4).f1) && (((rd_T44 t209 x131_5).f1.f2) == ((rd_T42 l0 x123_4).f2) && (((rd_T44 t209 x131_5).f1.f3) == ((rd_T42 l0 x123_4).f3) && (((rd_T44 t209 x131_5).f1.f4) == ((rd_T42 l0 x123_4).f4) && (((rd_T44 t209 x131_5).f1.f5) == ((rd_T42 l0 x123_4).f5))))))) = true
                                            · rw [if_pos c60] at H
                                              have c60b0 : (((rd_T44 t209 x131_5).f1.f0) == ((rd_T42 l0 x123_4).f0) && (((rd_T44 t209 x131_5).f1.f1) == ((rd_T42 l0 x123_4).f1) && (((rd_T44 t209 x131_5).f1.f2) == ((rd_T42 l0 x123_4).f2) && (((rd_T44 t209 x131_5).f1.f3) == ((rd_T42 l0 x123_4).f3) && (((rd_T44 t209 x131_5).f1.f4) == ((rd_T42 l0 x123_4).f4) && (((rd_T44 t209 x131_5).f1.f5) == ((rd_T42 l0 x123_4).f5))))))) = true := c60
                                              (try (have c60b1 : decide (((rd_T44 t209 x131_5).f1.f0) = ((rd_T42 l0 x123_4).f0) && (((rd_T44 t209 x131_5).f1.f1) == ((rd_T42 l0 x123_4).f1) && (((rd_T44 t209 x131_5).f1.f2) == ((rd_T42 l0 x123_4).f2) && (((rd_T44 t209 x131_5).f1.f3) == ((rd_T42 l0 x123_4).f3) && (((rd_T44 t209 x131_5).f1.f4) == ((rd_T42 l0 x123_4).f4) && (((rd_T44 t209 x131_5).f1.f5) == ((rd_T42 l0 x123_4).f5))))))) = true := by simpa using c60))
                                              (try (have c60b2 : (((rd_T44 t209 x131_5).f1.f0) == ((rd_T42 l0 x123_4).f0) && (((rd_T44 t209 x131_5).f1.f1) == ((rd_T42 l0 x123_4).f1) && (((rd_T44 t209 x131_5).f1.f2) == ((rd_T42 l0 x123_4).f2) && (((rd_T44 t209 x131_5).f1.f3) == ((rd_T42 l0 x123_4).f3) && (((rd_T44 t209 x131_5).f1.f4) == ((rd_T42 l0 x123_4).f4) && (((rd_T44 t209 x131_5).f1.f5) == ((rd_T42 l0 x123_4).f5))))))) = true := by simpa using c60))
                                              clear c60
                                              have H' := Aside0.mk H
                                              clear H
                                              have p218 : 0 ≤ (x131_5 : Int) := of_decide_eq_true (by first | (with_reducible assumption) | assumption)
                                              have q218 : x131_5 < (t209.length : Int) := of_decide_eq_true (by first | (with_reducible assumption) | assumption)
                                              obtain ⟨ad218, e218, hx218_0, hx218_1, hx218_2, hx218_3, hx218_4, hx218_5, hx218_6, hx218_7, hx218_8, hx218_9, hx218_10, hx218_11, hx218_12⟩ := at_T44 (Kd.R_reads' HO_129.out).2.2 x131_5 p218 q218
                                              cases e218
                                              replace p218 := eq_true p218
                                              replace q218 := eq_true q218
                                              go_wp2_with (first | ((with_reducible refine gate_dst (N := 23) rfl ?_); (try (refine gate_guard (by rfl) ?_; dsimp only)); refine box_event ?hg (N := 23) ?hd (cs := #[.int .u64 0, .int .i64 0, .int .i64 0, .int .i64 0, .int .i64 0, .int .u64 0, .int .u64 0, .int .i64 0, .int .i64 0, .int .i64 0, .int .i64 0, .int .u64 0, .int .i64 0]) (t := 44) ?hr ?_; (case hd => rfl); (case hg => rfl); (case hr => first | (go_simp; done) | (go_simp; rfl)); intro gb219 hg w61 hbox hb; have n0_ := Aside0.mk (Kd.R_below (Kd.R_elderB (by (with_reducible repeat (first | apply Kd.R_alloc | apply Kd.R_drewN | apply Kd.R_drew)); exact HO_13.out) gb219 (Nat.le_of_eq hg.symm)) hb); have n1_ := Aside0.mk (Kd.R_below (Kd.R_elderB (by (with_reducible repeat (first | apply Kd.R_alloc | apply Kd.R_drewN | apply Kd.R_drew)); exact HO_129.out) gb219 (Nat.le_of_eq hg.symm)) hb); have n2_ := Aside0.mk (blk_below (g := gb217) (o := .cells #[.int .u64 ((rd_T42 l0 x123_4).f0), .int .i64 ((rd_T42 l0 x123_4).f1), .int .i64 ((rd_T42 l0 x123_4).f2), .int .i64 ((rd_T42 l0 x123_4).f3), .int .i64 ((rd_T42 l0 x123_4).f4), .int .u64 ((rd_T42 l0 x123_4).f5)] 42 (0, 0)) (by (with_reducible repeat (first | refine blk_drewN ?_ _ | refine blk_drew ?_ | refine blk_alloc ?_ _)); exact BK217.out) hb); have n3_ := Aside0.mk (below_step (by repeat (first | (with_reducible first | exact HB.out | apply below_alloc | apply pw_below_drewN | apply below_drew1 | refine below_set ?_ GE217.out) | exact HB.out)) hb); have n4_ := Aside0.mk (hbox); have n5_ := Aside0.mk ((by rw [hg]; exact (below_size (by repeat (first | (with_reducible first | exact HB.out | apply below_alloc | apply pw_below_drewN | apply below_drew1 | refine below_set ?_ GE217.out) | exact HB.out))) : w.heap.size ≤ gb219)); have n6_ := Aside0.mk ((by rw [hg]; exact (below_size (by repeat (first | (with_reducible first | exact HB.out | apply below_alloc | apply pw_below_drewN | apply below_drew1 | refine below_set ?_ GE217.out) | exact HB.out))) : w.heap.size ≤ gb219)); have n7_ := Aside0.mk ((by rw [hg]; exact Nat.ne_of_lt (blk_lt (g := gb217) (o := .cells #[.int .u64 ((rd_T42 l0 x123_4).f0), .int .i64 ((rd_T42 l0 x123_4).f1), .int .i64 ((rd_T42 l0 x123_4).f2), .int .i64 ((rd_T42 l0 x123_4).f3), .int .i64 ((rd_T42 l0 x123_4).f4), .int .u64 ((rd_T42 l0 x123_4).f5)] 42 (0, 0)) (by (with_reducible repeat (first | refine blk_drewN ?_ _ | refine blk_drew ?_ | refine blk_alloc ?_ _)); exact BK217.out)) : gb217 ≠ gb219)); have n8_ := Aside0.mk ((by rw [hg]; exact Nat.ne_of_gt (blk_lt (g := gb217) (o := .cells #[.int .u64 ((rd_T42 l0 x123_4).f0), .int .i64 ((rd_T42 l0 x123_4).f1), .int .i64 ((rd_T42 l0 x123_4).f2), .int .i64 ((rd_T42 l0 x123_4).f3), .int .i64 ((rd_T42 l0 x123_4).f4), .int .u64 ((rd_T42 l0 x123_4).f5)] 42 (0, 0)) (by (with_reducible repeat (first | refine blk_drewN ?_ _ | refine blk_drew ?_ | refine blk_alloc ?_ _)); exact BK217.out)) : gb219 ≠ gb217)); clear HO_13; clear HO_129; clear BK217; clear HB; have HO_13 := n0_; have HO_129 := n1_; have BK217 := n2_; have HB := n3_; have BK219 := n4_; have GW219 := n5_; have GE219 := n6_; have NB217_219 := n7_; have NB219_217 := n8_; clear n0_ n1_ n2_ n3_ n4_ n5_ n6_ n7_ n8_; clear hb hbox hg; have hnb62 := NB219_217.out; have hnc62 := NB217_219.out; have hcz63_0 : w61.cell? ⟨gb219, 0, none⟩ = some (.int .u64 0) := (blk_cell BK219.out 0).trans rfl; have hcz63_1 : w61.cell? ⟨gb219, 1, none⟩ = some (.int .i64 0) := (blk_cell BK219.out 1).trans rfl; have hcz63_2 : w61.cell? ⟨gb219, 2, none⟩ = some (.int .i64 0) := (blk_cell BK219.out 2).trans rfl; have hcz63_3 : w61.cell? ⟨gb219, 3, none⟩ = some (.int .i64 0) := (blk_cell BK219.out 3).trans rfl; have hcz63_4 : w61.cell? ⟨gb219, 4, none⟩ = some (.int .i64 0) := (blk_cell BK219.out 4).trans rfl; have hcz63_5 : w61.cell? ⟨gb219, 5, none⟩ = some (.int .u64 0) := (blk_cell BK219.out 5).trans rfl; have hcz63_6 : w61.cell? ⟨gb219, 6, none⟩ = some (.int .u64 0) := (blk_cell BK219.out 6).trans rfl; have hcz63_7 : w61.cell? ⟨gb219, 7, none⟩ = some (.int .i64 0) := (blk_cell BK219.out 7).trans rfl; have hcz63_8 : w61.cell? ⟨gb219, 8, none⟩ = some (.int .i64 0) := (blk_cell BK219.out 8).trans rfl; have hcz63_9 : w61.cell? ⟨gb219, 9, none⟩ = some (.int .i64 0) := (blk_cell BK219.out 9).trans rfl; have hcz63_10 : w61.cell? ⟨gb219, 10, none⟩ = some (.int .i64 0) := (blk_cell BK219.out 10).trans rfl; have hcz63_11 : w61.cell? ⟨gb219, 11, none⟩ = some (.int .u64 0) := (blk_cell BK219.out 11).trans rfl; have hcz63_12 : w61.cell? ⟨gb219, 12, none⟩ = some (.int .i64 0) := (blk_cell BK219.out 12).trans rfl; have hfz63_0 := blk_frozen BK219.out 0; have hfz63_1 := blk_frozen BK219.out 1; have hfz63_2 := blk_frozen BK219.out 2; have hfz63_3 := blk_frozen BK219.out 3; have hfz63_4 := blk_frozen BK219.out 4; have hfz63_5 := blk_frozen BK219.out 5; have hfz63_6 := blk_frozen BK219.out 6; have hfz63_7 := blk_frozen BK219.out 7; have hfz63_8 := blk_frozen BK219.out 8; have hfz63_9 := blk_frozen BK219.out 9; have hfz63_10 := blk_frozen BK219.out 10; have hfz63_11 := blk_frozen BK219.out 11; have hfz63_12 := blk_frozen BK219.out 12; have hcz64_0 : w61.cell? ⟨gb217, 0, none⟩ = some (.int .u64 ((rd_T42 l0 x123_4).f0)) := (blk_cell BK217.out 0).trans rfl; have hcz64_1 : w61.cell? ⟨gb217, 1, none⟩ = some (.int .i64 ((rd_T42 l0 x123_4).f1)) := (blk_cell BK217.out 1).trans rfl; have hcz64_2 : w61.cell? ⟨gb217, 2, none⟩ = some (.int .i64 ((rd_T42 l0 x123_4).f2)) := (blk_cell BK217.out 2).trans rfl; have hcz64_3 : w61.cell? ⟨gb217, 3, none⟩ = some (.int .i64 ((rd_T42 l0 x123_4).f3)) := (blk_cell BK217.out 3).trans rfl; have hcz64_4 : w61.cell? ⟨gb217, 4, none⟩ = some (.int .i64 ((rd_T42 l0 x123_4).f4)) := (blk_cell BK217.out 4).trans rfl; have hcz64_5 : w61.cell? ⟨gb217, 5, none⟩ = some (.int .u64 ((rd_T42 l0 x123_4).f5)) := (blk_cell BK217.out 5).trans rfl; have hfz64_0 := blk_frozen BK217.out 0; have hfz64_1 := blk_frozen BK217.out 1; have hfz64_2 := blk_frozen BK217.out 2; have hfz64_3 := blk_frozen BK217.out 3; have hfz64_4 := blk_frozen BK217.out 4; have hfz64_5 := blk_frozen BK217.out 5))
                                              go_roundg k5
                                              case measure => have := HJ4.out; have := HK2.out; have := HK3.out; have := HK4.out; have := HK5.out; omega
                                              case rel => exact ⟨(wrap64 (x21_5 - ((rd_T44 t209 x131_5).f2))), (wrap64 (x131_5 + 1)), (by first | rfl | (simp; done) | (simp [*]; done)), (by first | rfl | (simp; done) | (simp [*]; done)), H', ⟨by have := HJ4.out; have := HK2.out; have := HK3.out; have := HK4.out; have := HK5.out; omega⟩, ⟨by (with_reducible repeat (first | apply Kd.R_alloc | apply Kd.R_drewN | apply Kd.R_drew)); exact Kd.R_mono (Kd.R_far (p := ⟨gb219, 12, none⟩) (Kd.R_far (p := ⟨gb219, 11, none⟩) (Kd.R_far (p := ⟨gb219, 10, none⟩) (Kd.R_far (p := ⟨gb219, 9, none⟩) (Kd.R_far (p := ⟨gb219, 8, none⟩) (Kd.R_far (p := ⟨gb219, 7, none⟩) (Kd.R_far (p := ⟨gb219, 6, none⟩) (Kd.R_far (p := ⟨gb219, 5, none⟩) (Kd.R_far (p := ⟨gb219, 4, none⟩) (Kd.R_far (p := ⟨gb219, 3, none⟩) (Kd.R_far (p := ⟨gb219, 2, none⟩) (Kd.R_far (p := ⟨gb219, 1, none⟩) (Kd.R_far (p := ⟨gb219, 0, none⟩) (Kd.R_mono HO_13.out (fun k_ hk => (⟨hk, hk.2⟩ : _ ∧ k_ ≠ gb219))) (fun _ hk => hk.2) (.int .u64 ((rd_T44 t209 x131_5).f0.f0))) (fun _ hk => hk.2) (.int .i64 ((rd_T44 t209 x131_5).f0.f1))) (fun _ hk => hk.2) (.int .i64 ((rd_T44 t209 x131_5).f0.f2))) (fun _ hk => hk.2) (.int .i64 ((rd_T44 t209 x131_5).f0.f3))) (fun _ hk => hk.2) (.int .i64 ((rd_T44 t209 x131_5).f0.f4))) (fun _ hk => hk.2) (.int .u64 ((rd_T44 t209 x131_5).f0.f5))) (fun _ hk => hk.2) (.int .u64 ((rd_T44 t209 x131_5).f1.f0))) (fun _ hk => hk.2) (.int .i64 ((rd_T44 t209 x131_5).f1.f1))) (fun _ hk => hk.2) (.int .i64 ((rd_T44 t209 x131_5).f1.f2))) (fun _ hk => hk.2) (.int .i64 ((rd_T44 t209 x131_5).f1.f3))) (fun _ hk => hk.2) (.int .i64 ((rd_T44 t209 x131_5).f1.f4))) (fun _ hk => hk.2) (.int .u64 ((rd_T44 t209 x131_5).f1.f5))) (fun _ hk => hk.2) (.int .i64 ((rd_T44 t209 x131_5).f2))) (fun _ hk => trivial)⟩, ⟨by (with_reducible repeat (first | apply Kd.R_alloc | apply Kd.R_drewN | apply Kd.R_drew)); exact Kd.R_mono (Kd.R_far (p := ⟨gb219, 12, none⟩) (Kd.R_far (p := ⟨gb219, 11, none⟩) (Kd.R_far (p := ⟨gb219, 10, none⟩) (Kd.R_far (p := ⟨gb219, 9, none⟩) (Kd.R_far (p := ⟨gb219, 8, none⟩) (Kd.R_far (p := ⟨gb219, 7, none⟩) (Kd.R_far (p := ⟨gb219, 6, none⟩) (Kd.R_far (p := ⟨gb219, 5, none⟩) (Kd.R_far (p := ⟨gb219, 4, none⟩) (Kd.R_far (p := ⟨gb219, 3, none⟩) (Kd.R_far (p := ⟨gb219, 2, none⟩) (Kd.R_far (p := ⟨gb219, 1, none⟩) (Kd.R_far (p := ⟨gb219, 0, none⟩) (Kd.R_mono HO_129.out (fun k_ hk => (⟨hk, hk.2⟩ : _ ∧ k_ ≠ gb219))) (fun _ hk => hk.2) (.int .u64 ((rd_T44 t209 x131_5).f0.f0))) (fun _ hk => hk.2) (.int .i64 ((rd_T44 t209 x131_5).f0.f1))) (fun _ hk => hk.2) (.int .i64 ((rd_T44 t209 x131_5).f0.f2))) (fun _ hk => hk.2) (.int .i64 ((rd_T44 t209 x131_5).f0.f3))) (fun _ hk => hk.2) (.int .i64 ((rd_T44 t209 x131_5).f0.f4))) (fun _ hk => hk.2) (.int .u64 ((rd_T44 t209 x131_5).f0.f5))) (fun _ hk => hk.2) (.int .u64 ((rd_T44 t209 x131_5).f1.f0))) (fun _ hk => hk.2) (.int .i64 ((rd_T44 t209 x131_5).f1.f1))) (fun _ hk => hk.2) (.int .i64 ((rd_T44 t209 x131_5).f1.f2))) (fun _ hk => hk.2) (.int .i64 ((rd_T44 t209 x131_5).f1.f3))) (fun _ hk => hk.2) (.int .i64 ((rd_T44 t209 x131_5).f1.f4))) (fun _ hk => hk.2) (.int .u64 ((rd_T44 t209 x131_5).f1.f5))) (fun _ hk => hk.2) (.int .i64 ((rd_T44 t209 x131_5).f2))) (fun _ hk => trivial)⟩, ⟨by (with_reducible repeat (first | refine blk_drewN ?_ _ | refine blk_drew ?_ | refine blk_alloc ?_ _)); refine blk_far ?_ NB217_219.out _; (with_reducible repeat (first | refine blk_drewN ?_ _ | refine blk_drew ?_ | refine blk_alloc ?_ _)); refine blk_far ?_ NB217_219.out _; (with_reducible repeat (first | refine blk_drewN ?_ _ | refine blk_drew ?_ | refine blk_alloc ?_ _)); refine blk_far ?_ NB217_219.out _; (with_reducible repeat (first | refine blk_drewN ?_ _ | refine blk_drew ?_ | refine blk_alloc ?_ _)); refine blk_far ?_ NB217_219.out _; (with_reducible repeat (first | refine blk_drewN ?_ _ | refine blk_drew ?_ | refine blk_alloc ?_ _)); refine blk_far ?_ NB217_219.out _; (with_reducible repeat (first | refine blk_drewN ?_ _ | refine blk_drew ?_ | refine blk_alloc ?_ _)); refine blk_far ?_ NB217_219.out _; (with_reducible repeat (first | refine blk_drewN ?_ _ | refine blk_drew ?_ | refine blk_alloc ?_ _)); refine blk_far ?_ NB217_219.out _; (with_reducible repeat (first | refine blk_drewN ?_ _ | refine blk_drew ?_ | refine blk_alloc ?_ _)); refine blk_far ?_ NB217_219.out _; (with_reducible repeat (first | refine blk_drewN ?_ _ | refine blk_drew ?_ | refine blk_alloc ?_ _)); refine blk_far ?_ NB217_219.out _; (with_reducible repeat (first | refine blk_drewN ?_ _ | refine blk_drew ?_ | refine blk_alloc ?_ _)); refine blk_far ?_ NB217_219.out _; (with_reducible repeat (first | refine blk_drewN ?_ _ | refine blk_drew ?_ | refine blk_alloc ?_ _)); refine blk_far ?_ NB217_219.out _; (with_reducible repeat (first | refine blk_drewN ?_ _ | refine blk_drew ?_ | refine blk_alloc ?_ _)); refine blk_far ?_ NB217_219.out _; (with_reducible repeat (first | refine blk_drewN ?_ _ | refine blk_drew ?_ | refine blk_alloc ?_ _)); refine blk_far ?_ NB217_219.out _; (with_reducible repeat (first | refine blk_drewN ?_ _ | refine blk_drew ?_ | refine blk_alloc ?_ _)); exact BK217.out⟩, ⟨by repeat (first | (with_reducible first | exact HB.out | apply below_alloc | apply pw_below_drewN | apply below_drew1 | refine below_set ?_ GE217.out | refine below_set ?_ GE219.out) | exact HB.out)⟩⟩
                                            · rw [if_neg c60] at H
                                              have c60b0 : (((rd_T44 t209 x131_5).f1.f0) == ((rd_T42 l0 x123_4).f0) && (((rd_T44 t209 x131_5).f1.f1) == ((rd_T42 l0 x123_4).f1) && (((rd_T44 t209 x131_5).f1.f2) == ((rd_T42 l0 x123_4).f2) && (((rd_T44 t209 x131_5).f1.f3) == ((rd_T42 l0 x123_4).f3) && (((rd_T44 t209 x131_5).f1.f4) == ((rd_T42 l0 x123_4).f4) && (((rd_T44 t209 x131_5).f1.f5) == ((rd_T42 l0 x123_4).f5))))))) = false := by simpa using c60
                                              (try (have c60b1 : decide (((rd_T44 t209 x131_5).f1.f0) = ((rd_T42 l0 x123_4).f0) && (((rd_T44 t209 x131_5).f1.f1) == ((rd_T42 l0 x123_4).f1) && (((rd_T44 t209 x131_5).f1.f2) == ((rd_T42 l0 x123_4).f2) && (((rd_T44 t209 x131_5).f1.f3) == ((rd_T42 l0 x123_4).f3) && (((rd_T44 t209 x131_5).f1.f4) == ((rd_T42 l0 x123_4).f4) && (((rd_T44 t209 x131_5).f1.f5) == ((rd_T42 l0 x123_4).f5))))))) = false := by simpa using c60))
                                              (try (have c60b2 : (((rd_T44 t209 x131_5).f1.f0) == ((rd_T42 l0 x123_4).f0) && (((rd_T44 t209 x131_5).f1.f1) == ((rd_T42 l0 x123_4).f1) && (((rd_T44 t209 x131_5).f1.f2) == ((rd_T42 l0 x123_4).f2) && (((rd_T44 t209 x131_5).f1.f3) == ((rd_T42 l0 x123_4).f3) && (((rd_T44 t209 x131_5).f1.f4) == ((rd_T42 l0 x123_4).f4) && (((rd_T44 t209 x131_5).f1.f5) == ((rd_T42 l0 x123_4).f5))))))) = false := by simpa using c60))
                                              (try (have c60b3 : ¬ (((rd_T44 t209 x131_5).f1.f0) = ((rd_T42 l0 x123_4).f0) && (((rd_T44 t209 x131_5).f1.f1) == ((rd_T42 l0 x123_4).f1) && (((rd_T44 t209 x131_5).f1.f2) == ((rd_T42 l0 x123_4).f2) && (((rd_T44 t209 x131_5).f1.f3) == ((rd_T42 l0 x123_4).f3) && (((rd_T44 t209 x131_5).f1.f4) == ((rd_T42 l0 x123_4).f4) && (((rd_T44 t209 x131_5).f1.f5) == ((rd_T42 l0 x123_4).f5))))))) := by simpa using c60))
                                              clear c60
                                              have H' := Aside0.mk H
                                              clear H
                                              have p218 : 0 ≤ (x131_5 : Int) := of_decide_eq_true (by first | (with_reducible assumption) | assumption)
                                              have q218 : x131_5 < (t209.length : Int) := of_decide_eq_true (by first | (with_reducible assumption) | assumption)
                                              obtain ⟨ad218, e218, hx218_0, hx218_1, hx218_2, hx218_3, hx218_4, hx218_5, hx218_6, hx218_7, hx218_8, hx218_9, hx218_10, hx218_11, hx218_12⟩ := at_T44 (Kd.R_reads' HO_129.out).2.2 x131_5 p218 q218
                                              cases e218
                                              replace p218 := eq_true p218
                                              replace q218 := eq_true q218
                                              go_wp2_with (first | ((with_reducible refine gate_dst (N := 23) rfl ?_); (try (refine gate_guard (by rfl) ?_; dsimp only)); refine box_event ?hg (N := 23) ?hd (cs := #[.int .u64 0, .int .i64 0, .int .i64 0, .int .i64 0, .int .i64 0, .int .u64 0, .int .u64 0, .int .i64 0, .int .i64 0, .int .i64 0, .int .i64 0, .int .u64 0, .int .i64 0]) (t := 44) ?hr ?_; (case hd => rfl); (case hg => rfl); (case hr => first | (go_simp; done) | (go_simp; rfl)); intro gb219 hg w65 hbox hb; have n0_ := Aside0.mk (Kd.R_below (Kd.R_elderB (by (with_reducible repeat (first | apply Kd.R_alloc | apply Kd.R_drewN | apply Kd.R_drew)); exact HO_13.out) gb219 (Nat.le_of_eq hg.symm)) hb); have n1_ := Aside0.mk (Kd.R_below (Kd.R_elderB (by (with_reducible repeat (first | apply Kd.R_alloc | apply Kd.R_drewN | apply Kd.R_drew)); exact HO_129.out) gb219 (Nat.le_of_eq hg.symm)) hb); have n2_ := Aside0.mk (blk_below (g := gb217) (o := .cells #[.int .u64 ((rd_T42 l0 x123_4).f0), .int .i64 ((rd_T42 l0 x123_4).f1), .int .i64 ((rd_T42 l0 x123_4).f2), .int .i64 ((rd_T42 l0 x123_4).f3), .int .i64 ((rd_T42 l0 x123_4).f4), .int .u64 ((rd_T42 l0 x123_4).f5)] 42 (0, 0)) (by (with_reducible repeat (first | refine blk_drewN ?_ _ | refine blk_drew ?_ | refine blk_alloc ?_ _)); exact BK217.out) hb); have n3_ := Aside0.mk (below_step (by repeat (first | (with_reducible first | exact HB.out | apply below_alloc | apply pw_below_drewN | apply below_drew1 | refine below_set ?_ GE217.out) | exact HB.out)) hb); have n4_ := Aside0.mk (hbox); have n5_ := Aside0.mk ((by rw [hg]; exact (below_size (by repeat (first | (with_reducible first | exact HB.out | apply below_alloc | apply pw_below_drewN | apply below_drew1 | refine below_set ?_ GE217.out) | exact HB.out))) : w.heap.size ≤ gb219)); have n6_ := Aside0.mk ((by rw [hg]; exact (below_size (by repeat (first | (with_reducible first | exact HB.out | apply below_alloc | apply pw_below_drewN | apply below_drew1 | refine below_set ?_ GE217.out) | exact HB.out))) : w.heap.size ≤ gb219)); have n7_ := Aside0.mk ((by rw [hg]; exact Nat.ne_of_lt (blk_lt (g := gb217) (o := .cells #[.int .u64 ((rd_T42 l0 x123_4).f0), .int .i64 ((rd_T42 l0 x123_4).f1), .int .i64 ((rd_T42 l0 x123_4).f2), .int .i64 ((rd_T42 l0 x123_4).f3), .int .i64 ((rd_T42 l0 x123_4).f4), .int .u64 ((rd_T42 l0 x123_4).f5)] 42 (0, 0)) (by (with_reducible repeat (first | refine blk_drewN ?_ _ | refine blk_drew ?_ | refine blk_alloc ?_ _)); exact BK217.out)) : gb217 ≠ gb219)); have n8_ := Aside0.mk ((by rw [hg]; exact Nat.ne_of_gt (blk_lt (g := gb217) (o := .cells #[.int .u64 ((rd_T42 l0 x123_4).f0), .int .i64 ((rd_T42 l0 x123_4).f1), .int .i64 ((rd_T42 l0 x123_4).f2), .int .i64 ((rd_T42 l0 x123_4).f3), .int .i64 ((rd_T42 l0 x123_4).f4), .int .u64 ((rd_T42 l0 x123_4).f5)] 42 (0, 0)) (by (with_reducible repeat (first | refine blk_drewN ?_ _ | refine blk_drew ?_ | refine blk_alloc ?_ _)); exact BK217.out)) : gb219 ≠ gb217)); clear HO_13; clear HO_129; clear BK217; clear HB; have HO_13 := n0_; have HO_129 := n1_; have BK217 := n2_; have HB := n3_; have BK219 := n4_; have GW219 := n5_; have GE219 := n6_; have NB217_219 := n7_; have NB219_217 := n8_; clear n0_ n1_ n2_ n3_ n4_ n5_ n6_ n7_ n8_; clear hb hbox hg; have hnb66 := NB219_217.out; have hnc66 := NB217_219.out; have hcz67_0 : w65.cell? ⟨gb219, 0, none⟩ = some (.int .u64 0) := (blk_cell BK219.out 0).trans rfl; have hcz67_1 : w65.cell? ⟨gb219, 1, none⟩ = some (.int .i64 0) := (blk_cell BK219.out 1).trans rfl; have hcz67_2 : w65.cell? ⟨gb219, 2, none⟩ = some (.int .i64 0) := (blk_cell BK219.out 2).trans rfl; have hcz67_3 : w65.cell? ⟨gb219, 3, none⟩ = some (.int .i64 0) := (blk_cell BK219.out 3).trans rfl; have hcz67_4 : w65.cell? ⟨gb219, 4, none⟩ = some (.int .i64 0) := (blk_cell BK219.out 4).trans rfl; have hcz67_5 : w65.cell? ⟨gb219, 5, none⟩ = some (.int .u64 0) := (blk_cell BK219.out 5).trans rfl; have hcz67_6 : w65.cell? ⟨gb219, 6, none⟩ = some (.int .u64 0) := (blk_cell BK219.out 6).trans rfl; have hcz67_7 : w65.cell? ⟨gb219, 7, none⟩ = some (.int .i64 0) := (blk_cell BK219.out 7).trans rfl; have hcz67_8 : w65.cell? ⟨gb219, 8, none⟩ = some (.int .i64 0) := (blk_cell BK219.out 8).trans rfl; have hcz67_9 : w65.cell? ⟨gb219, 9, none⟩ = some (.int .i64 0) := (blk_cell BK219.out 9).trans rfl; have hcz67_10 : w65.cell? ⟨gb219, 10, none⟩ = some (.int .i64 0) := (blk_cell BK219.out 10).trans rfl; have hcz67_11 : w65.cell? ⟨gb219, 11, none⟩ = some (.int .u64 0) := (blk_cell BK219.out 11).trans rfl; have hcz67_12 : w65.cell? ⟨gb219, 12, none⟩ = some (.int .i64 0) := (blk_cell BK219.out 12).trans rfl; have hfz67_0 := blk_frozen BK219.out 0; have hfz67_1 := blk_frozen BK219.out 1; have hfz67_2 := blk_frozen BK219.out 2; have hfz67_3 := blk_frozen BK219.out 3; have hfz67_4 := blk_frozen BK219.out 4; have hfz67_5 := blk_frozen BK219.out 5; have hfz67_6 := blk_frozen BK219.out 6; have hfz67_7 := blk_frozen BK219.out 7; have hfz67_8 := blk_frozen BK219.out 8; have hfz67_9 := blk_frozen BK219.out 9; have hfz67_10 := blk_frozen BK219.out 10; have hfz67_11 := blk_frozen BK219.out 11; have hfz67_12 := blk_frozen BK219.out 12; have hcz68_0 : w65.cell? ⟨gb217, 0, none⟩ = some (.int .u64 ((rd_T42 l0 x123_4).f0)) := (blk_cell BK217.out 0).trans rfl; have hcz68_1 : w65.cell? ⟨gb217, 1, none⟩ = some (.int .i64 ((rd_T42 l0 x123_4).f1)) := (blk_cell BK217.out 1).trans rfl; have hcz68_2 : w65.cell? ⟨gb217, 2, none⟩ = some (.int .i64 ((rd_T42 l0 x123_4).f2)) := (blk_cell BK217.out 2).trans rfl; have hcz68_3 : w65.cell? ⟨gb217, 3, none⟩ = some (.int .i64 ((rd_T42 l0 x123_4).f3)) := (blk_cell BK217.out 3).trans rfl; have hcz68_4 : w65.cell? ⟨gb217, 4, none⟩ = some (.int .i64 ((rd_T42 l0 x123_4).f4)) := (blk_cell BK217.out 4).trans rfl; have hcz68_5 : w65.cell? ⟨gb217, 5, none⟩ = some (.int .u64 ((rd_T42 l0 x123_4).f5)) := (blk_cell BK217.out 5).trans rfl; have hfz68_0 := blk_frozen BK217.out 0; have hfz68_1 := blk_frozen BK217.out 1; have hfz68_2 := blk_frozen BK217.out 2; have hfz68_3 := blk_frozen BK217.out 3; have hfz68_4 := blk_frozen BK217.out 4; have hfz68_5 := blk_frozen BK217.out 5))
                                              go_roundg k5
                                              case measure => have := HJ4.out; have := HK2.out; have := HK3.out; have := HK4.out; have := HK5.out; omega
                                              case rel => exact ⟨(x21_5), (wrap64 (x131_5 + 1)), (by first | rfl | (simp; done) | (simp [*]; done)), (by first | rfl | (simp; done) | (simp [*]; done)), H', ⟨by have := HJ4.out; have := HK2.out; have := HK3.out; have := HK4.out; have := HK5.out; omega⟩, ⟨by (with_reducible repeat (first | apply Kd.R_alloc | apply Kd.R_drewN | apply Kd.R_drew)); exact Kd.R_mono (Kd.R_far (p := ⟨gb219, 12, none⟩) (Kd.R_far (p := ⟨gb219, 11, none⟩) (Kd.R_far (p := ⟨gb219, 10, none⟩) (Kd.R_far (p := ⟨gb219, 9, none⟩) (Kd.R_far (p := ⟨gb219, 8, none⟩) (Kd.R_far (p := ⟨gb219, 7, none⟩) (Kd.R_far (p := ⟨gb219, 6, none⟩) (Kd.R_far (p := ⟨gb219, 5, none⟩) (Kd.R_far (p := ⟨gb219, 4, none⟩) (Kd.R_far (p := ⟨gb219, 3, none⟩) (Kd.R_far (p := ⟨gb219, 2, none⟩) (Kd.R_far (p := ⟨gb219, 1, none⟩) (Kd.R_far (p := ⟨gb219, 0, none⟩) (Kd.R_mono HO_13.out (fun k_ hk => (⟨hk, hk.2⟩ : _ ∧ k_ ≠ gb219))) (fun _ hk => hk.2) (.int .u64 ((rd_T44 t209 x131_5).f0.f0))) (fun _ hk => hk.2) (.int .i64 ((rd_T44 t209 x131_5).f0.f1))) (fun _ hk => hk.2) (.int .i64 ((rd_T44 t209 x131_5).f0.f2))) (fun _ hk => hk.2) (.int .i64 ((rd_T44 t209 x131_5).f0.f3))) (fun _ hk => hk.2) (.int .i64 ((rd_T44 t209 x131_5).f0.f4))) (fun _ hk => hk.2) (.int .u64 ((rd_T44 t209 x131_5).f0.f5))) (fun _ hk => hk.2) (.int .u64 ((rd_T44 t209 x131_5).f1.f0))) (fun _ hk => hk.2) (.int .i64 ((rd_T44 t209 x131_5).f1.f1))) (fun _ hk => hk.2) (.int .i64 ((rd_T44 t209 x131_5).f1.f2))) (fun _ hk => hk.2) (.int .i64 ((rd_T44 t209 x131_5).f1.f3))) (fun _ hk => hk.2) (.int .i64 ((rd_T44 t209 x131_5).f1.f4))) (fun _ hk => hk.2) (.int .u64 ((rd_T44 t209 x131_5).f1.f5))) (fun _ hk => hk.2) (.int .i64 ((rd_T44 t209 x131_5).f2))) (fun _ hk => trivial)⟩, ⟨by (with_reducible repeat (first | apply Kd.R_alloc | apply Kd.R_drewN | apply Kd.R_drew)); exact Kd.R_mono (Kd.R_far (p := ⟨gb219, 12, none⟩) (Kd.R_far (p := ⟨gb219, 11, none⟩) (Kd.R_far (p := ⟨gb219, 10, none⟩) (Kd.R_far (p := ⟨gb219, 9, none⟩) (Kd.R_far (p := ⟨gb219, 8, none⟩) (Kd.R_far (p := ⟨gb219, 7, none⟩) (Kd.R_far (p := ⟨gb219, 6, none⟩) (Kd.R_far (p := ⟨gb219, 5, none⟩) (Kd.R_far (p := ⟨gb219, 4, none⟩) (Kd.R_far (p := ⟨gb219, 3, none⟩) (Kd.R_far (p := ⟨gb219, 2, none⟩) (Kd.R_far (p := ⟨gb219, 1, none⟩) (Kd.R_far (p := ⟨gb219, 0, none⟩) (Kd.R_mono HO_129.out (fun k_ hk => (⟨hk, hk.2⟩ : _ ∧ k_ ≠ gb219))) (fun _ hk => hk.2) (.int .u64 ((rd_T44 t209 x131_5).f0.f0))) (fun _ hk => hk.2) (.int .i64 ((rd_T44 t209 x131_5).f0.f1))) (fun _ hk => hk.2) (.int .i64 ((rd_T44 t209 x131_5).f0.f2))) (fun _ hk => hk.2) (.int .i64 ((rd_T44 t209 x131_5).f0.f3))) (fun _ hk => hk.2) (.int .i64 ((rd_T44 t209 x131_5).f0.f4))) (fun _ hk => hk.2) (.int .u64 ((rd_T44 t209 x131_5).f0.f5))) (fun _ hk => hk.2) (.int .u64 ((rd_T44 t209 x131_5).f1.f0))) (fun _ hk => hk.2) (.int .i64 ((rd_T44 t209 x131_5).f1.f1))) (fun _ hk => hk.2) (.int .i64 ((rd_T44 t209 x131_5).f1.f2))) (fun _ hk => hk.2) (.int .i64 ((rd_T44 t209 x131_5).f1.f3))) (fun _ hk => hk.2) (.int .i64 ((rd_T44 t209 x131_5).f1.f4))) (fun _ hk => hk.2) (.int .u64 ((rd_T44 t209 x131_5).f1.f5))) (fun _ hk => hk.2) (.int .i64 ((rd_T44 t209 x131_5).f2))) (fun _ hk => trivial)⟩, ⟨by (with_reducible repeat (first | refine blk_drewN ?_ _ | refine blk_drew ?_ | refine blk_alloc ?_ _)); refine blk_far ?_ NB217_219.out _; (with_reducible repeat (first | refine blk_drewN ?_ _ | refine blk_drew ?_ | refine blk_alloc ?_ _)); refine blk_far ?_ NB217_219.out _; (with_reducible repeat (first | refine blk_drewN ?_ _ | refine blk_drew ?_ | refine blk_alloc ?_ _)); refine blk_far ?_ NB217_219.out _; (with_reducible repeat (first | refine blk_drewN ?_ _ | refine blk_drew ?_ | refine blk_alloc ?_ _)); refine blk_far ?_ NB217_219.out _; (with_reducible repeat (first | refine blk_drewN ?_ _ | refine blk_drew ?_ | refine blk_alloc ?_ _)); refine blk_far ?_ NB217_219.out _; (with_reducible repeat (first | refine blk_drewN ?_ _ | refine blk_drew ?_ | refine blk_alloc ?_ _)); refine blk_far ?_ NB217_219.out _; (with_reducible repeat (first | refine blk_drewN ?_ _ | refine blk_drew ?_ | refine blk_alloc ?_ _)); refine blk_far ?_ NB217_219.out _; (with_reducible repeat (first | refine blk_drewN ?_ _ | refine blk_drew ?_ | refine blk_alloc ?_ _)); refine blk_far ?_ NB217_219.out _; (with_reducible repeat (first | refine blk_drewN ?_ _ | refine blk_drew ?_ | refine blk_alloc ?_ _)); refine blk_far ?_ NB217_219.out _; (with_reducible repeat (first | refine blk_drewN ?_ _ | refine blk_drew ?_ | refine blk_alloc ?_ _)); refine blk_far ?_ NB217_219.out _; (with_reducible repeat (first | refine blk_drewN ?_ _ | refine blk_drew ?_ | refine blk_alloc ?_ _)); refine blk_far ?_ NB217_219.out _; (with_reducible repeat (first | refine blk_drewN ?_ _ | refine blk_drew ?_ | refine blk_alloc ?_ _)); refine blk_far ?_ NB217_219.out _; (with_reducible repeat (first | refine blk_drewN ?_ _ | refine blk_drew ?_ | refine blk_alloc ?_ _)); refine blk_far ?_ NB217_219.out _; (with_reducible repeat (first | refine blk_drewN ?_ _ | refine blk_drew ?_ | refine blk_alloc ?_ _)); exact BK217.out⟩, ⟨by repeat (first | (with_reducible first | exact HB.out | apply below_alloc | apply pw_below_drewN | apply below_drew1 | refine below_set ?_ GE217.out | refine below_set ?_ GE219.out) | exact HB.out)⟩⟩
                                        · rw [if_neg c54] at H
                                          exact absurd H (by simp)
                                      · rw [if_neg c53] at H
                                        exact absurd H (by simp)
                                    · rw [if_neg c52] at H
                                      have c52b0 : decide (x131_5 < (t209.length : Int)) = false := decide_eq_false c52
                                      clear c52
                                      by_cases c69 : x21_5 < 0
                                      · rw [if_pos c69] at H
                                        exact absurd H (by simp)
                                      · rw [if_neg c69] at H
                                        have c69b0 : decide (x21_5 < 0) = false := decide_eq_false c69
                                        clear c69
                                        have HC70 := Aside0.mk H
                                        clear H
                                        go_upto_region 34 with (fail)
                                        go_cut [158] (fun v158 wc => ∃ (kq : Nat) (x158_69 : Bool), v158 = .bool x158_69 ∧ Aside0 (jobberlaw19_CallClears.j5 kq t208 t209 x14_3 x17_4 x18_4 x21_5 l0 (l0.length : Int) x123_4 x158_69 ((rd_T42 l0 x123_4).f0) ((rd_T42 l0 x123_4).f1) ((rd_T42 l0 x123_4).f2) ((rd_T42 l0 x123_4).f3) ((rd_T42 l0 x123_4).f4) ((rd_T42 l0 x123_4).f5) = some r) ∧ Aside0 (kq ≤ k5) ∧ Aside0 (Kd.R k44 44 wc w.heap.size (fun _ => True) (.slice Ao36 t209.length co36) t209) ∧ Aside0 (wc.heap[gb217]? = some (.cells #[.int .u64 ((rd_T42 l0 x123_4).f0), .int .i64 ((rd_T42 l0 x123_4).f1), .int .i64 ((rd_T42 l0 x123_4).f2), .int .i64 ((rd_T42 l0 x123_4).f3), .int .i64 ((rd_T42 l0 x123_4).f4), .int .u64 ((rd_T42 l0 x123_4).f5)] 42 (0, 0))) ∧ Aside0 (Below w.heap.size w wc))
                                        case first =>
                                          have H := HC70.out
                                          clear HC70
                                          by_cases c71 : x21_5 > 0
                                          · rw [if_pos c71] at H
                                            have c71b0 : decide (0 < x21_5) = true := decide_eq_true c71
                                            clear c71
                                            (first | rw [c71b0] | (simp only [i64_w, i32_w]; rw [c71b0]) | skip)
                                            have H' := Aside0.mk H
                                            clear H
                                            have hcz72_0 : wr.cell? ⟨gb217, 0, none⟩ = some (.int .u64 ((rd_T42 l0 x123_4).f0)) := (blk_cell BK217.out 0).trans rfl
                                            have hcz72_1 : wr.cell? ⟨gb217, 1, none⟩ = some (.int .i64 ((rd_T42 l0 x123_4).f1)) := (blk_cell BK217.out 1).trans rfl
                                            have hcz72_2 : wr.cell? ⟨gb217, 2, none⟩ = some (.int .i64 ((rd_T42 l0 x123_4).f2)) := (blk_cell BK217.out 2).trans rfl
                                            have hcz72_3 : wr.cell? ⟨gb217, 3, none⟩ = some (.int .i64 ((rd_T42 l0 x123_4).f3)) := (blk_cell BK217.out 3).trans rfl
                                            have hcz72_4 : wr.cell? ⟨gb217, 4, none⟩ = some (.int .i64 ((rd_T42 l0 x123_4).f4)) := (blk_cell BK217.out 4).trans rfl
                                            have hcz72_5 : wr.cell? ⟨gb217, 5, none⟩ = some (.int .u64 ((rd_T42 l0 x123_4).f5)) := (blk_cell BK217.out 5).trans rfl
                                            have hfz72_0 := blk_frozen BK217.out 0
                                            have hfz72_1 := blk_frozen BK217.out 1
                                            have hfz72_2 := blk_frozen BK217.out 2
                                            have hfz72_3 := blk_frozen BK217.out 3
                                            have hfz72_4 := blk_frozen BK217.out 4
                                            have hfz72_5 := blk_frozen BK217.out 5
                                            go_wp2
                                            go_meet
                                            case rel => exact ⟨_, ((((rd_T42 l0 x123_4).f2) == 1)), (by first | rfl | (simp; done) | (simp [*]; done)), H', ⟨by have := HJ4.out; have := HK2.out; have := HK3.out; have := HK4.out; have := HK5.out; first | omega | exact Nat.le_refl _⟩, ⟨by (with_reducible repeat (first | apply Kd.R_alloc | apply Kd.R_drewN | apply Kd.R_drew)); exact HO_13.out⟩, ⟨by (with_reducible repeat (first | refine blk_drewN ?_ _ | refine blk_drew ?_ | refine blk_alloc ?_ _)); exact BK217.out⟩, ⟨by repeat (first | (with_reducible first | exact HB.out | apply below_alloc | apply pw_below_drewN | apply below_drew1 | refine below_set ?_ GE217.out) | exact HB.out)⟩⟩
                                          · rw [if_neg c71] at H
                                            have c71b0 : decide (0 < x21_5) = false := decide_eq_false c71
                                            clear c71
                                            (first | rw [c71b0] | (simp only [i64_w, i32_w]; rw [c71b0]) | skip)
                                            have H' := Aside0.mk H
                                            clear H
                                            go_wp2
                                            go_meet
                                            case rel => exact ⟨_, (false), (by first | rfl | (simp; done) | (simp [*]; done)), H', ⟨by have := HJ4.out; have := HK2.out; have := HK3.out; have := HK4.out; have := HK5.out; first | omega | exact Nat.le_refl _⟩, ⟨by (with_reducible repeat (first | apply Kd.R_alloc | apply Kd.R_drewN | apply Kd.R_drew)); exact HO_13.out⟩, ⟨by (with_reducible repeat (first | refine blk_drewN ?_ _ | refine blk_drew ?_ | refine blk_alloc ?_ _)); exact BK217.out⟩, ⟨by repeat (first | (with_reducible first | exact HB.out | apply below_alloc | apply pw_below_drewN | apply below_drew1 | refine below_set ?_ GE217.out) | exact HB.out)⟩⟩
                                        case rest =>
                                          clear HC70
                                          try clear c1
                                          try clear c2
                                          try clear p2
                                          try clear q2
                                          try clear hx2
                                          try clear c3
                                          try clear c4
                                          try clear c5
                                          try clear c6
                                          try clear c6b0
                                          try clear c6b1
                                          try clear p6
                                          try clear c7
                                          try clear c7b0
                                          try clear c8
                                          try clear c8b0
                                          try clear c9
                                          try clear c9b0
                                          try clear c9b1
                                          try clear c10
                                          try clear c13
                                          try clear c13b0
                                          try clear c14
                                          try clear c14b0
                                          try clear c15
                                          try clear c15b0
                                          try clear c16
                                          try clear c16b0
                                          try clear c16b1
                                          try clear c17
                                          try clear c17b0
                                          try clear c17b1
                                          try clear p20
                                          try clear q20
                                          try clear hx20
                                          try clear p21
                                          try clear q21
                                          try clear hx21
                                          try clear c26
                                          try clear c26b0
                                          try clear c26b1
                                          try clear c27
                                          try clear c27b0
                                          try clear c27b1
                                          try clear c28
                                          try clear c28b0
                                          try clear c28b1
                                          try clear c37
                                          try clear c37b0
                                          try clear c38
                                          try clear c38b0
                                          try clear c39
                                          try clear c39b0
                                          try clear c40
                                          try clear c40b0
                                          try clear c41
                                          try clear c41b0
                                          try clear c42
                                          try clear c42b0
                                          try clear c43
                                          try clear c43b0
                                          try clear c43b1
                                          try clear c44
                                          try clear c44b0
                                          try clear c44b1
                                          try clear c47
                                          try clear c47b0
                                          try clear c48
                                          try clear c48b0
                                          try clear c49
                                          try clear c49b0
                                          try clear c52
                                          try clear c52b0
                                          try clear c53
                                          try clear c53b0
                                          try clear c54
                                          try clear c54b0
                                          try clear c55
                                          try clear c55b0
                                          try clear c55b1
                                          try clear c55b2
                                          try clear c57
                                          try clear c60
                                          try clear c60b0
                                          try clear c60b1
                                          try clear c60b2
                                          try clear c62
                                          try clear p64
                                          try clear c66
                                          try clear c69
                                          try clear c69b0
                                          try clear c71
                                          try clear c71b0
                                          try clear hcz19_0
                                          try clear hcz19_1
                                          try clear hcz19_2
                                          try clear hcz19_3
                                          try clear hcz19_4
                                          try clear hcz19_5
                                          try clear hcz22_0
                                          try clear hcz22_1
                                          try clear hcz22_2
                                          try clear hcz22_3
                                          try clear hcz22_4
                                          try clear hcz22_5
                                          try clear hcz46_0
                                          try clear hcz46_1
                                          try clear hcz46_10
                                          try clear hcz46_11
                                          try clear hcz46_12
                                          try clear hcz46_2
                                          try clear hcz46_3
                                          try clear hcz46_4
                                          try clear hcz46_5
                                          try clear hcz46_6
                                          try clear hcz46_7
                                          try clear hcz46_8
                                          try clear hcz46_9
                                          try clear hcz51_0
                                          try clear hcz51_1
                                          try clear hcz51_2
                                          try clear hcz51_3
                                          try clear hcz51_4
                                          try clear hcz51_5
                                          try clear hcz58_0
                                          try clear hcz58_1
                                          try clear hcz58_10
                                          try clear hcz58_11
                                          try clear hcz58_12
                                          try clear hcz58_2
                                          try clear hcz58_3
                                          try clear hcz58_4
                                          try clear hcz58_5
                                          try clear hcz58_6
                                          try clear hcz58_7
                                          try clear hcz58_8
                                          try clear hcz58_9
                                          try clear hcz59_0
                                          try clear hcz59_1
                                          try clear hcz59_2
                                          try clear hcz59_3
                                          try clear hcz59_4
                                          try clear hcz59_5
                                          try clear hcz63_0
                                          try clear hcz63_1
                                          try clear hcz63_10
                                          try clear hcz63_11
                                          try clear hcz63_12
                                          try clear hcz63_2
                                          try clear hcz63_3
                                          try clear hcz63_4
                                          try clear hcz63_5
                                          try clear hcz63_6
                                          try clear hcz63_7
                                          try clear hcz63_8
                                          try clear hcz63_9
                                          try clear hcz64_0
                                          try clear hcz64_1
                                          try clear hcz64_2
                                          try clear hcz64_3
                                          try clear hcz64_4
                                          try clear hcz64_5
                                          try clear hcz67_0
                                          try clear hcz67_1
                                          try clear hcz67_10
                                          try clear hcz67_11
                                          try clear hcz67_12
                                          try clear hcz67_2
                                          try clear hcz67_3
                                          try clear hcz67_4
                                          try clear hcz67_5
                                          try clear hcz67_6
                                          try clear hcz67_7
                                          try clear hcz67_8
                                          try clear hcz67_9
                                          try clear hcz68_0
                                          try clear hcz68_1
                                          try clear hcz68_2
                                          try clear hcz68_3
                                          try clear hcz68_4
                                          try clear hcz68_5
                                          try clear hcz72_0
                                          try clear hcz72_1
                                          try clear hcz72_2
                                          try clear hcz72_3
                                          try clear hcz72_4
                                          try clear hcz72_5
                                          try clear hfz19_0
                                          try clear hfz19_1
                                          try clear hfz19_2
                                          try clear hfz19_3
                                          try clear hfz19_4
                                          try clear hfz19_5
                                          try clear hfz22_0
                                          try clear hfz22_1
                                          try clear hfz22_2
                                          try clear hfz22_3
                                          try clear hfz22_4
                                          try clear hfz22_5
                                          try clear hfz46_0
                                          try clear hfz46_1
                                          try clear hfz46_10
                                          try clear hfz46_11
                                          try clear hfz46_12
                                          try clear hfz46_2
                                          try clear hfz46_3
                                          try clear hfz46_4
                                          try clear hfz46_5
                                          try clear hfz46_6
                                          try clear hfz46_7
                                          try clear hfz46_8
                                          try clear hfz46_9
                                          try clear hfz51_0
                                          try clear hfz51_1
                                          try clear hfz51_2
                                          try clear hfz51_3
                                          try clear hfz51_4
                                          try clear hfz51_5
                                          try clear hfz58_0
                                          try clear hfz58_1
                                          try clear hfz58_10
                                          try clear hfz58_11
                                          try clear hfz58_12
                                          try clear hfz58_2
                                          try clear hfz58_3
                                          try clear hfz58_4
                                          try clear hfz58_5
                                          try clear hfz58_6
                                          try clear hfz58_7
                                          try clear hfz58_8
                                          try clear hfz58_9
                                          try clear hfz59_0
                                          try clear hfz59_1
                                          try clear hfz59_2
                                          try clear hfz59_3
                                          try clear hfz59_4
                                          try clear hfz59_5
                                          try clear hfz63_0
                                          try clear hfz63_1
                                          try clear hfz63_10
                                          try clear hfz63_11
                                          try clear hfz63_12
                                          try clear hfz63_2
                                          try clear hfz63_3
                                          try clear hfz63_4
                                          try clear hfz63_5
                                          try clear hfz63_6
                                          try clear hfz63_7
                                          try clear hfz63_8
                                          try clear hfz63_9
                                          try clear hfz64_0
                                          try clear hfz64_1
                                          try clear hfz64_2
                                          try clear hfz64_3
                                          try clear hfz64_4
                                          try clear hfz64_5
                                          try clear hfz67_0
                                          try clear hfz67_1
                                          try clear hfz67_10
                                          try clear hfz67_11
                                          try clear hfz67_12
                                          try clear hfz67_2
                                          try clear hfz67_3
                                          try clear hfz67_4
                                          try clear hfz67_5
                                          try clear hfz67_6
                                          try clear hfz67_7
                                          try clear hfz67_8
                                          try clear hfz67_9
                                          try clear hfz68_0
                                          try clear hfz68_1
                                          try clear hfz68_2
                                          try clear hfz68_3
                                          try clear hfz68_4
                                          try clear hfz68_5
                                          try clear hfz72_0
                                          try clear hfz72_1
                                          try clear hfz72_2
                                          try clear hfz72_3
                                          try clear hfz72_4
                                          try clear hfz72_5
                                          try clear hx204_0
                                          try clear hx204_1
                                          try clear hx204_2
                                          try clear hx204_3
                                          try clear hx204_4
                                          try clear hx204_5
                                          try clear hx213_0
                                          try clear hx213_1
                                          try clear hx213_10
                                          try clear hx213_11
                                          try clear hx213_12
                                          try clear hx213_2
                                          try clear hx213_3
                                          try clear hx213_4
                                          try clear hx213_5
                                          try clear hx213_6
                                          try clear hx213_7
                                          try clear hx213_8
                                          try clear hx213_9
                                          try clear hx216_0
                                          try clear hx216_1
                                          try clear hx216_2
                                          try clear hx216_3
                                          try clear hx216_4
                                          try clear hx216_5
                                          try clear hx218_0
                                          try clear hx218_1
                                          try clear hx218_10
                                          try clear hx218_11
                                          try clear hx218_12
                                          try clear hx218_2
                                          try clear hx218_3
                                          try clear hx218_4
                                          try clear hx218_5
                                          try clear hx218_6
                                          try clear hx218_7
                                          try clear hx218_8
                                          try clear hx218_9
                                          try clear p2
                                          try clear p20
                                          try clear p204
                                          try clear p21
                                          try clear p213
                                          try clear p216
                                          try clear p218
                                          try clear p6
                                          try clear q2
                                          try clear q20
                                          try clear q204
                                          try clear q21
                                          try clear q213
                                          try clear q216
                                          try clear q218
                                          obtain ⟨kq, x158_69, rfl, HA, HJ69, HO_13, BK217, HB⟩ := hcut
                                          cases kq with
                                          | zero => exact absurd HA.out (by simp [jobberlaw19_CallClears.j5])
                                          | succ kj69 =>
                                            have H := HA.out
                                            clear HA
                                            simp only [jobberlaw19_CallClears.j5] at H
                                            by_cases c73 : x158_69 = true
                                            · subst c73
                                              have H1 : (if x21_5 > 0 then (if ((rd_T42 l0 x123_4).f2) = 2 then (jobberlaw19_CallClears.l2 kj69 t208 t209 x14_3 (mx x17_4 ((rd_T42 l0 x123_4).f3)) (mn x18_4 ((rd_T42 l0 x123_4).f3)) l0 (l0.length : Int) (wrap64 (x123_4 + 1))) else (jobberlaw19_CallClears.l2 kj69 t208 t209 x14_3 (mx x17_4 ((rd_T42 l0 x123_4).f3)) x18_4 l0 (l0.length : Int) (wrap64 (x123_4 + 1)))) else (jobberlaw19_CallClears.l2 kj69 t208 t209 x14_3 (mx x17_4 ((rd_T42 l0 x123_4).f3)) x18_4 l0 (l0.length : Int) (wrap64 (x123_4 + 1)))) = some r := by rw [if_pos rfl] at H; exact H
                                              clear H
                                              have H := H1
                                              clear H1
                                              obtain ⟨ji74, hji74⟩ : ∃ j_ : Int, (mx x17_4 ((rd_T42 l0 x123_4).f3)) = j_ := ⟨_, rfl⟩
                                              replace H : (if x21_5 > 0 then (if ((rd_T42 l0 x123_4).f2) = 2 then (jobberlaw19_CallClears.l2 kj69 t208 t209 x14_3 ji74 (mn x18_4 ((rd_T42 l0 x123_4).f3)) l0 (l0.length : Int) (wrap64 (x123_4 + 1))) else (jobberlaw19_CallClears.l2 kj69 t208 t209 x14_3 ji74 x18_4 l0 (l0.length : Int) (wrap64 (x123_4 + 1)))) else (jobberlaw19_CallClears.l2 kj69 t208 t209 x14_3 ji74 x18_4 l0 (l0.length : Int) (wrap64 (x123_4 + 1)))) = some r := by first | (rw [hji74] at H; exact H) | (simp only [hji74] at H ⊢; exact H)
                                              have hji74_ : (if x17_4 < ((rd_T42 l0 x123_4).f3) then ((rd_T42 l0 x123_4).f3) else x17_4) = ji74 := hji74
                                              by_cases c75 : x21_5 > 0
                                              · rw [if_pos c75] at H
                                                have c75b0 : decide (0 < x21_5) = true := decide_eq_true c75
                                                clear c75
                                                by_cases c76 : ((rd_T42 l0 x123_4).f2) = 2
                                                · rw [if_pos c76] at H
                                                  have c76b0 : (((rd_T42 l0 x123_4).f2) == 2) = true := beq_iff_eq.mpr c76
                                                  have c76b1 : (((rd_T42 l0 x123_4).f2) != 2) = false := bne_eq_false_iff_eq.mpr c76
                                                  clear c76
                                                  obtain ⟨ji77, hji77⟩ : ∃ j_ : Int, (mn x18_4 ((rd_T42 l0 x123_4).f3)) = j_ := ⟨_, rfl⟩
                                                  replace H : (jobberlaw19_CallClears.l2 kj69 t208 t209 x14_3 ji74 ji77 l0 (l0.length : Int) (wrap64 (x123_4 + 1))) = some r := by first | (rw [hji77] at H; exact H) | (simp only [hji77] at H ⊢; exact H)
                                                  have hji77_ : (if ((rd_T42 l0 x123_4).f3) < x18_4 then ((rd_T42 l0 x123_4).f3) else x18_4) = ji77 := hji77
                                                  have H' := Aside0.mk H
                                                  clear H
                                                  have hcz78_0 : wc.cell? ⟨gb217, 0, none⟩ = some (.int .u64 ((rd_T42 l0 x123_4).f0)) := (blk_cell BK217.out 0).trans rfl
                                                  have hcz78_1 : wc.cell? ⟨gb217, 1, none⟩ = some (.int .i64 ((rd_T42 l0 x123_4).f1)) := (blk_cell BK217.out 1).trans rfl
                                                  have hcz78_2 : wc.cell? ⟨gb217, 2, none⟩ = some (.int .i64 ((rd_T42 l0 x123_4).f2)) := (blk_cell BK217.out 2).trans rfl
                                                  have hcz78_3 : wc.cell? ⟨gb217, 3, none⟩ = some (.int .i64 ((rd_T42 l0 x123_4).f3)) := (blk_cell BK217.out 3).trans rfl
                                                  have hcz78_4 : wc.cell? ⟨gb217, 4, none⟩ = some (.int .i64 ((rd_T42 l0 x123_4).f4)) := (blk_cell BK217.out 4).trans rfl
                                                  have hcz78_5 : wc.cell? ⟨gb217, 5, none⟩ = some (.int .u64 ((rd_T42 l0 x123_4).f5)) := (blk_cell BK217.out 5).trans rfl
                                                  have hfz78_0 := blk_frozen BK217.out 0
                                                  have hfz78_1 := blk_frozen BK217.out 1
                                                  have hfz78_2 := blk_frozen BK217.out 2
                                                  have hfz78_3 := blk_frozen BK217.out 3
                                                  have hfz78_4 := blk_frozen BK217.out 4
                                                  have hfz78_5 := blk_frozen BK217.out 5
                                                  go_wp2
                                                  go_roundg kj69
                                                  case measure => have := HJ4.out; have := HK2.out; have := HK3.out; have := HK4.out; have := HK5.out; have := HJ69.out; omega
                                                  case rel => exact ⟨(ji74), (ji77), (wrap64 (x123_4 + 1)), (by first | rfl | (simp; done) | (simp only [← hji74] <;> (first | rfl | simp)) | (simp [*]; done)), (by first | rfl | (simp; done) | (simp only [← hji77] <;> (first | rfl | simp)) | (simp [*]; done)), (by first | rfl | (simp; done) | (simp [*]; done)), H', ⟨by have := HJ4.out; have := HK2.out; have := HK3.out; have := HK4.out; have := HK5.out; have := HJ69.out; omega⟩, ⟨by (with_reducible repeat (first | apply Kd.R_alloc | apply Kd.R_drewN | apply Kd.R_drew)); exact HO_13.out⟩, ⟨by repeat (first | (with_reducible first | exact HB.out | apply below_alloc | apply pw_below_drewN | apply below_drew1 | refine below_set ?_ GE217.out) | exact HB.out)⟩⟩
                                                · rw [if_neg c76] at H
                                                  have c76b0 : (((rd_T42 l0 x123_4).f2) == 2) = false := beq_eq_false_iff_ne.mpr c76
                                                  have c76b1 : (((rd_T42 l0 x123_4).f2) != 2) = true := bne_iff_ne.mpr c76
                                                  have H' := Aside0.mk H
                                                  clear H
                                                  have hcz79_0 : wc.cell? ⟨gb217, 0, none⟩ = some (.int .u64 ((rd_T42 l0 x123_4).f0)) := (blk_cell BK217.out 0).trans rfl
                                                  have hcz79_1 : wc.cell? ⟨gb217, 1, none⟩ = some (.int .i64 ((rd_T42 l0 x123_4).f1)) := (blk_cell BK217.out 1).trans rfl
                                                  have hcz79_2 : wc.cell? ⟨gb217, 2, none⟩ = some (.int .i64 ((rd_T42 l0 x123_4).f2)) := (blk_cell BK217.out 2).trans rfl
                                                  have hcz79_3 : wc.cell? ⟨gb217, 3, none⟩ = some (.int .i64 ((rd_T42 l0 x123_4).f3)) := (blk_cell BK217.out 3).trans rfl
                                                  have hcz79_4 : wc.cell? ⟨gb217, 4, none⟩ = some (.int .i64 ((rd_T42 l0 x123_4).f4)) := (blk_cell BK217.out 4).trans rfl
                                                  have hcz79_5 : wc.cell? ⟨gb217, 5, none⟩ = some (.int .u64 ((rd_T42 l0 x123_4).f5)) := (blk_cell BK217.out 5).trans rfl
                                                  have hfz79_0 := blk_frozen BK217.out 0
                                                  have hfz79_1 := blk_frozen BK217.out 1
                                                  have hfz79_2 := blk_frozen BK217.out 2
                                                  have hfz79_3 := blk_frozen BK217.out 3
                                                  have hfz79_4 := blk_frozen BK217.out 4
                                                  have hfz79_5 := blk_frozen BK217.out 5
                                                  go_wp2
                                                  go_roundg kj69
                                                  case measure => have := HJ4.out; have := HK2.out; have := HK3.out; have := HK4.out; have := HK5.out; have := HJ69.out; omega
                                                  case rel => exact ⟨(ji74), (x18_4), (wrap64 (x123_4 + 1)), (by first | rfl | (simp; done) | (simp only [← hji74] <;> (first | rfl | simp)) | (simp [*]; done)), (by first | rfl | (simp; done) | (simp [*]; done)), (by first | rfl | (simp; done) | (simp [*]; done)), H', ⟨by have := HJ4.out; have := HK2.out; have := HK3.out; have := HK4.out; have := HK5.out; have := HJ69.out; omega⟩, ⟨by (with_reducible repeat (first | apply Kd.R_alloc | apply Kd.R_drewN | apply Kd.R_drew)); exact HO_13.out⟩, ⟨by repeat (first | (with_reducible first | exact HB.out | apply below_alloc | apply pw_below_drewN | apply below_drew1 | refine below_set ?_ GE217.out) | exact HB.out)⟩⟩
                                              · rw [if_neg c75] at H
                                                have c75b0 : decide (0 < x21_5) = false := decide_eq_false c75
                                                clear c75
                                                have H' := Aside0.mk H
                                                clear H
                                                have hcz80_0 : wc.cell? ⟨gb217, 0, none⟩ = some (.int .u64 ((rd_T42 l0 x123_4).f0)) := (blk_cell BK217.out 0).trans rfl
                                                have hcz80_1 : wc.cell? ⟨gb217, 1, none⟩ = some (.int .i64 ((rd_T42 l0 x123_4).f1)) := (blk_cell BK217.out 1).trans rfl
                                                have hcz80_2 : wc.cell? ⟨gb217, 2, none⟩ = some (.int .i64 ((rd_T42 l0 x123_4).f2)) := (blk_cell BK217.out 2).trans rfl
                                                have hcz80_3 : wc.cell? ⟨gb217, 3, none⟩ = some (.int .i64 ((rd_T42 l0 x123_4).f3)) := (blk_cell BK217.out 3).trans rfl
                                                have hcz80_4 : wc.cell? ⟨gb217, 4, none⟩ = some (.int .i64 ((rd_T42 l0 x123_4).f4)) := (blk_cell BK217.out 4).trans rfl
                                                have hcz80_5 : wc.cell? ⟨gb217, 5, none⟩ = some (.int .u64 ((rd_T42 l0 x123_4).f5)) := (blk_cell BK217.out 5).trans rfl
                                                have hfz80_0 := blk_frozen BK217.out 0
                                                have hfz80_1 := blk_frozen BK217.out 1
                                                have hfz80_2 := blk_frozen BK217.out 2
                                                have hfz80_3 := blk_frozen BK217.out 3
                                                have hfz80_4 := blk_frozen BK217.out 4
                                                have hfz80_5 := blk_frozen BK217.out 5
                                                go_wp2
                                                go_roundg kj69
                                                case measure => have := HJ4.out; have := HK2.out; have := HK3.out; have := HK4.out; have := HK5.out; have := HJ69.out; omega
                                                case rel => exact ⟨(ji74), (x18_4), (wrap64 (x123_4 + 1)), (by first | rfl | (simp; done) | (simp only [← hji74] <;> (first | rfl | simp)) | (simp [*]; done)), (by first | rfl | (simp; done) | (simp [*]; done)), (by first | rfl | (simp; done) | (simp [*]; done)), H', ⟨by have := HJ4.out; have := HK2.out; have := HK3.out; have := HK4.out; have := HK5.out; have := HJ69.out; omega⟩, ⟨by (with_reducible repeat (first | apply Kd.R_alloc | apply Kd.R_drewN | apply Kd.R_drew)); exact HO_13.out⟩, ⟨by repeat (first | (with_reducible first | exact HB.out | apply below_alloc | apply pw_below_drewN | apply below_drew1 | refine below_set ?_ GE217.out) | exact HB.out)⟩⟩
                                            · replace c73 := Bool.eq_false_iff.mpr c73
                                              subst c73
                                              have H1 : (if x21_5 > 0 then (if ((rd_T42 l0 x123_4).f2) = 2 then (jobberlaw19_CallClears.l2 kj69 t208 t209 x14_3 x17_4 (mn x18_4 ((rd_T42 l0 x123_4).f3)) l0 (l0.length : Int) (wrap64 (x123_4 + 1))) else (jobberlaw19_CallClears.l2 kj69 t208 t209 x14_3 x17_4 x18_4 l0 (l0.length : Int) (wrap64 (x123_4 + 1)))) else (jobberlaw19_CallClears.l2 kj69 t208 t209 x14_3 x17_4 x18_4 l0 (l0.length : Int) (wrap64 (x123_4 + 1)))) = some r := by rw [if_neg (show ¬ (false = true) by decide)] at H; exact H
                                              clear H
                                              have H := H1
                                              clear H1
                                              by_cases c81 : x21_5 > 0
                                              · rw [if_pos c81] at H
                                                have c81b0 : decide (0 < x21_5) = true := decide_eq_true c81
                                                clear c81
                                                by_cases c82 : ((rd_T42 l0 x123_4).f2) = 2
                                                · rw [if_pos c82] at H
                                                  have c82b0 : (((rd_T42 l0 x123_4).f2) == 2) = true := beq_iff_eq.mpr c82
                                                  have c82b1 : (((rd_T42 l0 x123_4).f2) != 2) = false := bne_eq_false_iff_eq.mpr c82
                                                  clear c82
                                                  obtain ⟨ji83, hji83⟩ : ∃ j_ : Int, (mn x18_4 ((rd_T42 l0 x123_4).f3)) = j_ := ⟨_, rfl⟩
                                                  replace H : (jobberlaw19_CallClears.l2 kj69 t208 t209 x14_3 x17_4 ji83 l0 (l0.length : Int) (wrap64 (x123_4 + 1))) = some r := by first | (rw [hji83] at H; exact H) | (simp only [hji83] at H ⊢; exact H)
                                                  have hji83_ : (if ((rd_T42 l0 x123_4).f3) < x18_4 then ((rd_T42 l0 x123_4).f3) else x18_4) = ji83 := hji83
                                                  have H' := Aside0.mk H
                                                  clear H
                                                  have hcz84_0 : wc.cell? ⟨gb217, 0, none⟩ = some (.int .u64 ((rd_T42 l0 x123_4).f0)) := (blk_cell BK217.out 0).trans rfl
                                                  have hcz84_1 : wc.cell? ⟨gb217, 1, none⟩ = some (.int .i64 ((rd_T42 l0 x123_4).f1)) := (blk_cell BK217.out 1).trans rfl
                                                  have hcz84_2 : wc.cell? ⟨gb217, 2, none⟩ = some (.int .i64 ((rd_T42 l0 x123_4).f2)) := (blk_cell BK217.out 2).trans rfl
                                                  have hcz84_3 : wc.cell? ⟨gb217, 3, none⟩ = some (.int .i64 ((rd_T42 l0 x123_4).f3)) := (blk_cell BK217.out 3).trans rfl
                                                  have hcz84_4 : wc.cell? ⟨gb217, 4, none⟩ = some (.int .i64 ((rd_T42 l0 x123_4).f4)) := (blk_cell BK217.out 4).trans rfl
                                                  have hcz84_5 : wc.cell? ⟨gb217, 5, none⟩ = some (.int .u64 ((rd_T42 l0 x123_4).f5)) := (blk_cell BK217.out 5).trans rfl
                                                  have hfz84_0 := blk_frozen BK217.out 0
                                                  have hfz84_1 := blk_frozen BK217.out 1
                                                  have hfz84_2 := blk_frozen BK217.out 2
                                                  have hfz84_3 := blk_frozen BK217.out 3
                                                  have hfz84_4 := blk_frozen BK217.out 4
                                                  have hfz84_5 := blk_frozen BK217.out 5
                                                  go_wp2
                                                  go_roundg kj69
                                                  case measure => have := HJ4.out; have := HK2.out; have := HK3.out; have := HK4.out; have := HK5.out; have := HJ69.out; omega
                                                  case rel => exact ⟨(x17_4), (ji83), (wrap64 (x123_4 + 1)), (by first | rfl | (simp; done) | (simp [*]; done)), (by first | rfl | (simp; done) | (simp only [← hji83] <;> (first | rfl | simp)) | (simp [*]; done)), (by first | rfl | (simp; done) | (simp [*]; done)), H', ⟨by have := HJ4.out; have := HK2.out; have := HK3.out; have := HK4.out; have := HK5.out; have := HJ69.out; omega⟩, ⟨by (with_reducible repeat (first | apply Kd.R_alloc | apply Kd.R_drewN | apply Kd.R_drew)); exact HO_13.out⟩, ⟨by repeat (first | (with_reducible first | exact HB.out | apply below_alloc | apply pw_below_drewN | apply below_drew1 | refine below_set ?_ GE217.out) | exact HB.out)⟩⟩
                                                · rw [if_neg c82] at H
                                                  have c82b0 : (((rd_T42 l0 x123_4).f2) == 2) = false := beq_eq_false_iff_ne.mpr c82
                                                  have c82b1 : (((rd_T42 l0 x123_4).f2) != 2) = true := bne_iff_ne.mpr c82
                                                  have H' := Aside0.mk H
                                                  clear H
                                                  have hcz85_0 : wc.cell? ⟨gb217, 0, none⟩ = some (.int .u64 ((rd_T42 l0 x123_4).f0)) := (blk_cell BK217.out 0).trans rfl
                                                  have hcz85_1 : wc.cell? ⟨gb217, 1, none⟩ = some (.int .i64 ((rd_T42 l0 x123_4).f1)) := (blk_cell BK217.out 1).trans rfl
                                                  have hcz85_2 : wc.cell? ⟨gb217, 2, none⟩ = some (.int .i64 ((rd_T42 l0 x123_4).f2)) := (blk_cell BK217.out 2).trans rfl
                                                  have hcz85_3 : wc.cell? ⟨gb217, 3, none⟩ = some (.int .i64 ((rd_T42 l0 x123_4).f3)) := (blk_cell BK217.out 3).trans rfl
                                                  have hcz85_4 : wc.cell? ⟨gb217, 4, none⟩ = some (.int .i64 ((rd_T42 l0 x123_4).f4)) := (blk_cell BK217.out 4).trans rfl
                                                  have hcz85_5 : wc.cell? ⟨gb217, 5, none⟩ = some (.int .u64 ((rd_T42 l0 x123_4).f5)) := (blk_cell BK217.out 5).trans rfl
                                                  have hfz85_0 := blk_frozen BK217.out 0
                                                  have hfz85_1 := blk_frozen BK217.out 1
                                                  have hfz85_2 := blk_frozen BK217.out 2
                                                  have hfz85_3 := blk_frozen BK217.out 3
                                                  have hfz85_4 := blk_frozen BK217.out 4
                                                  have hfz85_5 := blk_frozen BK217.out 5
                                                  go_wp2
                                                  go_roundg kj69
                                                  case measure => have := HJ4.out; have := HK2.out; have := HK3.out; have := HK4.out; have := HK5.out; have := HJ69.out; omega
                                                  case rel => exact ⟨(x17_4), (x18_4), (wrap64 (x123_4 + 1)), (by first | rfl | (simp; done) | (simp [*]; done)), (by first | rfl | (simp; done) | (simp [*]; done)), (by first | rfl | (simp; done) | (simp [*]; done)), H', ⟨by have := HJ4.out; have := HK2.out; have := HK3.out; have := HK4.out; have := HK5.out; have := HJ69.out; omega⟩, ⟨by (with_reducible repeat (first | apply Kd.R_alloc | apply Kd.R_drewN | apply Kd.R_drew)); exact HO_13.out⟩, ⟨by repeat (first | (with_reducible first | exact HB.out | apply below_alloc | apply pw_below_drewN | apply below_drew1 | refine below_set ?_ GE217.out) | exact HB.out)⟩⟩
                                              · rw [if_neg c81] at H
                                                have c81b0 : decide (0 < x21_5) = false := decide_eq_false c81
                                                clear c81
                                                have H' := Aside0.mk H
                                                clear H
                                                go_wp2
                                                go_roundg kj69
                                                case measure => have := HJ4.out; have := HK2.out; have := HK3.out; have := HK4.out; have := HK5.out; have := HJ69.out; omega
                                                case rel => exact ⟨(x17_4), (x18_4), (wrap64 (x123_4 + 1)), (by first | rfl | (simp; done) | (simp [*]; done)), (by first | rfl | (simp; done) | (simp [*]; done)), (by first | rfl | (simp; done) | (simp [*]; done)), H', ⟨by have := HJ4.out; have := HK2.out; have := HK3.out; have := HK4.out; have := HK5.out; have := HJ69.out; omega⟩, ⟨by (with_reducible repeat (first | apply Kd.R_alloc | apply Kd.R_drewN | apply Kd.R_drew)); exact HO_13.out⟩, ⟨by repeat (first | (with_reducible first | exact HB.out | apply below_alloc | apply pw_below_drewN | apply below_drew1 | refine below_set ?_ GE217.out) | exact HB.out)⟩⟩
                              · rw [if_neg c49] at H
                                exact absurd H (by simp)
                            · rw [if_neg c48] at H
                              exact absurd H (by simp)
                          · rw [if_neg c47] at H
                            have c47b0 : decide (x123_4 < (l0.length : Int)) = false := decide_eq_false c47
                            clear c47
                            by_cases c86 : x14_3 = t208
                            · rw [if_pos c86] at H
                              have c86b0 : (x14_3 == t208) = true := beq_iff_eq.mpr c86
                              have c86b1 : (x14_3 != t208) = false := bne_eq_false_iff_eq.mpr c86
                              clear c86
                              by_cases c87 : x17_4 < x18_4
                              · rw [if_pos c87] at H
                                have c87b0 : decide (x17_4 < x18_4) = true := decide_eq_true c87
                                clear c87
                                replace H := Option.bind_eq_some_iff.mp H
                                obtain ⟨t215, A880, H⟩ := H
                                replace H : (some t215) = some r := H
                                have A88 := Aside0.mk A880
                                clear A880
                                obtain rfl := Option.some.inj H
                                go_wp2_with (first | (go_at_call 7; (with_reducible refine (jobberlaw19_lives.calls k4  t215 _ A88.out).mono ?_); rintro e w89 ⟨rfl, hb⟩; have n0_ := Aside0.mk (Kd.R_below (by (with_reducible repeat (first | apply Kd.R_alloc | apply Kd.R_drewN | apply Kd.R_drew)); exact HO_13.out) hb); have n1_ := Aside0.mk (below_step (by repeat (first | (with_reducible first | exact HB.out | apply below_alloc | apply pw_below_drewN | apply below_drew1) | exact HB.out)) hb); clear HO_13; clear HB; have HO_13 := n0_; have HB := n1_; clear n0_ n1_; (try clear hb); (try clear hb2); (try clear hk); (try clear hi)))
                                go_ret
                                exact ⟨by first | rfl | (simp [errW_none, errW_some] <;> rfl) | (simp [*, errW_none, errW_some] <;> rfl), by repeat (first | (with_reducible first | exact HB.out | apply below_alloc | apply pw_below_drewN | apply below_drew1) | exact HB.out)⟩
                              · rw [if_neg c87] at H
                                exact absurd H (by simp)
                            · rw [if_neg c86] at H
                              exact absurd H (by simp)
end Go.Proofs.Ytjjnbcaemognhaa.Clr
