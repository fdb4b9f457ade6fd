/- Printed by this session's wip/drive.py over the translation; some functions by hand. -/
import Derived.Test.YtdfkbdcdgbjgcaaOwnMx0
namespace Go.Proofs.Ytdfkbdcdgbjgcaa.OwnM
open Go.RowKit Go.Proofs.YtdfkbdcdgbjgcaaW.PrintWords Go.Proofs.YtdfkbdcdgbjgcaaW.PrintLast Go.Proofs.YtdfkbdcdgbjgcaaW.PrintMore
attribute [local go_sem] max2_int min2_int max_two min_two max_three min_three max_four min_four   -- for this text's walks alone
set_option linter.unusedVariables false
set_option linter.unusedSimpArgs false

theorem ret_int {k : IntKind} {a b : Int} (h : a = b) : Ending.returned (.int k a) = .returned (.int k b) := by rw [h]
def ixB {α : Type} (P : α → Bool) (l : List α) : Int := if l.findIdx P < l.length then ((l.findIdx P : Nat) : Int) else -1
theorem ixB_hit {α : Type} {l : List α} {P : α → Bool} (z : α) {i : Int} (h0 : 0 ≤ i) (h1 : i < (l.length : Int)) (ha : ∀ j : Nat, j < i.toNat → P (l.getD j z) = false) (hp : P (l.getD i.toNat z) = true) : ixB P l = i := by
  have hl : i.toNat < l.length := by omega
  have e : l.findIdx P = i.toNat := by
    refine (List.findIdx_eq hl).2 ⟨?_, fun j hj => ?_⟩
    · rw [List.getD_eq_getElem?_getD, List.getElem?_eq_getElem hl] at hp
      exact hp
    · have := ha j hj
      rw [List.getD_eq_getElem?_getD, List.getElem?_eq_getElem (by omega)] at this
      exact this
  unfold ixB
  rw [e, if_pos hl]
  omega
theorem ixB_none {α : Type} {l : List α} {P : α → Bool} (z : α) (ha : ∀ j : Nat, j < l.length → P (l.getD j z) = false) : ixB P l = -1 := by
  have e : l.findIdx P = l.length := by
    refine List.findIdx_eq_length.2 (fun x hx => ?_)
    obtain ⟨j, hj, rfl⟩ := List.mem_iff_getElem.1 hx
    have := ha j hj
    rw [List.getD_eq_getElem?_getD, List.getElem?_eq_getElem hj] at this
    exact this
  unfold ixB
  rw [e, if_neg (by omega)]


/-! ### own_is: function 77 -/
def own_is.f (a0 : Int) : Option (Bool) := if a0 ≥ 1 then (some (decide (a0 ≤ 4))) else (some false)
set_option maxHeartbeats 8000000 in
set_option maxRecDepth 100000 in
theorem own_is.calls (a0 : Int) (r : Bool) (w : World) (h : own_is.f a0 = some r) :
    Calls Try.prog 77 #[.int .i64 a0] w fun e w' => e = .returned (.bool r) ∧ Drawn0 w w' := by
  have H : (if a0 ≥ 1 then (some (decide (a0 ≤ 4))) else (some false)) = some r := h
  clear h
  by_cases c2 : a0 ≥ 1
  · rw [if_pos c2] at H
    have c2b0 : decide (1 ≤ a0) = true := decide_eq_true c2
    clear c2
    obtain rfl := Option.some.inj H
    go_enter Try.func77, Try.ntmps77
    go_wp2
    go_ret
    exact ⟨by first | rfl | (simp; done) | (simp [*]; done), by repeat (first | exact Drawn0.refl _ | apply Drawn0.step)⟩
  · rw [if_neg c2] at H
    have c2b0 : decide (1 ≤ a0) = false := decide_eq_false c2
    clear c2
    obtain rfl := Option.some.inj H
    go_enter Try.func77, Try.ntmps77
    go_wp2
    go_ret
    exact ⟨by first | rfl | (simp; done) | (simp [*]; done), by repeat (first | exact Drawn0.refl _ | apply Drawn0.step)⟩

-- NOT PRINTED: function 78 (api_Order)

/-! ### own_Run: function 47 (by hand) -/
set_option maxHeartbeats 8000000 in
set_option maxRecDepth 100000 in
theorem own_Run_idx (A0 : Option Addr) (c0 : Nat) (l0 : List S73) (P : S73 → Bool) (C0 : Value) (C1 : Value) (w : World) (hr0 : Kd.C k73 w A0 l0.length l0)
    (hp : ∀ (W : World) (x : S73), Below w.heap.size w W → Calls Try.prog 79 #[.agg #[.int .u64 x.f0, .int .i64 x.f1, .int .i64 x.f2, .int .i64 x.f3, .int .i64 x.f4, .int .u64 x.f5], C0, C1] W fun e w' => e = .returned (.bool (P x)) ∧ Below W.heap.size W w') :
    Calls Try.prog 78 #[.slice A0 l0.length c0, .func (.func 79) #[] #[C0, C1]] w fun e w' => e = .returned (.int .i64 (ixB P l0)) ∧ Below w.heap.size w w' := by
  have hu73 := Try.underlying73
  have HR0 := Aside0.mk hr0
  have HP := Aside0.mk hp
  have HB := Aside0.mk (Below.refl w.heap.size w)
  have HM := Aside0.mk hr0.2.1
  clear hr0 hp
  go_enter Try.func78, Try.ntmps78
  go_wp2
  go_loopg [8] l0.length (fun kq v8 wr => ∃ i : Int, v8 = .int .i64 i ∧ Aside0 (0 ≤ i ∧ i + kq = l0.length) ∧ Aside0 (∀ j : Nat, j < i.toNat → P (l0.getD j z73) = false) ∧ Aside0 (Below w.heap.size w wr))
  case atStart => exact ⟨0, rfl, ⟨by omega⟩, ⟨fun j hj => by simp at hj⟩, HB⟩
  case round =>
    clear HB
    obtain ⟨i, rfl, HI, HA, HB⟩ := hrel
    have hi0 : 0 ≤ i := HI.out.1
    by_cases hlt : i < (l0.length : Int)
    · have hd : decide (i < (l0.length : Int)) = true := decide_eq_true hlt
      obtain ⟨ad, e1, hx0, hx1, hx2, hx3, hx4, hx5⟩ := at_T73 HR0.out i hi0 hlt
      cases e1
      replace hx0 := (HB.out.cell (World.block_lt_of_cell? w _ hx0)).trans hx0
      replace hx1 := (HB.out.cell (World.block_lt_of_cell? w _ hx1)).trans hx1
      replace hx2 := (HB.out.cell (World.block_lt_of_cell? w _ hx2)).trans hx2
      replace hx3 := (HB.out.cell (World.block_lt_of_cell? w _ hx3)).trans hx3
      replace hx4 := (HB.out.cell (World.block_lt_of_cell? w _ hx4)).trans hx4
      replace hx5 := (HB.out.cell (World.block_lt_of_cell? w _ hx5)).trans hx5
      cases hpx : P (rd_T73 l0 i) with
      | true =>
        have HPP := Aside0.mk hpx
        have HC := Aside0.mk (HP.out _ (rd_T73 l0 i) HB.out)
        rw [hpx] at HC
        clear hpx
        go_wp2_with (go_at_call 79; refine HC.out.mono ?_; rintro e w1 ⟨rfl, hb⟩; have HB1 := Aside0.mk hb; clear hb)
        go_ret
        exact ⟨ret_int (ixB_hit z73 HI.out.1 hlt HA.out HPP.out).symm, below_step HB.out HB1.out⟩
      | false =>
        have HPP := Aside0.mk hpx
        have HC := Aside0.mk (HP.out _ (rd_T73 l0 i) HB.out)
        rw [hpx] at HC
        clear hpx
        go_wp2_with (go_at_call 79; refine HC.out.mono ?_; rintro e w1 ⟨rfl, hb⟩; have HB1 := Aside0.mk (below_step HB.out hb); clear hb)
        go_roundg (gk - 1)
        case measure => have := HI.out; omega
        case rel =>
          have hw : wrap64 (i + 1) = i + 1 := by have := HM.out; have := HI.out; unfold wrap64; omega
          exact ⟨wrap64 (i + 1), by first | rfl | (simp; done), ⟨by have := HI.out; omega⟩, ⟨fun j hj => by
          rw [hw] at hj
          by_cases e : j < i.toNat
          · exact HA.out j e
          · obtain rfl : j = i.toNat := by omega
            exact HPP.out⟩, HB1⟩
    · have hd : decide (i < (l0.length : Int)) = false := decide_eq_false hlt
      go_wp2
      go_ret
      exact ⟨ret_int (ixB_none z73 (fun j hj => HA.out j (by have := HI.out; omega))).symm, HB.out⟩

theorem own_Run1_calls (x0 x1 x2 x3 x4 x5 p a : Int) (B0 B1 : Nat) (w : World) (h0 : w.cell? ⟨B0, 0, none⟩ = some (.int .i64 p)) (h1 : w.cell? ⟨B1, 0, none⟩ = some (.int .i64 a)) :
    Calls Try.prog 79 #[.agg #[.int .u64 x0, .int .i64 x1, .int .i64 x2, .int .i64 x3, .int .i64 x4, .int .u64 x5], .pointer (some ⟨B0, 0, none⟩), .pointer (some ⟨B1, 0, none⟩)] w fun e w' => e = .returned (.bool (p != 1 && x1 == a)) ∧ Below w.heap.size w w' := by
  have hu73 := Try.underlying73
  have HB := Aside0.mk (Below.refl w.heap.size w)
  have hB0 : B0 < w.heap.size := World.block_lt_of_cell? w ⟨B0, 0, none⟩ h0
  have hB1 : B1 < w.heap.size := World.block_lt_of_cell? w ⟨B1, 0, none⟩ h1
  cases hp : p != 1 with
  | true =>
    go_enter Try.func79, Try.ntmps79
    go_wp2
    go_ret
    exact ⟨by rfl, by repeat (first | (with_reducible first | exact HB.out | apply below_alloc | apply pw_below_drewN | apply below_drew1) | exact HB.out)⟩
  | false =>
    go_enter Try.func79, Try.ntmps79
    go_wp2
    go_ret
    exact ⟨by rfl, by repeat (first | (with_reducible first | exact HB.out | apply below_alloc | apply pw_below_drewN | apply below_drew1) | exact HB.out)⟩
def own_Run.P (p a : Int) (x : S73) : Bool := p != 1 && x.f1 == a
def own_Run.f (a0 a1 : Int) (l2 : List S73) : Option Int := if (decide (a0 ≥ 1) && decide (a0 ≤ 4)) = true then (if ixB (own_Run.P a0 a1) l2 < 0 then some (l2.length : Int) else some (ixB (own_Run.P a0 a1) l2)) else some 0
set_option maxHeartbeats 8000000 in
set_option maxRecDepth 100000 in
theorem own_Run.calls (a0 a1 : Int) (A2 : Option Addr) (c2 : Nat) (l2 : List S73) (r : Int) (w : World) (hr2 : Kd.C k73 w A2 l2.length l2) (hc2 : l2.length ≤ c2) (h : own_Run.f a0 a1 l2 = some r) :
    Calls Try.prog 47 #[.int .i64 a0, .int .i64 a1, .slice A2 l2.length c2] w fun e w' => e = .returned (.int .i64 r) ∧ Below w.heap.size w w' := by
  have hu73 := Try.underlying73
  have HC2 := Aside0.mk hc2
  clear hc2
  unfold own_Run.f at h
  obtain ⟨W1, hW1⟩ : ∃ W1, W1 = (w.alloc (.cells #[.int .i64 a0] 3)).alloc (.cells #[.int .i64 a1] 3) := ⟨_, rfl⟩
  have HB1 : Aside0 (Below w.heap.size w W1) := ⟨by rw [hW1]; exact ((Below.refl w.heap.size w).alloc (Nat.le_refl _) _).alloc (by simp) _⟩
  have BK0 : Aside0 (W1.heap[w.heap.size]? = some (.cells #[.int .i64 a0] 3)) := ⟨by rw [hW1]; exact blk_alloc (blk_new w _) _⟩
  have BK1 : Aside0 (W1.heap[w.heap.size + 1]? = some (.cells #[.int .i64 a1] 3)) := ⟨by rw [hW1]; have := blk_new (w.alloc (.cells #[.int .i64 a0] 3)) (.cells #[.int .i64 a1] 3); simpa using this⟩
  have HI : Aside0 (∀ W, Below W1.heap.size W1 W → Calls Try.prog 78 #[.slice A2 l2.length c2, .func (.func 79) #[] #[.pointer (some ⟨w.heap.size, 0, none⟩), .pointer (some ⟨w.heap.size + 1, 0, none⟩)]] W fun e w' => e = .returned (.int .i64 (ixB (own_Run.P a0 a1) l2)) ∧ Below W.heap.size W w') := ⟨fun W hW => own_Run_idx A2 c2 l2 (own_Run.P a0 a1) _ _ W (Kd.C_below hr2 (below_step HB1.out hW)) (fun W2 x hb => own_Run1_calls _ _ _ _ _ _ a0 a1 _ _ W2 ((blk_cell (blk_below (blk_below BK0.out hW) hb) 0).trans rfl) ((blk_cell (blk_below (blk_below BK1.out hW) hb) 0).trans rfl))⟩
  have HIS : Aside0 (∀ W, Below W1.heap.size W1 W → Calls Try.prog 77 #[.int .i64 a0] W fun e w' => e = .returned (.bool (decide (a0 ≥ 1) && decide (a0 ≤ 4))) ∧ Below W.heap.size W w') := ⟨fun W hW => by
    obtain ⟨b, hb, e⟩ : ∃ b, own_is.f a0 = some b ∧ b = (decide (a0 ≥ 1) && decide (a0 ≤ 4)) := by
      unfold own_is.f
      by_cases h1 : a0 ≥ 1
      · rw [if_pos h1, decide_eq_true h1]; exact ⟨_, rfl, by simp⟩
      · rw [if_neg h1, decide_eq_false h1]; exact ⟨_, rfl, rfl⟩
    rw [← e]
    exact (own_is.calls a0 b W hb).mono fun e w' ⟨h1, h2⟩ => ⟨h1, h2.below⟩⟩
  have HW1 := Aside0.mk hW1
  have C0 := Aside0.mk (fun W (hb : Below W1.heap.size W1 W) => (blk_cell (blk_below BK0.out hb) 0 : W.cell? ⟨w.heap.size, 0, none⟩ = _))
  clear hW1 hr2
  generalize hB : (decide (a0 ≥ 1) && decide (a0 ≤ 4)) = b at *
  clear hB
  cases b with
  | false =>
    obtain rfl := Option.some.inj h
    clear h
    go_enter Try.func47, Try.ntmps47
    go_wp2_with (go_at_call 77; rw [← HW1.out]; refine (HIS.out _ (Below.refl _ _)).mono ?_; rintro e w1 ⟨rfl, hb⟩; have HB2 := Aside0.mk (below_step HB1.out hb); clear hb)
    go_ret
    exact ⟨rfl, HB2.out⟩
  | true =>
    rw [if_pos rfl] at h
    obtain ⟨i, hi⟩ : ∃ i, ixB (own_Run.P a0 a1) l2 = i := ⟨_, rfl⟩
    rw [hi] at h HI
    clear hi
    by_cases hneg : i < 0
    · rw [if_pos hneg] at h
      have hd : decide (i < 0) = true := decide_eq_true hneg
      obtain rfl := Option.some.inj h
      clear h
      go_enter Try.func47, Try.ntmps47
      go_wp2_with (first | (go_at_call 77; rw [← HW1.out]; refine (HIS.out _ (Below.refl _ _)).mono ?_; rintro e w1 ⟨rfl, hb⟩; have HBA := Aside0.mk hb; clear hb) | (go_at_call 78; refine (HI.out _ HBA.out).mono ?_; rintro e w2 ⟨rfl, hb⟩; have HB2 := Aside0.mk (below_step HB1.out (below_step HBA.out hb)); clear hb))
      go_ret
      exact ⟨rfl, HB2.out⟩
    · rw [if_neg hneg] at h
      have hd : decide (i < 0) = false := decide_eq_false hneg
      obtain rfl := Option.some.inj h
      clear h
      go_enter Try.func47, Try.ntmps47
      go_wp2_with (first | (go_at_call 77; rw [← HW1.out]; refine (HIS.out _ (Below.refl _ _)).mono ?_; rintro e w1 ⟨rfl, hb⟩; have HBA := Aside0.mk hb; clear hb) | (go_at_call 78; refine (HI.out _ HBA.out).mono ?_; rintro e w2 ⟨rfl, hb⟩; have HB2 := Aside0.mk (below_step HB1.out (below_step HBA.out hb)); clear hb))
      go_ret
      exact ⟨rfl, HB2.out⟩

/-! ### own_Drops: function 48 -/
def own_Drops.f (a0 : Int) : Option (Bool) := if a0 = 4 then (some true) else (if a0 = 3 then (some true) else (some false))
set_option maxHeartbeats 8000000 in
set_option maxRecDepth 100000 in
theorem own_Drops.calls (a0 : Int) (r : Bool) (w : World) (h : own_Drops.f a0 = some r) :
    Calls Try.prog 48 #[.int .i64 a0] w fun e w' => e = .returned (.bool r) ∧ Drawn0 w w' := by
  have H : (if a0 = 4 then (some true) else (if a0 = 3 then (some true) else (some false))) = some r := h
  clear h
  by_cases c2 : a0 = 4
  · rw [if_pos c2] at H
    have c2b0 : (a0 == 4) = true := beq_iff_eq.mpr c2
    have c2b1 : (a0 != 4) = false := bne_eq_false_iff_eq.mpr c2
    clear c2
    obtain rfl := Option.some.inj H
    go_enter Try.func48, Try.ntmps48
    go_wp2
    go_ret
    exact ⟨by first | rfl | (simp; done) | (simp [*]; done), by repeat (first | exact Drawn0.refl _ | apply Drawn0.step)⟩
  · rw [if_neg c2] at H
    have c2b0 : (a0 == 4) = false := beq_eq_false_iff_ne.mpr c2
    have c2b1 : (a0 != 4) = true := bne_iff_ne.mpr c2
    by_cases c3 : a0 = 3
    · rw [if_pos c3] at H
      have c3b0 : (a0 == 3) = true := beq_iff_eq.mpr c3
      have c3b1 : (a0 != 3) = false := bne_eq_false_iff_eq.mpr c3
      clear c3
      obtain rfl := Option.some.inj H
      go_enter Try.func48, Try.ntmps48
      go_wp2
      go_ret
      exact ⟨by first | rfl | (simp; done) | (simp [*]; done), by repeat (first | exact Drawn0.refl _ | apply Drawn0.step)⟩
    · rw [if_neg c3] at H
      have c3b0 : (a0 == 3) = false := beq_eq_false_iff_ne.mpr c3
      have c3b1 : (a0 != 3) = true := bne_iff_ne.mpr c3
      obtain rfl := Option.some.inj H
      go_enter Try.func48, Try.ntmps48
      go_wp2
      go_ret
      exact ⟨by first | rfl | (simp; done) | (simp [*]; done), by repeat (first | exact Drawn0.refl _ | apply Drawn0.step)⟩

/-! ### own_Stops: function 50 -/
def own_Stops.f (a0 : Int) : Option (Bool) := if a0 = 4 then (some true) else (if a0 = 2 then (some true) else (some false))
set_option maxHeartbeats 8000000 in
set_option maxRecDepth 100000 in
theorem own_Stops.calls (a0 : Int) (r : Bool) (w : World) (h : own_Stops.f a0 = some r) :
    Calls Try.prog 50 #[.int .i64 a0] w fun e w' => e = .returned (.bool r) ∧ Drawn0 w w' := by
  have H : (if a0 = 4 then (some true) else (if a0 = 2 then (some true) else (some false))) = some r := h
  clear h
  by_cases c2 : a0 = 4
  · rw [if_pos c2] at H
    have c2b0 : (a0 == 4) = true := beq_iff_eq.mpr c2
    have c2b1 : (a0 != 4) = false := bne_eq_false_iff_eq.mpr c2
    clear c2
    obtain rfl := Option.some.inj H
    go_enter Try.func50, Try.ntmps50
    go_wp2
    go_ret
    exact ⟨by first | rfl | (simp; done) | (simp [*]; done), by repeat (first | exact Drawn0.refl _ | apply Drawn0.step)⟩
  · rw [if_neg c2] at H
    have c2b0 : (a0 == 4) = false := beq_eq_false_iff_ne.mpr c2
    have c2b1 : (a0 != 4) = true := bne_iff_ne.mpr c2
    by_cases c3 : a0 = 2
    · rw [if_pos c3] at H
      have c3b0 : (a0 == 2) = true := beq_iff_eq.mpr c3
      have c3b1 : (a0 != 2) = false := bne_eq_false_iff_eq.mpr c3
      clear c3
      obtain rfl := Option.some.inj H
      go_enter Try.func50, Try.ntmps50
      go_wp2
      go_ret
      exact ⟨by first | rfl | (simp; done) | (simp [*]; done), by repeat (first | exact Drawn0.refl _ | apply Drawn0.step)⟩
    · rw [if_neg c3] at H
      have c3b0 : (a0 == 2) = false := beq_eq_false_iff_ne.mpr c3
      have c3b1 : (a0 != 2) = true := bne_iff_ne.mpr c3
      obtain rfl := Option.some.inj H
      go_enter Try.func50, Try.ntmps50
      go_wp2
      go_ret
      exact ⟨by first | rfl | (simp; done) | (simp [*]; done), by repeat (first | exact Drawn0.refl _ | apply Drawn0.step)⟩

/-! ### own_Meet: function 46 (by hand) -/
theorem run_copyN {P : Program} (w : World) (dT sT ty elem : TypeId) (z g dLen dCap : Nat) (A : Option Addr) (sLen sCap : Nat) (cur : Array Value) (t : TypeId) (cs : List Value)
    (hu : P.underlying dT = some (.slice elem)) (hs : (P.info? elem).map (·.size) = some z) (hg : w.heap[g]? = some (.cells cur t (0, 0))) (hn : Nat.min sLen dLen * z = cs.length) (hA : A = none → cs = [])
    (hsrc : ∀ a, A = some a → ∀ (j : Nat) v, cs[j]? = some v → w.cell? (a.add j) = some v) (hfit : cs.length ≤ cur.size) (h1 : ∀ v ∈ cs, v.oneCell' = true) :
    (Builtin.copy_ #[dT, sT] ty #[.slice (some ⟨g, 0, none⟩) dLen dCap, .slice A sLen sCap]).run P w = .ok (goInt (Nat.min sLen dLen)) (w.setRow g (cs ++ cur.toList.drop cs.length).toArray) := by
  cases hq : P.info? elem with
  | none => simp [hq] at hs
  | some i =>
    have hi : i.size = z := by simpa [hq] using hs
    cases A with
    | none =>
      obtain rfl := hA rfl
      have e : w.setRow g (([] : List Value) ++ cur.toList.drop ([] : List Value).length).toArray = w := by
        simp only [List.nil_append, List.length_nil, List.drop_zero, Array.toArray_toList]
        exact setRow_self w g cur t (0, 0) hg
      rw [e]
      simp [Builtin.copy_, run_underlying hu, Builtin.lenOf, Builtin.firstCells, sizeOf, typeInfo, hq, storeCells]
    | some a =>
      have hl := run_loadCells_list (P := P) w a cs (hsrc a rfl)
      have hst := run_storeCells_at P g 0 t cs 0 cur w hg (by simpa using hfit) h1
      simp only [Nat.add_zero, Nat.zero_add, List.take_zero, List.nil_append] at hst
      simp [Builtin.copy_, run_underlying hu, Builtin.lenOf, Builtin.firstCells, sizeOf, typeInfo, hq, hi, hn, hl, hst]
theorem copy_step {α : Type} (d : Kd α) (hflat : ∀ {w : World} {x : α} {cs : List Value}, d.K w x cs → ∀ (w' : World) (base : Nat) (ok : Nat → Prop), d.M w' base ok x cs)
    {P : Program} {W w0 : World} {ops : Array Oper} {rest : List Oper} {o : Oper} {a : Act} {Q : Exit → Act → World → Prop} (base e : Nat) (hgd : o.guard = none) (dO sO : Operand) (dT sT : TypeId)
    (ho : o.op = .call { callee := .builtin .copy, args := #[dO, sO], argTypes := #[dT, sT] }) (hu : P.underlying dT = some (.slice e)) (hsz : (P.info? e).map (·.size) = some d.sz)
    {v : Value} {A : Option Addr} {l ys : List α} {c1 : Nat} {ok : Nat → Prop} (hd : a.eval dO = v) (hs : a.eval sO = .slice A l.length c1) (hR : d.R e W base ok v ys) (hv : ∃ b, v.ownBlock = some b) (hC : d.C W A l.length l) (hn : ys.length ≤ l.length) (HB : Below base w0 W)
    (h : ∀ w1, d.R e w1 base ok v (l.take ys.length) → Below base w0 w1 → wpList P ops Q rest (a.put o.dst (goInt ys.length)) w1) : wpList P ops Q (o :: rest) a W := by
  obtain ⟨h0, inner, how, hr⟩ := hR
  obtain ⟨hil, hcase⟩ := how
  rcases hcase with ⟨rfl, _⟩ | ⟨g, cap, cur, rfl, hbg, hg, hnc, hcm, hcs, htk⟩
  · obtain ⟨b, hb⟩ := hv
    simp [Value.ownBlock] at hb
  have hlt : (l.take ys.length).length = ys.length := by rw [List.length_take]; omega
  have hCt : ReadsRow (d.K W) d.sz W A ys.length (l.take ys.length) := by
    refine ⟨hlt, Nat.le_trans hn hC.2.1, fun hp => ?_⟩
    obtain ⟨ad, e1, hc⟩ := hC.2.2 (by omega)
    refine ⟨ad, e1, fun j p hj => hc j p ?_⟩
    rw [List.getElem?_take] at hj
    split at hj
    · exact hj
    · cases hj
  obtain ⟨cs, hrep, hnone, hrd⟩ : ∃ cs, Reps (d.K W) d.sz (l.take ys.length) cs ∧ (A = none → cs = []) ∧ ∀ a, A = some a → ∀ (j : Nat) v, cs[j]? = some v → W.cell? (a.add j) = some v := by
    cases A with
    | none =>
      have hz : ys.length = 0 := by
        rcases Nat.eq_zero_or_pos ys.length with hz | hz
        · exact hz
        · obtain ⟨ad, e1, _⟩ := hCt.2.2 hz
          cases e1
      rw [hz, List.take_zero]
      exact ⟨[], Reps.none _ _, fun _ => rfl, fun a e1 => (by cases e1)⟩
    | some ad =>
      obtain ⟨cs, h1, h2⟩ := ReadsRow.inner_ hCt
      exact ⟨cs, h1, fun e1 => (by cases e1), fun a e1 => (by cases e1; exact h2)⟩
  have hcl : cs.length = ys.length * d.sz := by rw [hrep.1, hlt]
  have hle : ys.length * d.sz ≤ cap * d.sz := Nat.mul_le_mul_right _ hnc
  have hone : ∀ u ∈ cs, u.oneCell' = true := by
    intro u hu2
    obtain ⟨i, hi, rfl⟩ := List.getElem_of_mem hu2
    have hp : 0 < d.sz := by
      rcases Nat.eq_zero_or_pos d.sz with hz | hz
      · rw [hcl, hz] at hi; simp at hi
      · exact hz
    have hj : i / d.sz < ys.length := by rw [Nat.div_lt_iff_lt_mul hp]; omega
    have hj2 : i / d.sz < (l.take ys.length).length := by omega
    have hk := hrep.2 (i / d.sz) _ (List.getElem?_eq_getElem hj2)
    refine d.K_one hk _ ?_
    have hm := Nat.mod_lt i hp
    have hdm : i / d.sz * d.sz + i % d.sz = i := by rw [Nat.mul_comm]; exact Nat.div_add_mod i d.sz
    refine List.mem_of_getElem? (i := i % d.sz) ?_
    rw [List.getElem?_take, if_pos hm, List.getElem?_drop, hdm, List.getElem?_eq_getElem hi]
  have hmin : Nat.min l.length ys.length = ys.length := Nat.min_eq_right hn
  have hrun := run_copyN (P := P) W dT sT o.type e d.sz g ys.length cap A l.length c1 cur e cs hu hsz hg (by rw [hcl, hmin]) hnone hrd (by rw [hcs, hcl]; exact hle) hone
  rw [hmin] at hrun
  refine wpList_plain hgd fun K hK => ?_
  unfold Oper.wp
  simp [execOp, ho, resolve, invoke, builtin, hd, hs, hrun, Result.andThen]
  refine hK _ _ (h _ ⟨h0, cs, ⟨by rw [hlt, hcl], Or.inr ⟨g, cap, _, by rw [hlt], hbg, setRow_heap W g cur _ e _ hg, by rw [hlt]; exact hnc, hcm, ?_, ?_⟩⟩, hrep.imp_ (fun p c hp => hflat hp _ _ _)⟩ (HB.trans ⟨rfl, rfl, rfl, by simp [World.setRow], fun k hk => setRow_other W g k _ (by omega)⟩))
  · simp [hcs, hcl]; omega
  · rw [hlt, ← hcl]; simp
theorem k73_flat {w : World} {x : S73} {cs : List Value} (h : k73.K w x cs) (w' : World) (base : Nat) (ok : Nat → Prop) : k73.M w' base ok x cs := by
  obtain rfl := k73_open h
  exact k73_mkM w' base ok x
def own_Meet.f (a0 a1 : Int) (l2 : List S73) : Option (List S73 × List Int × Bool) := (own_is.f a0).bind fun b => if b = true then (own_Run.f a0 a1 l2).bind fun n => (if 0 ≤ n ∧ n ≤ (l2.length : Int) ∧ n ≤ 1000000000000 then (if n = (l2.length : Int) then some (l2.take n.toNat, [], false) else (own_Drops.f a0).bind fun d => (own_Stops.f a0).bind fun s => some (l2.take n.toNat, if d = true then [(rd_T73 l2 n).f0] else [], s)) else none) else some ([], [], true)
set_option maxHeartbeats 8000000 in
set_option maxRecDepth 100000 in
theorem own_Meet.calls (a0 a1 : Int) (A2 : Option Addr) (c2 : Nat) (l2 : List S73) (r1 : List S73) (r2 : List Int) (r3 : Bool) (w : World) (hr2 : Kd.C k73 w A2 l2.length l2) (hc2 : l2.length ≤ c2) (h : own_Meet.f a0 a1 l2 = some (r1, r2, r3)) :
    Calls Try.prog 46 #[.int .i64 a0, .int .i64 a1, .slice A2 l2.length c2] w fun e w' => ∃ v0_ v1_ : Value, e = .returned (.tuple #[v0_, v1_, .bool r3]) ∧ Kd.R k73 73 w' w.heap.size (fun _ => True) v0_ r1 ∧ Kd.R (Kd.int .u64) 31 w' w.heap.size (fun _ => True) v1_ r2 ∧ Below w.heap.size w w' := by
  have hu73 := Try.underlying73
  have inf := Aside0.mk (show (Try.prog.info? 31).map (fun i => (i.zero, i.size, i.bytes)) = some (some (.int .u64 0), 1, 8) by kernel_rfl)
  have infO := Aside0.mk (show (Try.prog.info? 73).map (fun i => (i.zero, i.size, i.bytes)) = some (some (.agg #[.int .u64 0, .int .i64 0, .int .i64 0, .int .i64 0, .int .i64 0, .int .u64 0]), 6, 48) by kernel_rfl)
  have infS := Aside0.mk (show (Try.prog.info? 73).map (·.size) = some 6 by kernel_rfl)
  have HR := Aside0.mk hr2
  have HC := Aside0.mk hc2
  unfold own_Meet.f at h
  obtain ⟨b, hb, h2⟩ := Option.bind_eq_some_iff.mp h
  have HI : Aside0 (∀ W, Calls Try.prog 77 #[.int .i64 a0] W fun e w' => e = .returned (.bool b) ∧ Drawn0 W w') := ⟨fun W => own_is.calls a0 b W hb⟩
  clear h hb
  cases b with
  | false =>
    rw [if_neg (by decide)] at h2
    simp only [Option.some.injEq, Prod.mk.injEq] at h2
    obtain ⟨rfl, rfl, rfl⟩ := h2
    clear hr2 hc2
    go_enter Try.func46, Try.ntmps46
    go_wp2_with (go_at_call 77; refine (HI.out _).mono ?_; rintro e w1 ⟨rfl, hb⟩; have HB1 := Aside0.mk hb.below; clear hb)
    go_ret3
    exact ⟨_, _, rfl, Kd.R_nil _ _ _ _ _, Kd.R_nil _ _ _ _ _, HB1.out⟩
  | true =>
    rw [if_pos rfl] at h2
    obtain ⟨n, hn, h3⟩ := Option.bind_eq_some_iff.mp h2
    clear h2
    have HRun : Aside0 (∀ W, Below w.heap.size w W → Calls Try.prog 47 #[.int .i64 a0, .int .i64 a1, .slice A2 l2.length c2] W fun e w' => e = .returned (.int .i64 n) ∧ Below W.heap.size W w') := ⟨fun W hb => own_Run.calls a0 a1 A2 c2 l2 n W (Kd.C_below hr2 hb) hc2 hn⟩
    clear hn hr2 hc2
    by_cases hr : 0 ≤ n ∧ n ≤ (l2.length : Int) ∧ n ≤ 1000000000000
    · rw [if_pos hr] at h3
      have HRG := Aside0.mk hr
      obtain ⟨ys, hys⟩ : ∃ ys : List S73, ys = List.replicate n.toNat z73 := ⟨_, rfl⟩
      have HYL : Aside0 ((ys.length : Int) = n) := ⟨by rw [hys, List.length_replicate]; omega⟩
      have HYS := Aside0.mk hys
      clear hr hys
      by_cases c1 : n = (l2.length : Int)
      · rw [if_pos c1] at h3
        have d1 : (n == (l2.length : Int)) = true := beq_iff_eq.mpr c1
        simp only [Option.some.injEq, Prod.mk.injEq] at h3
        obtain ⟨rfl, rfl, rfl⟩ := h3
        clear c1
        go_enter Try.func46, Try.ntmps46
        go_wp2_with (first | (go_at_call 77; refine (HI.out _).mono ?_; rintro e w1 ⟨rfl, hb⟩; have HB1 := Aside0.mk hb.below; clear hb) | (go_at_call 47; refine (HRun.out _ HB1.out).mono ?_; rintro e w2 ⟨rfl, hb⟩; have HB2 := Aside0.mk (below_step HB1.out hb); clear hb) | ((with_reducible refine gate_dst (N := 18) rfl ?_); refine Kd.R_make k73 _ 73 rfl (N := 18) rfl 62 _ _ rfl n rfl rfl Try.underlying62 (.agg #[.int .u64 0, .int .i64 0, .int .i64 0, .int .i64 0, .int .i64 0, .int .u64 0]) 48 infO.out rfl (by decide) (by omega) z73 (ok := fun _ => True) (okp := fun _ => True) (k73_mkM _ _ _ z73) (fun _ hk => hk) trivial HRG.out.1 (by have := HRG.out; omega) (Below.refl _ _) (Nat.le_refl _) ?_; intro v7 w7 ho8 hb hg_ hnew_; clear hg_; rw [← HYS.out] at ho8; have HO := Aside0.mk (Kd.R_lower ho8 (below_size HB2.out)); have HV : Aside0 (∃ b, v7.ownBlock = some b) := ⟨by obtain ⟨b, hb, _⟩ := hnew_; exact ⟨b, hb⟩⟩; have HB7 := Aside0.mk (below_step HB2.out hb); clear hb ho8 hnew_) | ((with_reducible refine gate_builtin (b := .copy) (xs := #[.tmp 19, .tmp 20]) rfl ?_); refine copy_step k73 (fun h w' b o => k73_flat h w' b o) w.heap.size 73 rfl (.tmp 19) (.tmp 20) 62 62 rfl Try.underlying62 infS.out (v := v7) (A := A2) (l := l2) (ys := ys) (c1 := c2) (ok := fun _ => True) rfl rfl HO.out HV.out (Kd.C_below HR.out HB7.out) (by have := HYL.out; have := HRG.out; omega) HB7.out ?_; intro w8 ho9 hb9; have HO9 := Aside0.mk ho9; have HB8 := Aside0.mk hb9; clear ho9 hb9))
        go_ret3
        exact ⟨_, _, rfl, by rw [show n.toNat = ys.length by have := HYL.out; omega]; exact HO9.out, Kd.R_nil _ _ _ _ _, HB8.out⟩
      · rw [if_neg c1] at h3
        have d1 : (n == (l2.length : Int)) = false := beq_eq_false_iff_ne.mpr c1
        obtain ⟨d, hd, h4⟩ := Option.bind_eq_some_iff.mp h3
        obtain ⟨s, hs, h5⟩ := Option.bind_eq_some_iff.mp h4
        have HD : Aside0 (∀ W, Calls Try.prog 48 #[.int .i64 a0] W fun e w' => e = .returned (.bool d) ∧ Drawn0 W w') := ⟨fun W => own_Drops.calls a0 d W hd⟩
        have HSt : Aside0 (∀ W, Calls Try.prog 50 #[.int .i64 a0] W fun e w' => e = .returned (.bool s) ∧ Drawn0 W w') := ⟨fun W => own_Stops.calls a0 s W hs⟩
        simp only [Option.some.injEq, Prod.mk.injEq] at h5
        obtain ⟨rfl, h6, rfl⟩ := h5
        have hlt : n < (l2.length : Int) := by have := HRG.out; omega
        obtain ⟨ad, e1, hx0, _, _, _, _, _⟩ := at_T73 HR.out n HRG.out.1 hlt
        subst e1
        have p1 := eq_true HRG.out.1
        have p2 := eq_true hlt
        have HX := Aside0.mk (fun W (hb : Below w.heap.size w W) => (hb.cell (World.block_lt_of_cell? w _ hx0)).trans hx0)
        clear h3 h4 hd hs c1 hlt hx0
        cases d with
        | true =>
          rw [if_pos rfl] at h6
          subst h6
          go_enter Try.func46, Try.ntmps46
          go_upto_region 6 with (first | (go_at_call 77; refine (HI.out _).mono ?_; rintro e w1 ⟨rfl, hb⟩; have HB1 := Aside0.mk hb.below; clear hb) | (go_at_call 47; refine (HRun.out _ HB1.out).mono ?_; rintro e w2 ⟨rfl, hb⟩; have HB2 := Aside0.mk (below_step HB1.out hb); clear hb) | ((with_reducible refine gate_dst (N := 18) rfl ?_); refine Kd.R_make k73 _ 73 rfl (N := 18) rfl 62 _ _ rfl n rfl rfl Try.underlying62 (.agg #[.int .u64 0, .int .i64 0, .int .i64 0, .int .i64 0, .int .i64 0, .int .u64 0]) 48 infO.out rfl (by decide) (by omega) z73 (ok := fun _ => True) (okp := fun _ => True) (k73_mkM _ _ _ z73) (fun _ hk => hk) trivial HRG.out.1 (by have := HRG.out; omega) (Below.refl _ _) (Nat.le_refl _) ?_; intro v7 w7 ho8 hb hg_ hnew_; clear hg_; rw [← HYS.out] at ho8; have HO := Aside0.mk (Kd.R_lower ho8 (below_size HB2.out)); have HV : Aside0 (∃ b, v7.ownBlock = some b) := ⟨by obtain ⟨b, hb, _⟩ := hnew_; exact ⟨b, hb⟩⟩; have HB7 := Aside0.mk (below_step HB2.out hb); clear hb ho8 hnew_) | ((with_reducible refine gate_builtin (b := .copy) (xs := #[.tmp 19, .tmp 20]) rfl ?_); refine copy_step k73 (fun h w' b o => k73_flat h w' b o) w.heap.size 73 rfl (.tmp 19) (.tmp 20) 62 62 rfl Try.underlying62 infS.out (v := v7) (A := some ad) (l := l2) (ys := ys) (c1 := c2) (ok := fun _ => True) rfl rfl HO.out HV.out (Kd.C_below HR.out HB7.out) (by have := HYL.out; have := HRG.out; omega) HB7.out ?_; intro w8 ho9 hb9; have HO9 := Aside0.mk ho9; have HB8 := Aside0.mk hb9; clear ho9 hb9))
          go_wp2_with (first | (go_at_call 48; refine (HD.out _).mono ?_; rintro e w9 ⟨rfl, hb⟩; have HB9 := Aside0.mk (below_step HB8.out hb.below); have HOA := Aside0.mk (Kd.R_below HO9.out hb.below); have hx1 := HX.out _ HB9.out; clear hb) | ((with_reducible refine gate_builtin (b := .append) (xs := #[.tmp 29, .tmp 35]) rfl ?_); at_builtin; refine Kd.R_append (Kd.int .u64) (w0 := w) w.heap.size rfl (.tmp 29) (.tmp 35) 66 31 (.int .u64 0) 8 rfl Try.underlying66 inf.out rfl (by decide) (by omega) (.slice none 0 0) ([] : List Int) (rd_T73 l2 n).f0 [.int .u64 (rd_T73 l2 n).f0] (fun _ => True) (fun _ => False) rfl rfl rfl (fun _ hk => hk.elim) (fun _ _ => trivial) (Kd.R_nil _ _ _ _ _) HB9.out (below_size HB9.out) (by simp) ?_; intro vB wB hoB hbB hgB hatB; have HOD := Aside0.mk hoB; have HBB := Aside0.mk hbB; have HGB := Aside0.mk hgB; clear hoB hbB hgB hatB) | (go_at_call 50; refine (HSt.out _).mono ?_; rintro e wA ⟨rfl, hb⟩; have HBA := Aside0.mk (below_step HBB.out hb.below); have HOE := Aside0.mk (Kd.R_below HOD.out hb.below); have HOF := Aside0.mk (Kd.R_below (Kd.R_grown HOA.out HGB.out (fun k _ => by simp [Value.ownBlock])) hb.below); clear hb))
          go_ret3
          exact ⟨_, _, rfl, by rw [show n.toNat = ys.length by have := HYL.out; omega]; exact HOF.out, HOE.out, HBA.out⟩
        | false =>
          rw [if_neg (by decide)] at h6
          subst h6
          go_enter Try.func46, Try.ntmps46
          go_upto_region 6 with (first | (go_at_call 77; refine (HI.out _).mono ?_; rintro e w1 ⟨rfl, hb⟩; have HB1 := Aside0.mk hb.below; clear hb) | (go_at_call 47; refine (HRun.out _ HB1.out).mono ?_; rintro e w2 ⟨rfl, hb⟩; have HB2 := Aside0.mk (below_step HB1.out hb); clear hb) | ((with_reducible refine gate_dst (N := 18) rfl ?_); refine Kd.R_make k73 _ 73 rfl (N := 18) rfl 62 _ _ rfl n rfl rfl Try.underlying62 (.agg #[.int .u64 0, .int .i64 0, .int .i64 0, .int .i64 0, .int .i64 0, .int .u64 0]) 48 infO.out rfl (by decide) (by omega) z73 (ok := fun _ => True) (okp := fun _ => True) (k73_mkM _ _ _ z73) (fun _ hk => hk) trivial HRG.out.1 (by have := HRG.out; omega) (Below.refl _ _) (Nat.le_refl _) ?_; intro v7 w7 ho8 hb hg_ hnew_; clear hg_; rw [← HYS.out] at ho8; have HO := Aside0.mk (Kd.R_lower ho8 (below_size HB2.out)); have HV : Aside0 (∃ b, v7.ownBlock = some b) := ⟨by obtain ⟨b, hb, _⟩ := hnew_; exact ⟨b, hb⟩⟩; have HB7 := Aside0.mk (below_step HB2.out hb); clear hb ho8 hnew_) | ((with_reducible refine gate_builtin (b := .copy) (xs := #[.tmp 19, .tmp 20]) rfl ?_); refine copy_step k73 (fun h w' b o => k73_flat h w' b o) w.heap.size 73 rfl (.tmp 19) (.tmp 20) 62 62 rfl Try.underlying62 infS.out (v := v7) (A := some ad) (l := l2) (ys := ys) (c1 := c2) (ok := fun _ => True) rfl rfl HO.out HV.out (Kd.C_below HR.out HB7.out) (by have := HYL.out; have := HRG.out; omega) HB7.out ?_; intro w8 ho9 hb9; have HO9 := Aside0.mk ho9; have HB8 := Aside0.mk hb9; clear ho9 hb9))
          go_wp2_with (first | (go_at_call 48; refine (HD.out _).mono ?_; rintro e w9 ⟨rfl, hb⟩; have HB9 := Aside0.mk (below_step HB8.out hb.below); have HOA := Aside0.mk (Kd.R_below HO9.out hb.below); clear hb) | (go_at_call 50; refine (HSt.out _).mono ?_; rintro e wA ⟨rfl, hb⟩; have HBA := Aside0.mk (below_step HB9.out hb.below); have HOB := Aside0.mk (Kd.R_below HOA.out hb.below); clear hb))
          go_ret3
          exact ⟨_, _, rfl, by rw [show n.toNat = ys.length by have := HYL.out; omega]; exact HOB.out, Kd.R_nil _ _ _ _ _, HBA.out⟩
    · rw [if_neg hr] at h3; cases h3

/-! ### coin_Capped: function 80 -/
def coin_Capped.f (a0 : Int) (a1 : Int) : Option (Int) := if (mn a0 a1) < 0 then (some 0) else (if (mx a0 a1) > 4611686018427387904 then (some 0) else (some (wrap64 (a0 + (mn a1 (wrap64 (4611686018427387904 - a0)))))))
set_option maxHeartbeats 8000000 in
set_option maxRecDepth 100000 in
theorem coin_Capped.calls (a0 : Int) (a1 : Int) (r : Int) (w : World) (h : coin_Capped.f a0 a1 = some r) :
    Calls Try.prog 80 #[.int .i64 a0, .int .i64 a1] w fun e w' => e = .returned (.int .i64 r) ∧ Below w.heap.size w w' := by
  have HB := Aside0.mk (Below.refl w.heap.size w)
  have H : (if (mn a0 a1) < 0 then (some 0) else (if (mx a0 a1) > 4611686018427387904 then (some 0) else (some (wrap64 (a0 + (mn a1 (wrap64 (4611686018427387904 - a0)))))))) = some r := h
  clear h
  obtain ⟨ji3, hji3⟩ : ∃ j_ : Int, (mn a0 a1) = j_ := ⟨_, rfl⟩
  replace H : (if (ji3) < 0 then (some 0) else (if (mx a0 a1) > 4611686018427387904 then (some 0) else (some (wrap64 (a0 + (mn a1 (wrap64 (4611686018427387904 - a0)))))))) = some r := by first | (rw [hji3] at H; exact H) | (simp only [hji3] at H ⊢; exact H)
  have hji3_ : (if a1 < a0 then a1 else a0) = ji3 := hji3
  by_cases c4 : (ji3) < 0
  · rw [if_pos c4] at H
    have c4b0 : decide ((ji3) < 0) = true := decide_eq_true c4
    clear c4
    obtain rfl := Option.some.inj H
    go_enter Try.func80, Try.ntmps80
    go_wp2
    go_ret
    exact ⟨by first | rfl | (simp [errW_none, errW_some] <;> rfl) | (simp only [← hji3]; first | rfl | (simp [errW_none, errW_some] <;> rfl)) | (simp [*, errW_none, errW_some] <;> rfl), by repeat (first | (with_reducible first | exact HB.out | apply below_alloc | apply pw_below_drewN | apply below_drew1) | exact HB.out)⟩
  · rw [if_neg c4] at H
    have c4b0 : decide ((ji3) < 0) = false := decide_eq_false c4
    clear c4
    obtain ⟨ji5, hji5⟩ : ∃ j_ : Int, (mx a0 a1) = j_ := ⟨_, rfl⟩
    replace H : (if (ji5) > 4611686018427387904 then (some 0) else (some (wrap64 (a0 + (mn a1 (wrap64 (4611686018427387904 - a0))))))) = some r := by first | (rw [hji5] at H; exact H) | (simp only [hji5] at H ⊢; exact H)
    have hji5_ : (if a0 < a1 then a1 else a0) = ji5 := hji5
    by_cases c6 : (ji5) > 4611686018427387904
    · rw [if_pos c6] at H
      have c6b0 : decide (4611686018427387904 < (ji5)) = true := decide_eq_true c6
      clear c6
      obtain rfl := Option.some.inj H
      go_enter Try.func80, Try.ntmps80
      go_wp2
      go_ret
      exact ⟨by first | rfl | (simp [errW_none, errW_some] <;> rfl) | (simp only [← hji3, ← hji5]; first | rfl | (simp [errW_none, errW_some] <;> rfl)) | (simp [*, errW_none, errW_some] <;> rfl), by repeat (first | (with_reducible first | exact HB.out | apply below_alloc | apply pw_below_drewN | apply below_drew1) | exact HB.out)⟩
    · rw [if_neg c6] at H
      have c6b0 : decide (4611686018427387904 < (ji5)) = false := decide_eq_false c6
      clear c6
      obtain ⟨ji7, hji7⟩ : ∃ j_ : Int, (mn a1 (wrap64 (4611686018427387904 - a0))) = j_ := ⟨_, rfl⟩
      replace H : (some (wrap64 (a0 + (ji7)))) = some r := by first | (rw [hji7] at H; exact H) | (simp only [hji7] at H ⊢; exact H)
      have hji7_ : (if (wrap64 (4611686018427387904 - a0)) < a1 then (wrap64 (4611686018427387904 - a0)) else a1) = ji7 := hji7
      obtain rfl := Option.some.inj H
      go_enter Try.func80, Try.ntmps80
      go_wp2
      go_ret
      exact ⟨by first | rfl | (simp [errW_none, errW_some] <;> rfl) | (simp only [← hji3, ← hji5, ← hji7]; first | rfl | (simp [errW_none, errW_some] <;> rfl)) | (simp [*, errW_none, errW_some] <;> rfl), by repeat (first | (with_reducible first | exact HB.out | apply below_alloc | apply pw_below_drewN | apply below_drew1) | exact HB.out)⟩

/-! ### limits_Trim: function 81 -/
def limits_Trim.f (a0 : Int) (a1 : Int) : Option (Int) := if (mn a0 a1) < 1 then (some 0) else (if a0 = 0 then (none) else (some (wrap64 (a1 - (Int.tmod a1 a0)))))
set_option maxHeartbeats 8000000 in
set_option maxRecDepth 100000 in
theorem limits_Trim.calls (a0 : Int) (a1 : Int) (r : Int) (w : World) (h : limits_Trim.f a0 a1 = some r) :
    Calls Try.prog 81 #[.int .i64 a0, .int .i64 a1] w fun e w' => e = .returned (.int .i64 r) ∧ Below w.heap.size w w' := by
  have HB := Aside0.mk (Below.refl w.heap.size w)
  have H : (if (mn a0 a1) < 1 then (some 0) else (if a0 = 0 then (none) else (some (wrap64 (a1 - (Int.tmod a1 a0)))))) = some r := h
  clear h
  obtain ⟨ji3, hji3⟩ : ∃ j_ : Int, (mn a0 a1) = j_ := ⟨_, rfl⟩
  replace H : (if (ji3) < 1 then (some 0) else (if a0 = 0 then (none) else (some (wrap64 (a1 - (Int.tmod a1 a0)))))) = some r := by first | (rw [hji3] at H; exact H) | (simp only [hji3] at H ⊢; exact H)
  have hji3_ : (if a1 < a0 then a1 else a0) = ji3 := hji3
  by_cases c4 : (ji3) < 1
  · rw [if_pos c4] at H
    have c4b0 : decide ((ji3) < 1) = true := decide_eq_true c4
    clear c4
    obtain rfl := Option.some.inj H
    go_enter Try.func81, Try.ntmps81
    go_wp2
    go_ret
    exact ⟨by first | rfl | (simp [errW_none, errW_some] <;> rfl) | (simp only [← hji3]; first | rfl | (simp [errW_none, errW_some] <;> rfl)) | (simp [*, errW_none, errW_some] <;> rfl), by repeat (first | (with_reducible first | exact HB.out | apply below_alloc | apply pw_below_drewN | apply below_drew1) | exact HB.out)⟩
  · rw [if_neg c4] at H
    have c4b0 : decide ((ji3) < 1) = false := decide_eq_false c4
    clear c4
    by_cases c5 : a0 = 0
    · rw [if_pos c5] at H
      exact absurd H (by simp)
    · rw [if_neg c5] at H
      have c5b0 : (a0 == 0) = false := beq_eq_false_iff_ne.mpr c5
      have c5b1 : (a0 != 0) = true := bne_iff_ne.mpr c5
      obtain rfl := Option.some.inj H
      go_enter Try.func81, Try.ntmps81
      go_wp2
      go_ret
      exact ⟨by first | rfl | (simp [errW_none, errW_some] <;> rfl) | (simp only [← hji3]; first | rfl | (simp [errW_none, errW_some] <;> rfl)) | (simp [*, errW_none, errW_some] <;> rfl), by repeat (first | (with_reducible first | exact HB.out | apply below_alloc | apply pw_below_drewN | apply below_drew1) | exact HB.out)⟩

/-! ### own_Reach: function 53 (by hand) -/
theorem jump_ret_intro {l : Nat} {J : Act → World → Prop} {Q : Exit → Act → World → Prop} {a : Act} {w : World} (h : Q .ret a w) : Exit.jump l J Q .ret a w := h
theorem wp_scope_once {P : Program} {a : Act} {w : World} {Q : Exit → Act → World → Prop} {c rest : Code} (l : Nat) (J : Act → World → Prop) (μ : Act → World → Nat) (hf : findLabel c l = some (Code.seq .skip rest))
    (pass : ∀ a w, J a w → rest.wp P (Exit.jump l (fun a' w' => J a' w' ∧ μ a' w' < μ a w) Q) a w)
    (first : (∀ a w, J a w → rest.wp P (Exit.jump l J Q) a w) → c.wp P (Exit.jump l J Q) a w) : (Code.scope c).wp P Q a w :=
  wp_scope_jumps l J μ hf (first (fun a w h => wp_mono (pass a w h) (fun e a' w' hq => by cases e <;> first | exact hq | exact ⟨hq.1, hq.2.1⟩))) (fun a w h => wp_seq (wp_skip (pass a w h)))
theorem cut_hi {P : Program} (t e : TypeId) (z : Nat) (ht : P.underlying t = some (.slice e)) (hs : (P.info? e).map (·.size) = some z) (A : Option Addr) (n c : Nat) (j : Int) (h0 : 0 ≤ j) (hc : j ≤ c) (W : World) :
    (Instr.slice t (.slice A n c) none (some (.int .i64 j)) none).run P W = .ok (.slice A j.toNat c) W := by
  cases hq : P.info? e with
  | none => simp [hq] at hs
  | some i =>
    have hel : P.elem t = e := by simp [Program.elem, ht]
    have hu : P.underlying t = some (.slice (P.elem t)) := by rw [hel]; exact ht
    have ha : (A.map fun x => x.add 0) = A := by cases A <;> simp [Addr.add]
    rw [run_slice_h W t A n c hu .i64 j h0 hc, hel]
    simp [sizeOf, typeInfo, hq, sliced, Result.andThen, ha]
theorem cut_lo {P : Program} (t e : TypeId) (z : Nat) (ht : P.underlying t = some (.slice e)) (hs : (P.info? e).map (·.size) = some z) (A : Option Addr) (n c : Nat) (j : Int) (h0 : 0 ≤ j) (hc : j ≤ n) (W : World) :
    (Instr.slice t (.slice A n c) (some (.int .i64 j)) none none).run P W = .ok (.slice (if c = j.toNat then A else A.map (·.add (j.toNat * z))) (n - j.toNat) (c - j.toNat)) W := by
  cases hq : P.info? e with
  | none => simp [hq] at hs
  | some i =>
    have hi : i.size = z := by simpa [hq] using hs
    have hel : P.elem t = e := by simp [Program.elem, ht]
    have hu : P.underlying t = some (.slice (P.elem t)) := by rw [hel]; exact ht
    rw [run_slice_l W t A n c hu .i64 j h0 hc, hel]
    simp [sizeOf, typeInfo, hq, hi, sliced, Result.andThen]
def rcSum (lot : Int) : List S73 → Int → Option Int
  | [], q => some q
  | o :: l, q => (limits_Trim.f lot o.f4).bind fun t => (coin_Capped.f q (mn t 4611686018427387904)).bind fun q' => rcSum lot l q'
def own_Reach.go (a0 a1 lot : Int) : Nat → List S73 → Int → Option (Int × Bool)
  | 0, _, _ => none
  | k + 1, l, q => (own_Run.f a0 a1 l).bind fun n => if 0 ≤ n ∧ n ≤ (l.length : Int) then (rcSum lot (l.take n.toNat) q).bind fun q' => (if n = (l.length : Int) then some (q', false) else (own_Stops.f a0).bind fun s => if s = true then some (q', true) else own_Reach.go a0 a1 lot k (l.drop (n + 1).toNat) q') else none
def own_Reach.f (a0 a1 : Int) (l2 : List S73) (a3 : Int) : Option (Int × Bool) := (own_is.f a0).bind fun b => if b = true then own_Reach.go a0 a1 a3 (l2.length + 1) l2 0 else some (0, true)
theorem rc_drop {lot : Int} {l : List S73} {i q : Int} (h0 : 0 ≤ i) (h1 : i < (l.length : Int)) : rcSum lot (l.drop i.toNat) q = (limits_Trim.f lot (rd_T73 l i).f4).bind fun t => (coin_Capped.f q (mn t 4611686018427387904)).bind fun q' => rcSum lot (l.drop (i + 1).toNat) q' := by
  have hl : i.toNat < l.length := by omega
  rw [List.drop_eq_getElem_cons hl, rcSum, show (i + 1).toNat = i.toNat + 1 by omega]
  have e : rd_T73 l i = l[i.toNat] := by unfold rd_T73; simp [hl]
  rw [e]
def lenAt2 (a : Act) : Nat := match a.tmps.getD 2 undef with | .slice _ n _ => n | _ => 0
def own_Reach.J (a0 a1 lot : Int) (r1 : Int) (r2 : Bool) (w : World) (a' : Act) (w' : World) : Prop := ∃ (A : Option Addr) (c : Nat) (l : List S73) (q : Int) (k : Nat) (u4 u5 u6 u7 u9 u10 u11 u12 u13 u14 u15 u16 u17 u18 u19 u20 u21 u22 u23 u24 u25 u26 u27 u28 u29 u30 u31 u32 u33 u34 u35 u36 u37 u38 u39 u40 u41 u42 u43 u44 u45 u46 u47 u48 u49 : Value), a' = { tmps := #[.int .i64 a0, .int .i64 a1, .slice A l.length c, .int .i64 lot, u4, u5, u6, u7, .int .i64 q, u9, u10, u11, u12, u13, u14, u15, u16, u17, u18, u19, u20, u21, u22, u23, u24, u25, u26, u27, u28, u29, u30, u31, u32, u33, u34, u35, u36, u37, u38, u39, u40, u41, u42, u43, u44, u45, u46, u47, u48, u49], defers := [] } ∧ Aside0 (Kd.C k73 w A l.length l) ∧ Aside0 (l.length ≤ c) ∧ Aside0 (own_Reach.go a0 a1 lot k l q = some (r1, r2)) ∧ Aside0 (Below w.heap.size w w')
set_option maxHeartbeats 8000000 in
set_option maxRecDepth 100000 in
theorem own_Reach.calls (a0 a1 : Int) (A2 : Option Addr) (c2 : Nat) (l2 : List S73) (a3 : Int) (r1 : Int) (r2 : Bool) (w : World) (hr2 : Kd.C k73 w A2 l2.length l2) (hc2 : l2.length ≤ c2) (h : own_Reach.f a0 a1 l2 a3 = some (r1, r2)) :
    Calls Try.prog 53 #[.int .i64 a0, .int .i64 a1, .slice A2 l2.length c2, .int .i64 a3] w fun e w' => e = .returned (.tuple #[.int .i64 r1, .bool r2]) ∧ Below w.heap.size w w' := by
  have hu73 := Try.underlying73
  have infS := Aside0.mk (show (Try.prog.info? 73).map (·.size) = some 6 by kernel_rfl)
  have HR := Aside0.mk hr2
  have HC := Aside0.mk hc2
  unfold own_Reach.f at h
  obtain ⟨b, hb, h2⟩ := Option.bind_eq_some_iff.mp h
  have HI : Aside0 (∀ W, Calls Try.prog 77 #[.int .i64 a0] W fun e w' => e = .returned (.bool b) ∧ Drawn0 W w') := ⟨fun W => own_is.calls a0 b W hb⟩
  have HG := Aside0.mk h2
  clear h hb h2 hr2 hc2
  go_enter Try.func53, Try.ntmps53
  go_wp2
  refine wp_scope_once 0 (own_Reach.J a0 a1 a3 r1 r2 w) (fun a' _ => lenAt2 a') rfl ?_ ?_
  · rintro a' w' ⟨A, c, l, q, k, u4, u5, u6, u7, u9, u10, u11, u12, u13, u14, u15, u16, u17, u18, u19, u20, u21, u22, u23, u24, u25, u26, u27, u28, u29, u30, u31, u32, u33, u34, u35, u36, u37, u38, u39, u40, u41, u42, u43, u44, u45, u46, u47, u48, u49, rfl, HRl, HCl, HK, HB⟩
    cases k with
    | zero => exact absurd HK.out (by simp [own_Reach.go])
    | succ k =>
    have h1 := HK.out
    rw [own_Reach.go] at h1
    obtain ⟨n, hn, h2⟩ := Option.bind_eq_some_iff.mp h1
    have HRun : Aside0 (∀ W, Below w.heap.size w W → Calls Try.prog 47 #[.int .i64 a0, .int .i64 a1, .slice A l.length c] W fun e w' => e = .returned (.int .i64 n) ∧ Below W.heap.size W w') := ⟨fun W hb => own_Run.calls a0 a1 A c l n W (Kd.C_below HRl.out hb) HCl.out hn⟩
    clear h1 hn HK
    by_cases hr : 0 ≤ n ∧ n ≤ (l.length : Int)
    · rw [if_pos hr] at h2
      obtain ⟨qf, hqf, h3⟩ := Option.bind_eq_some_iff.mp h2
      clear h2
      have HRG := Aside0.mk hr
      have HM := Aside0.mk HRl.out.2.1
      obtain ⟨lt, hlt⟩ : ∃ lt, lt = l.take n.toNat := ⟨_, rfl⟩
      have HLT : Aside0 ((lt.length : Int) = n) := ⟨by rw [hlt, List.length_take]; omega⟩
      have HCT : Aside0 (Kd.C k73 w A lt.length lt) := ⟨by rw [hlt]; exact Kd.C_take HRl.out (by omega)⟩
      rw [← hlt] at hqf
      have HQF := Aside0.mk hqf
      have hcut : ∀ W : World, (Instr.slice 62 (.slice A l.length c) none (some (.int .i64 n)) none).run Try.prog W = .ok (.slice A lt.length c) W := fun W => by
        rw [cut_hi 62 73 6 Try.underlying62 infS.out A l.length c n HRG.out.1 (by have := HRG.out; have := HCl.out; omega) W, show n.toNat = lt.length by have := HLT.out; omega]
      clear hr hqf hlt
      go_wp2_with (go_at_call 47; refine (HRun.out _ HB.out).mono ?_; rintro e w1 ⟨rfl, hb⟩; have HB1 := Aside0.mk (below_step HB.out hb); clear hb)
      go_loopg [8, 24] lt.length (fun kq v8 v24 wr => ∃ (i q' : Int), v24 = .int .i64 i ∧ v8 = .int .i64 q' ∧ Aside0 (0 ≤ i ∧ i + kq = lt.length) ∧ Aside0 (rcSum a3 (lt.drop i.toNat) q' = some qf) ∧ Aside0 (Below w.heap.size w wr))
      case atStart => exact ⟨0, q, rfl, rfl, ⟨by omega⟩, HQF, HB1⟩
      case round =>
        clear HQF HB1
        obtain ⟨i, q', rfl, rfl, HJ, HQ, HBr⟩ := hrel
        by_cases hlt : i < (lt.length : Int)
        · have hd : decide (i < (lt.length : Int)) = true := decide_eq_true hlt
          have h4 := HQ.out
          rw [rc_drop HJ.out.1 hlt] at h4
          obtain ⟨t, ht, h5⟩ := Option.bind_eq_some_iff.mp h4
          obtain ⟨m, hm⟩ : ∃ m, mn t 4611686018427387904 = m := ⟨_, rfl⟩
          rw [hm] at h5
          obtain ⟨q2, hq2, h6⟩ := Option.bind_eq_some_iff.mp h5
          have hm_ : (if 4611686018427387904 < t then 4611686018427387904 else t) = m := hm
          have HTr := Aside0.mk (fun W => limits_Trim.calls a3 (rd_T73 lt i).f4 t W ht)
          have HCp := Aside0.mk (fun W => coin_Capped.calls q' m q2 W hq2)
          have HN := Aside0.mk h6
          have hw := Aside0.mk (show wrap64 (i + 1) = i + 1 by have := HJ.out; have := HLT.out; have := HRG.out; have := HM.out; unfold wrap64; omega)
          obtain ⟨ad, e1, hx0, hx1, hx2, hx3, hx4, hx5⟩ := at_T73 HCT.out i HJ.out.1 hlt
          subst e1
          replace hx0 := (HBr.out.cell (World.block_lt_of_cell? w _ hx0)).trans hx0
          replace hx1 := (HBr.out.cell (World.block_lt_of_cell? w _ hx1)).trans hx1
          replace hx2 := (HBr.out.cell (World.block_lt_of_cell? w _ hx2)).trans hx2
          replace hx3 := (HBr.out.cell (World.block_lt_of_cell? w _ hx3)).trans hx3
          replace hx4 := (HBr.out.cell (World.block_lt_of_cell? w _ hx4)).trans hx4
          replace hx5 := (HBr.out.cell (World.block_lt_of_cell? w _ hx5)).trans hx5
          have p1 := eq_true HJ.out.1
          have p2 := eq_true hlt
          clear h4 ht hm h5 hq2 h6 HQ
          go_wp2_with (first | ((with_reducible refine gate_dst (N := 12) rfl ?_); refine box_event ?hg (N := 12) ?hd (cs := #[.int .u64 0, .int .i64 0, .int .i64 0, .int .i64 0, .int .i64 0, .int .u64 0]) (t := 73) ?hr ?_; (case hd => rfl); (case hg => rfl); (case hr => first | (go_simp; done) | (go_simp; rfl)); intro gb hg w17 hbox hb; have GE := Aside0.mk (show w.heap.size ≤ gb by rw [hg]; exact below_size HBr.out); have HB17 := Aside0.mk (below_step HBr.out hb); have hcz0 : w17.cell? ⟨gb, 0, none⟩ = some (.int .u64 0) := (blk_cell hbox 0).trans rfl; have hcz1 : w17.cell? ⟨gb, 1, none⟩ = some (.int .i64 0) := (blk_cell hbox 1).trans rfl; have hcz2 : w17.cell? ⟨gb, 2, none⟩ = some (.int .i64 0) := (blk_cell hbox 2).trans rfl; have hcz3 : w17.cell? ⟨gb, 3, none⟩ = some (.int .i64 0) := (blk_cell hbox 3).trans rfl; have hcz4 : w17.cell? ⟨gb, 4, none⟩ = some (.int .i64 0) := (blk_cell hbox 4).trans rfl; have hcz5 : w17.cell? ⟨gb, 5, none⟩ = some (.int .u64 0) := (blk_cell hbox 5).trans rfl; have hfz0 := blk_frozen hbox 0; have hfz1 := blk_frozen hbox 1; have hfz2 := blk_frozen hbox 2; have hfz3 := blk_frozen hbox 3; have hfz4 := blk_frozen hbox 4; have hfz5 := blk_frozen hbox 5; clear hb hbox hg) | (go_at_call 81; refine (HTr.out _).mono ?_; rintro e w19 ⟨rfl, hb⟩; have HB19 := Aside0.mk (below_step (by repeat (first | (with_reducible exact HB17.out) | refine below_set ?_ GE.out)) hb : Below w.heap.size w w19); clear hb) | (go_at_call 80; refine (HCp.out _).mono ?_; rintro e w20 ⟨rfl, hb⟩; have HB20 := Aside0.mk (below_step HB19.out hb); clear hb))
          all_goals (
          go_roundg (gk - 1)
          case measure => have := HJ.out; omega
          case rel => exact ⟨wrap64 (i + 1), q2, rfl, rfl, ⟨by have := HJ.out; rw [hw.out]; omega⟩, ⟨by rw [hw.out]; exact HN.out⟩, HB20⟩)
        · have hd : decide (i < (lt.length : Int)) = false := decide_eq_false hlt
          have HE : Aside0 (q' = qf) := ⟨by
            have h4 := HQ.out
            rw [List.drop_eq_nil_of_le (by have := HJ.out; omega), rcSum] at h4
            exact Option.some.inj h4⟩
          by_cases c1 : n = (l.length : Int)
          · rw [if_pos c1] at h3
            simp only [Option.some.injEq, Prod.mk.injEq] at h3
            obtain ⟨rfl, rfl⟩ := h3
            have d1 : (n == (l.length : Int)) = true := beq_iff_eq.mpr c1
            clear c1
            go_wp2
            refine jump_ret_intro ?_
            go_ret2
            exact ⟨by rw [← HE.out]; rfl, HBr.out⟩
          · rw [if_neg c1] at h3
            obtain ⟨s, hs, h7⟩ := Option.bind_eq_some_iff.mp h3
            have HSt : Aside0 (∀ W, Calls Try.prog 50 #[.int .i64 a0] W fun e w' => e = .returned (.bool s) ∧ Drawn0 W w') := ⟨fun W => own_Stops.calls a0 s W hs⟩
            have d1 : (n == (l.length : Int)) = false := beq_eq_false_iff_ne.mpr c1
            have hlt2 : n < (l.length : Int) := by have := HRG.out; omega
            clear h3 hs c1
            cases s with
            | true =>
              rw [if_pos rfl] at h7
              simp only [Option.some.injEq, Prod.mk.injEq] at h7
              obtain ⟨rfl, rfl⟩ := h7
              go_wp2_with (go_at_call 50; refine (HSt.out _).mono ?_; rintro e w9 ⟨rfl, hb⟩; have HB9 := Aside0.mk (below_step HBr.out hb.below); clear hb)
              refine jump_ret_intro ?_
              go_ret2
              exact ⟨by rw [← HE.out]; rfl, HB9.out⟩
            | false =>
              rw [if_neg (by decide)] at h7
              have hw : wrap64 (n + 1) = n + 1 := by have := HRG.out; have := HM.out; unfold wrap64; omega
              obtain ⟨ld, hld⟩ : ∃ ld, ld = l.drop (n + 1).toNat := ⟨_, rfl⟩
              have HLD : Aside0 (ld.length = l.length - (n + 1).toNat) := ⟨by rw [hld, List.length_drop]⟩
              have HCD : Aside0 (Kd.C k73 w (if c = (n + 1).toNat then A else A.map (·.add ((n + 1).toNat * 6))) ld.length ld) := ⟨by rw [hld]; exact Kd.C_drop (m := (n + 1).toNat) (c := c) HRl.out (by have := HRG.out; omega) HCl.out⟩
              rw [← hld] at h7
              obtain ⟨A', hA'⟩ : ∃ A', (if c = (n + 1).toNat then A else A.map (·.add ((n + 1).toNat * 6))) = A' := ⟨_, rfl⟩
              rw [hA'] at HCD
              have hcut2 : ∀ W : World, (Instr.slice 62 (.slice A l.length c) (some (.int .i64 (wrap64 (n + 1)))) none none).run Try.prog W = .ok (.slice A' ld.length (c - (n + 1).toNat)) W := fun W => by
                rw [hw, cut_lo 62 73 6 Try.underlying62 infS.out A l.length c (n + 1) (by have := HRG.out; omega) (by omega) W, hA', HLD.out]
              have HK := Aside0.mk h7
              clear h7 hw hld hA'
              go_wp2_with (go_at_call 50; refine (HSt.out _).mono ?_; rintro e w9 ⟨rfl, hb⟩; have HB9 := Aside0.mk (below_step HBr.out hb.below); clear hb)
              go_step3
              refine ⟨rfl, ⟨A', _, ld, q', k, _, _, _, _, _, _, _, _, _, _, _, _, _, _, _, _, _, _, _, _, _, _, _, _, _, _, _, _, _, _, _, _, _, _, _, _, _, _, _, _, _, _, _, _, _, rfl, HCD, ⟨by have := HLD.out; have := HCl.out; omega⟩, ⟨by rw [HE.out]; exact HK.out⟩, HB9⟩, ?_⟩
              show ld.length < l.length
              have := HLD.out; have := HRG.out; omega
    · rw [if_neg hr] at h2; cases h2
  · intro HP
    cases b with
    | false =>
      have hg := HG.out
      rw [if_neg (by decide)] at hg
      simp only [Option.some.injEq, Prod.mk.injEq] at hg
      obtain ⟨rfl, rfl⟩ := hg
      go_wp2_with (go_at_call 77; refine (HI.out _).mono ?_; rintro e w1 ⟨rfl, hb⟩; have HB1 := Aside0.mk hb.below; clear hb)
      refine jump_ret_intro ?_
      go_ret2
      exact ⟨rfl, HB1.out⟩
    | true =>
      have hg := HG.out
      rw [if_pos rfl] at hg
      go_wp2_with (go_at_call 77; refine (HI.out _).mono ?_; rintro e w1 ⟨rfl, hb⟩; have HB1 := Aside0.mk hb.below; clear hb)
      go_step3
      rename_i Kx hKx
      refine hKx _ _ (HP _ _ ⟨A2, c2, l2, 0, l2.length + 1, _, _, _, _, _, _, _, _, _, _, _, _, _, _, _, _, _, _, _, _, _, _, _, _, _, _, _, _, _, _, _, _, _, _, _, _, _, _, _, _, _, _, _, _, _, rfl, HR, HC, ⟨hg⟩, HB1⟩)

/-! ### jobberlaw17_lives: function 43 -/
def jobberlaw17_lives.f  : Option (Bool) := (some (([(⟨1, 1, 0, 0, 5, 0⟩ : S73), (⟨2, 2, 0, 0, 5, 0⟩ : S73), (⟨3, 3, 0, 0, 5, 0⟩ : S73)] : List (S73)) : List (S73))).bind fun y101 => ((own_Meet.f 3 2 y101).bind fun bt104 => ((own_Reach.f 3 2 y101 1).bind fun bt111 => (if (bt104.1.length : Int) = 1 then (if 0 < (bt104.1.length : Int) then (if ((rd_T73 bt104.1 0).f0) = 1 then (if (bt104.2.1.length : Int) = 1 then (if 0 < (bt104.2.1.length : Int) then (if (rd bt104.2.1 0) = 2 then (if bt104.2.2 = true then (some false) else (if bt111.1 = 10 then (some (!bt111.2)) else (some false))) else (some false)) else (none)) else (some false)) else (some false)) else (none)) else (some false))))
set_option maxHeartbeats 8000000 in
set_option maxRecDepth 100000 in
theorem jobberlaw17_lives.calls  (r : Bool) (w : World) (h : jobberlaw17_lives.f  = some r) :
    Calls Try.prog 43 #[] w fun e w' => e = .returned (.bool r) ∧ Below w.heap.size w w' := by
  have hu73 := Try.underlying73
  have HB := Aside0.mk (Below.refl w.heap.size w)
  have H : ((some (([(⟨1, 1, 0, 0, 5, 0⟩ : S73), (⟨2, 2, 0, 0, 5, 0⟩ : S73), (⟨3, 3, 0, 0, 5, 0⟩ : S73)] : List (S73)) : List (S73))).bind fun y101 => ((own_Meet.f 3 2 y101).bind fun bt104 => ((own_Reach.f 3 2 y101 1).bind fun bt111 => (if (bt104.1.length : Int) = 1 then (if 0 < (bt104.1.length : Int) then (if ((rd_T73 bt104.1 0).f0) = 1 then (if (bt104.2.1.length : Int) = 1 then (if 0 < (bt104.2.1.length : Int) then (if (rd bt104.2.1 0) = 2 then (if bt104.2.2 = true then (some false) else (if bt111.1 = 10 then (some (!bt111.2)) else (some false))) else (some false)) else (none)) else (some false)) else (some false)) else (none)) else (some false))))) = some r := h
  clear h
  obtain ⟨y101, hy101⟩ : ∃ y_ : List (S73), y_ = (([(⟨1, 1, 0, 0, 5, 0⟩ : S73), (⟨2, 2, 0, 0, 5, 0⟩ : S73), (⟨3, 3, 0, 0, 5, 0⟩ : S73)] : List (S73))) := ⟨_, rfl⟩
  replace H : ((own_Meet.f 3 2 y101).bind fun bt104 => ((own_Reach.f 3 2 y101 1).bind fun bt111 => (if (bt104.1.length : Int) = 1 then (if 0 < (bt104.1.length : Int) then (if ((rd_T73 bt104.1 0).f0) = 1 then (if (bt104.2.1.length : Int) = 1 then (if 0 < (bt104.2.1.length : Int) then (if (rd bt104.2.1 0) = 2 then (if bt104.2.2 = true then (some false) else (if bt111.1 = 10 then (some (!bt111.2)) else (some false))) else (some false)) else (none)) else (some false)) else (some false)) else (none)) else (some false)))) = some r := by first | (rw [hy101]; with_reducible exact H) | (have H2_ := (Option.bind_some _ _).symm.trans H; rw [hy101]; with_reducible exact H2_) | (have H2_ := (Option.bind_some _ _).symm.trans H; with_reducible exact H2_) | with_reducible exact H | (rw [hy101]; exact H) | exact H
  have Ny101 := Aside0.mk hy101
  clear hy101
  replace H := Option.bind_eq_some_iff.mp H
  obtain ⟨⟨t104, t105, t106⟩, A10, H⟩ := H
  replace H : ((own_Reach.f 3 2 y101 1).bind fun bt111 => (if (t104.length : Int) = 1 then (if 0 < (t104.length : Int) then (if ((rd_T73 t104 0).f0) = 1 then (if (t105.length : Int) = 1 then (if 0 < (t105.length : Int) then (if (rd t105 0) = 2 then (if t106 = true then (some false) else (if bt111.1 = 10 then (some (!bt111.2)) else (some false))) else (some false)) else (none)) else (some false)) else (some false)) else (none)) else (some false))) = some r := H
  have A1 := Aside0.mk A10
  clear A10
  replace H := Option.bind_eq_some_iff.mp H
  obtain ⟨⟨t111, t112⟩, A20, H⟩ := H
  replace H : (if (t104.length : Int) = 1 then (if 0 < (t104.length : Int) then (if ((rd_T73 t104 0).f0) = 1 then (if (t105.length : Int) = 1 then (if 0 < (t105.length : Int) then (if (rd t105 0) = 2 then (if t106 = true then (some false) else (if t111 = 10 then (some (!t112)) else (some false))) else (some false)) else (none)) else (some false)) else (some false)) else (none)) else (some false)) = some r := H
  have A2 := Aside0.mk A20
  clear A20
  by_cases c3 : (t104.length : Int) = 1
  · rw [if_pos c3] at H
    have c3b0 : ((t104.length : Int) == 1) = true := beq_iff_eq.mpr c3
    have c3b1 : ((t104.length : Int) != 1) = false := bne_eq_false_iff_eq.mpr c3
    clear c3
    by_cases c4 : 0 < (t104.length : Int)
    · rw [if_pos c4] at H
      have c4b0 : decide (0 < (t104.length : Int)) = true := decide_eq_true c4
      have c4b1 : decide (0 < t104.length) = true := decide_eq_true (by omega)
      clear c4
      by_cases c5 : ((rd_T73 t104 0).f0) = 1
      · rw [if_pos c5] at H
        have c5b0 : (((rd_T73 t104 0).f0) == 1) = true := beq_iff_eq.mpr c5
        have c5b1 : (((rd_T73 t104 0).f0) != 1) = false := bne_eq_false_iff_eq.mpr c5
        clear c5
        by_cases c6 : (t105.length : Int) = 1
        · rw [if_pos c6] at H
          have c6b0 : ((t105.length : Int) == 1) = true := beq_iff_eq.mpr c6
          have c6b1 : ((t105.length : Int) != 1) = false := bne_eq_false_iff_eq.mpr c6
          clear c6
          by_cases c7 : 0 < (t105.length : Int)
          · rw [if_pos c7] at H
            have c7b0 : decide (0 < (t105.length : Int)) = true := decide_eq_true c7
            have c7b1 : decide (0 < t105.length) = true := decide_eq_true (by omega)
            clear c7
            by_cases c8 : (rd t105 0) = 2
            · rw [if_pos c8] at H
              have c8b0 : ((rd t105 0) == 2) = true := beq_iff_eq.mpr c8
              have c8b1 : ((rd t105 0) != 2) = false := bne_eq_false_iff_eq.mpr c8
              clear c8
              by_cases c9 : t106 = true
              · subst c9
                have H1 : (some false) = some r := by rw [if_pos rfl] at H; exact H
                clear H
                have H := H1
                clear H1
                obtain rfl := Option.some.inj H
                go_enter Try.func43, Try.ntmps43
                go_wp2_with (first | ((with_reducible refine gate_dst (N := 10) rfl ?_); (try (refine gate_guard (by rfl) ?_; dsimp only)); refine Kd.R_lit k73 _ 73 ?hg (N := 10) ?hd (xs := ([(⟨1, 1, 0, 0, 5, 0⟩ : S73), (⟨2, 2, 0, 0, 5, 0⟩ : S73), (⟨3, 3, 0, 0, 5, 0⟩ : S73)] : List (S73))) (inner := [.int .u64 1, .int .i64 1, .int .i64 0, .int .i64 0, .int .i64 5, .int .u64 0, .int .u64 2, .int .i64 2, .int .i64 0, .int .i64 0, .int .i64 5, .int .u64 0, .int .u64 3, .int .i64 3, .int .i64 0, .int .i64 0, .int .i64 5, .int .u64 0]) (ok := fun _ => True) (okp := fun _ => True) ?hr ?hp (fun _ hk => hk) trivial (Below.refl _ _) (Nat.le_refl _) (by simp) ?_; (case hd => rfl); (case hg => rfl); (case hr => first | (go_simp; done) | (go_simp; rfl)); (case hp => exact (Reps.c6 (show Kd.M k73 _ _ _ (⟨1, 1, 0, 0, 5, 0⟩ : S73) [.int .u64 1, .int .i64 1, .int .i64 0, .int .i64 0, .int .i64 5, .int .u64 0] from (k73_mkM _ _ _ (⟨1, 1, 0, 0, 5, 0⟩ : S73) )) (Reps.c6 (show Kd.M k73 _ _ _ (⟨2, 2, 0, 0, 5, 0⟩ : S73) [.int .u64 2, .int .i64 2, .int .i64 0, .int .i64 0, .int .i64 5, .int .u64 0] from (k73_mkM _ _ _ (⟨2, 2, 0, 0, 5, 0⟩ : S73) )) (Reps.c6 (show Kd.M k73 _ _ _ (⟨3, 3, 0, 0, 5, 0⟩ : S73) [.int .u64 3, .int .i64 3, .int .i64 0, .int .i64 0, .int .i64 5, .int .u64 0] from (k73_mkM _ _ _ (⟨3, 3, 0, 0, 5, 0⟩ : S73) )) (Reps.none _ _))))); intro v102 w10 ho11 hb hg_ hnew_; clear hg_ hnew_; (first | rw [← Ny101.out] at ho11 | (simp only [Int.reduceToNat] at ho11; rw [← Ny101.out] at ho11)); have n0_ := Aside0.mk (Kd.R_lower ho11 (below_size (by repeat (first | (with_reducible first | exact HB.out | apply below_alloc | apply pw_below_drewN | apply below_drew1) | exact HB.out)))); have n1_ := Aside0.mk (below_step (by repeat (first | (with_reducible first | exact HB.out | apply below_alloc | apply pw_below_drewN | apply below_drew1) | exact HB.out)) hb); clear HB; have HO103 := n0_; have HB := n1_; clear n0_ n1_; clear hb ho11; obtain ⟨Ao12, co12, eo12⟩ := Kd.R_slice HO103.out; subst eo12) | ((with_reducible refine gate_callee (f := 46) rfl ?_); refine goesL_ (some 13) rfl rfl Try.func46 (by kernel_rfl) rfl #[.int .i64 3, .int .i64 2, .slice Ao12 y101.length co12] rfl (by (try simp only [List.map_toArray, List.map_cons, List.map_nil]); first | done | rfl | (simp only [List.length_drop, List.length_take]; rfl)) ?_; (with_reducible refine (own_Meet.calls 3 2 _ _ y101 t104 t105 true _ ?side1 ?side2 A1.out).mono ?_); (case side1 => repeat (first | exact (Kd.R_reads' HO103.out).2.2 | (with_reducible refine Kd.C_alloc ?_ _) | (with_reducible refine Kd.C_drewN ?_ _) | (with_reducible refine Kd.C_drew ?_))); (case side2 => exact (Kd.R_reads' HO103.out).2.1); rintro e w13 ⟨v107, v109, rfl, ho0, ho1, hb⟩; refine ⟨_, rfl, ?_⟩; have n0_ := Aside0.mk (Kd.R_elder' (by (with_reducible repeat (first | apply Kd.R_alloc | apply Kd.R_drewN | apply Kd.R_drew)); exact HO103.out) (Kd.R_base ho0) hb); have n1_ := Aside0.mk (Kd.R_lower (Kd.R_new' ho0 (Kd.R_lt (by (with_reducible repeat (first | apply Kd.R_alloc | apply Kd.R_drewN | apply Kd.R_drew)); exact HO103.out))) (below_size (by repeat (first | (with_reducible first | exact HB.out | apply below_alloc | apply pw_below_drewN | apply below_drew1) | exact HB.out)))); have n2_ := Aside0.mk (Kd.R_lower ho1 (below_size (by repeat (first | (with_reducible first | exact HB.out | apply below_alloc | apply pw_below_drewN | apply below_drew1) | exact HB.out)))); have n3_ := Aside0.mk (below_step (by repeat (first | (with_reducible first | exact HB.out | apply below_alloc | apply pw_below_drewN | apply below_drew1) | exact HB.out)) hb); clear HO103; clear HB; have HO103 := n0_; have HO108 := n1_; have HO110 := n2_; have HB := n3_; clear n0_ n1_ n2_ n3_; (try clear hb); (try clear hb2); (try clear hk); (try clear hi); (try clear ho0); (try clear ho1)) | ((with_reducible refine gate_callee (f := 53) rfl ?_); refine goesL_ (some 19) rfl rfl Try.func53 (by kernel_rfl) rfl #[.int .i64 3, .int .i64 2, .slice Ao12 y101.length co12, .int .i64 1] rfl (by (try simp only [List.map_toArray, List.map_cons, List.map_nil]); first | done | rfl | (simp only [List.length_drop, List.length_take]; rfl)) ?_; (with_reducible refine (own_Reach.calls 3 2 _ _ y101 1 t111 t112 _ ?side1 ?side2 A2.out).mono ?_); (case side1 => repeat (first | exact (Kd.R_reads' HO103.out).2.2 | (with_reducible refine Kd.C_alloc ?_ _) | (with_reducible refine Kd.C_drewN ?_ _) | (with_reducible refine Kd.C_drew ?_))); (case side2 => exact (Kd.R_reads' HO103.out).2.1); rintro e w14 ⟨rfl, hb⟩; refine ⟨_, rfl, ?_⟩; have n0_ := Aside0.mk (Kd.R_below (by (with_reducible repeat (first | apply Kd.R_alloc | apply Kd.R_drewN | apply Kd.R_drew)); exact HO103.out) hb); have n1_ := Aside0.mk (Kd.R_below (by (with_reducible repeat (first | apply Kd.R_alloc | apply Kd.R_drewN | apply Kd.R_drew)); exact HO108.out) hb); have n2_ := Aside0.mk (Kd.R_below (by (with_reducible repeat (first | apply Kd.R_alloc | apply Kd.R_drewN | apply Kd.R_drew)); exact HO110.out) hb); have n3_ := Aside0.mk (below_step (by repeat (first | (with_reducible first | exact HB.out | apply below_alloc | apply pw_below_drewN | apply below_drew1) | exact HB.out)) hb); clear HO103; clear HO108; clear HO110; clear HB; have HO103 := n0_; have HO108 := n1_; have HO110 := n2_; have HB := n3_; clear n0_ n1_ n2_ n3_; (try clear hb); (try clear hb2); (try clear hk); (try clear hi); obtain ⟨Ao15, co15, eo15⟩ := Kd.R_slice HO108.out; subst eo15; have p113 : 0 ≤ (0 : Int) := (by omega); have q113 : 0 < (t104.length : Int) := of_decide_eq_true (by first | (with_reducible assumption) | assumption); obtain ⟨ad113, e113, hx113_0, hx113_1, hx113_2, hx113_3, hx113_4, hx113_5⟩ := at_T73 (Kd.R_reads' HO108.out).2.2 0 p113 q113; cases e113; have qi113 : (0 < t104.length) = True := eq_true (by omega); (try rw [show ((0 : Int)).toNat = 0 from rfl] at hx113_0); (try rw [show 0 * 6 = 0 from rfl] at hx113_0); (try rw [Addr.add_zero'] at hx113_0); (try rw [show ((0 : Int)).toNat = 0 from rfl] at hx113_1); (try rw [show 0 * 6 = 0 from rfl] at hx113_1); (try rw [Addr.add_zero'] at hx113_1); (try rw [show ((0 : Int)).toNat = 0 from rfl] at hx113_2); (try rw [show 0 * 6 = 0 from rfl] at hx113_2); (try rw [Addr.add_zero'] at hx113_2); (try rw [show ((0 : Int)).toNat = 0 from rfl] at hx113_3); (try rw [show 0 * 6 = 0 from rfl] at hx113_3); (try rw [Addr.add_zero'] at hx113_3); (try rw [show ((0 : Int)).toNat = 0 from rfl] at hx113_4); (try rw [show 0 * 6 = 0 from rfl] at hx113_4); (try rw [Addr.add_zero'] at hx113_4); (try rw [show ((0 : Int)).toNat = 0 from rfl] at hx113_5); (try rw [show 0 * 6 = 0 from rfl] at hx113_5); (try rw [Addr.add_zero'] at hx113_5); replace p113 := eq_true p113; replace q113 := eq_true q113; obtain ⟨Ao16, co16, eo16⟩ := Kd.R_slice HO110.out; subst eo16; have p114 : 0 ≤ (0 : Int) := (by omega); have q114 : 0 < (t105.length : Int) := of_decide_eq_true (by first | (with_reducible assumption) | assumption); obtain ⟨ad114, e114, hx114_0⟩ := Kd.at_int (Kd.R_reads' HO110.out).2.2 0 p114 q114; cases e114; have qi114 : (0 < t105.length) = True := eq_true (by omega); (try rw [show ((0 : Int)).toNat = 0 from rfl] at hx114_0); (try rw [Addr.add_zero'] at hx114_0); replace p114 := eq_true p114; replace q114 := eq_true q114))
                go_ret
                exact ⟨by first | rfl | (simp [errW_none, errW_some] <;> rfl) | (simp [*, errW_none, errW_some] <;> rfl), by repeat (first | (with_reducible first | exact HB.out | apply below_alloc | apply pw_below_drewN | apply below_drew1) | exact HB.out)⟩
              · replace c9 := Bool.eq_false_iff.mpr c9
                subst c9
                have H1 : (if t111 = 10 then (some (!t112)) else (some false)) = some r := by rw [if_neg (show ¬ (false = true) by decide)] at H; exact H
                clear H
                have H := H1
                clear H1
                by_cases c17 : t111 = 10
                · rw [if_pos c17] at H
                  have c17b0 : (t111 == 10) = true := beq_iff_eq.mpr c17
                  have c17b1 : (t111 != 10) = false := bne_eq_false_iff_eq.mpr c17
                  clear c17
                  obtain rfl := Option.some.inj H
                  go_enter Try.func43, Try.ntmps43
                  go_wp2_with (first | ((with_reducible refine gate_dst (N := 10) rfl ?_); (try (refine gate_guard (by rfl) ?_; dsimp only)); refine Kd.R_lit k73 _ 73 ?hg (N := 10) ?hd (xs := ([(⟨1, 1, 0, 0, 5, 0⟩ : S73), (⟨2, 2, 0, 0, 5, 0⟩ : S73), (⟨3, 3, 0, 0, 5, 0⟩ : S73)] : List (S73))) (inner := [.int .u64 1, .int .i64 1, .int .i64 0, .int .i64 0, .int .i64 5, .int .u64 0, .int .u64 2, .int .i64 2, .int .i64 0, .int .i64 0, .int .i64 5, .int .u64 0, .int .u64 3, .int .i64 3, .int .i64 0, .int .i64 0, .int .i64 5, .int .u64 0]) (ok := fun _ => True) (okp := fun _ => True) ?hr ?hp (fun _ hk => hk) trivial (Below.refl _ _) (Nat.le_refl _) (by simp) ?_; (case hd => rfl); (case hg => rfl); (case hr => first | (go_simp; done) | (go_simp; rfl)); (case hp => exact (Reps.c6 (show Kd.M k73 _ _ _ (⟨1, 1, 0, 0, 5, 0⟩ : S73) [.int .u64 1, .int .i64 1, .int .i64 0, .int .i64 0, .int .i64 5, .int .u64 0] from (k73_mkM _ _ _ (⟨1, 1, 0, 0, 5, 0⟩ : S73) )) (Reps.c6 (show Kd.M k73 _ _ _ (⟨2, 2, 0, 0, 5, 0⟩ : S73) [.int .u64 2, .int .i64 2, .int .i64 0, .int .i64 0, .int .i64 5, .int .u64 0] from (k73_mkM _ _ _ (⟨2, 2, 0, 0, 5, 0⟩ : S73) )) (Reps.c6 (show Kd.M k73 _ _ _ (⟨3, 3, 0, 0, 5, 0⟩ : S73) [.int .u64 3, .int .i64 3, .int .i64 0, .int .i64 0, .int .i64 5, .int .u64 0] from (k73_mkM _ _ _ (⟨3, 3, 0, 0, 5, 0⟩ : S73) )) (Reps.none _ _))))); intro v102 w18 ho19 hb hg_ hnew_; clear hg_ hnew_; (first | rw [← Ny101.out] at ho19 | (simp only [Int.reduceToNat] at ho19; rw [← Ny101.out] at ho19)); have n0_ := Aside0.mk (Kd.R_lower ho19 (below_size (by repeat (first | (with_reducible first | exact HB.out | apply below_alloc | apply pw_below_drewN | apply below_drew1) | exact HB.out)))); have n1_ := Aside0.mk (below_step (by repeat (first | (with_reducible first | exact HB.out | apply below_alloc | apply pw_below_drewN | apply below_drew1) | exact HB.out)) hb); clear HB; have HO103 := n0_; have HB := n1_; clear n0_ n1_; clear hb ho19; obtain ⟨Ao20, co20, eo20⟩ := Kd.R_slice HO103.out; subst eo20) | ((with_reducible refine gate_callee (f := 46) rfl ?_); refine goesL_ (some 13) rfl rfl Try.func46 (by kernel_rfl) rfl #[.int .i64 3, .int .i64 2, .slice Ao20 y101.length co20] rfl (by (try simp only [List.map_toArray, List.map_cons, List.map_nil]); first | done | rfl | (simp only [List.length_drop, List.length_take]; rfl)) ?_; (with_reducible refine (own_Meet.calls 3 2 _ _ y101 t104 t105 false _ ?side1 ?side2 A1.out).mono ?_); (case side1 => repeat (first | exact (Kd.R_reads' HO103.out).2.2 | (with_reducible refine Kd.C_alloc ?_ _) | (with_reducible refine Kd.C_drewN ?_ _) | (with_reducible refine Kd.C_drew ?_))); (case side2 => exact (Kd.R_reads' HO103.out).2.1); rintro e w21 ⟨v107, v109, rfl, ho0, ho1, hb⟩; refine ⟨_, rfl, ?_⟩; have n0_ := Aside0.mk (Kd.R_elder' (by (with_reducible repeat (first | apply Kd.R_alloc | apply Kd.R_drewN | apply Kd.R_drew)); exact HO103.out) (Kd.R_base ho0) hb); have n1_ := Aside0.mk (Kd.R_lower (Kd.R_new' ho0 (Kd.R_lt (by (with_reducible repeat (first | apply Kd.R_alloc | apply Kd.R_drewN | apply Kd.R_drew)); exact HO103.out))) (below_size (by repeat (first | (with_reducible first | exact HB.out | apply below_alloc | apply pw_below_drewN | apply below_drew1) | exact HB.out)))); have n2_ := Aside0.mk (Kd.R_lower ho1 (below_size (by repeat (first | (with_reducible first | exact HB.out | apply below_alloc | apply pw_below_drewN | apply below_drew1) | exact HB.out)))); have n3_ := Aside0.mk (below_step (by repeat (first | (with_reducible first | exact HB.out | apply below_alloc | apply pw_below_drewN | apply below_drew1) | exact HB.out)) hb); clear HO103; clear HB; have HO103 := n0_; have HO108 := n1_; have HO110 := n2_; have HB := n3_; clear n0_ n1_ n2_ n3_; (try clear hb); (try clear hb2); (try clear hk); (try clear hi); (try clear ho0); (try clear ho1)) | ((with_reducible refine gate_callee (f := 53) rfl ?_); refine goesL_ (some 19) rfl rfl Try.func53 (by kernel_rfl) rfl #[.int .i64 3, .int .i64 2, .slice Ao20 y101.length co20, .int .i64 1] rfl (by (try simp only [List.map_toArray, List.map_cons, List.map_nil]); first | done | rfl | (simp only [List.length_drop, List.length_take]; rfl)) ?_; (with_reducible refine (own_Reach.calls 3 2 _ _ y101 1 t111 t112 _ ?side1 ?side2 A2.out).mono ?_); (case side1 => repeat (first | exact (Kd.R_reads' HO103.out).2.2 | (with_reducible refine Kd.C_alloc ?_ _) | (with_reducible refine Kd.C_drewN ?_ _) | (with_reducible refine Kd.C_drew ?_))); (case side2 => exact (Kd.R_reads' HO103.out).2.1); rintro e w22 ⟨rfl, hb⟩; refine ⟨_, rfl, ?_⟩; have n0_ := Aside0.mk (Kd.R_below (by (with_reducible repeat (first | apply Kd.R_alloc | apply Kd.R_drewN | apply Kd.R_drew)); exact HO103.out) hb); have n1_ := Aside0.mk (Kd.R_below (by (with_reducible repeat (first | apply Kd.R_alloc | apply Kd.R_drewN | apply Kd.R_drew)); exact HO108.out) hb); have n2_ := Aside0.mk (Kd.R_below (by (with_reducible repeat (first | apply Kd.R_alloc | apply Kd.R_drewN | apply Kd.R_drew)); exact HO110.out) hb); have n3_ := Aside0.mk (below_step (by repeat (first | (with_reducible first | exact HB.out | apply below_alloc | apply pw_below_drewN | apply below_drew1) | exact HB.out)) hb); clear HO103; clear HO108; clear HO110; clear HB; have HO103 := n0_; have HO108 := n1_; have HO110 := n2_; have HB := n3_; clear n0_ n1_ n2_ n3_; (try clear hb); (try clear hb2); (try clear hk); (try clear hi); obtain ⟨Ao23, co23, eo23⟩ := Kd.R_slice HO108.out; subst eo23; have p113 : 0 ≤ (0 : Int) := (by omega); have q113 : 0 < (t104.length : Int) := of_decide_eq_true (by first | (with_reducible assumption) | assumption); obtain ⟨ad113, e113, hx113_0, hx113_1, hx113_2, hx113_3, hx113_4, hx113_5⟩ := at_T73 (Kd.R_reads' HO108.out).2.2 0 p113 q113; cases e113; have qi113 : (0 < t104.length) = True := eq_true (by omega); (try rw [show ((0 : Int)).toNat = 0 from rfl] at hx113_0); (try rw [show 0 * 6 = 0 from rfl] at hx113_0); (try rw [Addr.add_zero'] at hx113_0); (try rw [show ((0 : Int)).toNat = 0 from rfl] at hx113_1); (try rw [show 0 * 6 = 0 from rfl] at hx113_1); (try rw [Addr.add_zero'] at hx113_1); (try rw [show ((0 : Int)).toNat = 0 from rfl] at hx113_2); (try rw [show 0 * 6 = 0 from rfl] at hx113_2); (try rw [Addr.add_zero'] at hx113_2); (try rw [show ((0 : Int)).toNat = 0 from rfl] at hx113_3); (try rw [show 0 * 6 = 0 from rfl] at hx113_3); (try rw [Addr.add_zero'] at hx113_3); (try rw [show ((0 : Int)).toNat = 0 from rfl] at hx113_4); (try rw [show 0 * 6 = 0 from rfl] at hx113_4); (try rw [Addr.add_zero'] at hx113_4); (try rw [show ((0 : Int)).toNat = 0 from rfl] at hx113_5); (try rw [show 0 * 6 = 0 from rfl] at hx113_5); (try rw [Addr.add_zero'] at hx113_5); replace p113 := eq_true p113; replace q113 := eq_true q113; obtain ⟨Ao24, co24, eo24⟩ := Kd.R_slice HO110.out; subst eo24; have p114 : 0 ≤ (0 : Int) := (by omega); have q114 : 0 < (t105.length : Int) := of_decide_eq_true (by first | (with_reducible assumption) | assumption); obtain ⟨ad114, e114, hx114_0⟩ := Kd.at_int (Kd.R_reads' HO110.out).2.2 0 p114 q114; cases e114; have qi114 : (0 < t105.length) = True := eq_true (by omega); (try rw [show ((0 : Int)).toNat = 0 from rfl] at hx114_0); (try rw [Addr.add_zero'] at hx114_0); replace p114 := eq_true p114; replace q114 := eq_true q114))
                  go_ret
                  exact ⟨by first | rfl | (simp [errW_none, errW_some] <;> rfl) | (simp [*, errW_none, errW_some] <;> rfl), by repeat (first | (with_reducible first | exact HB.out | apply below_alloc | apply pw_below_drewN | apply below_drew1) | exact HB.out)⟩
                · rw [if_neg c17] at H
                  have c17b0 : (t111 == 10) = false := beq_eq_false_iff_ne.mpr c17
                  have c17b1 : (t111 != 10) = true := bne_iff_ne.mpr c17
                  obtain rfl := Option.some.inj H
                  go_enter Try.func43, Try.ntmps43
                  go_wp2_with (first | ((with_reducible refine gate_dst (N := 10) rfl ?_); (try (refine gate_guard (by rfl) ?_; dsimp only)); refine Kd.R_lit k73 _ 73 ?hg (N := 10) ?hd (xs := ([(⟨1, 1, 0, 0, 5, 0⟩ : S73), (⟨2, 2, 0, 0, 5, 0⟩ : S73), (⟨3, 3, 0, 0, 5, 0⟩ : S73)] : List (S73))) (inner := [.int .u64 1, .int .i64 1, .int .i64 0, .int .i64 0, .int .i64 5, .int .u64 0, .int .u64 2, .int .i64 2, .int .i64 0, .int .i64 0, .int .i64 5, .int .u64 0, .int .u64 3, .int .i64 3, .int .i64 0, .int .i64 0, .int .i64 5, .int .u64 0]) (ok := fun _ => True) (okp := fun _ => True) ?hr ?hp (fun _ hk => hk) trivial (Below.refl _ _) (Nat.le_refl _) (by simp) ?_; (case hd => rfl); (case hg => rfl); (case hr => first | (go_simp; done) | (go_simp; rfl)); (case hp => exact (Reps.c6 (show Kd.M k73 _ _ _ (⟨1, 1, 0, 0, 5, 0⟩ : S73) [.int .u64 1, .int .i64 1, .int .i64 0, .int .i64 0, .int .i64 5, .int .u64 0] from (k73_mkM _ _ _ (⟨1, 1, 0, 0, 5, 0⟩ : S73) )) (Reps.c6 (show Kd.M k73 _ _ _ (⟨2, 2, 0, 0, 5, 0⟩ : S73) [.int .u64 2, .int .i64 2, .int .i64 0, .int .i64 0, .int .i64 5, .int .u64 0] from (k73_mkM _ _ _ (⟨2, 2, 0, 0, 5, 0⟩ : S73) )) (Reps.c6 (show Kd.M k73 _ _ _ (⟨3, 3, 0, 0, 5, 0⟩ : S73) [.int .u64 3, .int .i64 3, .int .i64 0, .int .i64 0, .int .i64 5, .int .u64 0] from (k73_mkM _ _ _ (⟨3, 3, 0, 0, 5, 0⟩ : S73) )) (Reps.none _ _))))); intro v102 w25 ho26 hb hg_ hnew_; clear hg_ hnew_; (first | rw [← Ny101.out] at ho26 | (simp only [Int.reduceToNat] at ho26; rw [← Ny101.out] at ho26)); have n0_ := Aside0.mk (Kd.R_lower ho26 (below_size (by repeat (first | (with_reducible first | exact HB.out | apply below_alloc | apply pw_below_drewN | apply below_drew1) | exact HB.out)))); have n1_ := Aside0.mk (below_step (by repeat (first | (with_reducible first | exact HB.out | apply below_alloc | apply pw_below_drewN | apply below_drew1) | exact HB.out)) hb); clear HB; have HO103 := n0_; have HB := n1_; clear n0_ n1_; clear hb ho26; obtain ⟨Ao27, co27, eo27⟩ := Kd.R_slice HO103.out; subst eo27) | ((with_reducible refine gate_callee (f := 46) rfl ?_); refine goesL_ (some 13) rfl rfl Try.func46 (by kernel_rfl) rfl #[.int .i64 3, .int .i64 2, .slice Ao27 y101.length co27] rfl (by (try simp only [List.map_toArray, List.map_cons, List.map_nil]); first | done | rfl | (simp only [List.length_drop, List.length_take]; rfl)) ?_; (with_reducible refine (own_Meet.calls 3 2 _ _ y101 t104 t105 false _ ?side1 ?side2 A1.out).mono ?_); (case side1 => repeat (first | exact (Kd.R_reads' HO103.out).2.2 | (with_reducible refine Kd.C_alloc ?_ _) | (with_reducible refine Kd.C_drewN ?_ _) | (with_reducible refine Kd.C_drew ?_))); (case side2 => exact (Kd.R_reads' HO103.out).2.1); rintro e w28 ⟨v107, v109, rfl, ho0, ho1, hb⟩; refine ⟨_, rfl, ?_⟩; have n0_ := Aside0.mk (Kd.R_elder' (by (with_reducible repeat (first | apply Kd.R_alloc | apply Kd.R_drewN | apply Kd.R_drew)); exact HO103.out) (Kd.R_base ho0) hb); have n1_ := Aside0.mk (Kd.R_lower (Kd.R_new' ho0 (Kd.R_lt (by (with_reducible repeat (first | apply Kd.R_alloc | apply Kd.R_drewN | apply Kd.R_drew)); exact HO103.out))) (below_size (by repeat (first | (with_reducible first | exact HB.out | apply below_alloc | apply pw_below_drewN | apply below_drew1) | exact HB.out)))); have n2_ := Aside0.mk (Kd.R_lower ho1 (below_size (by repeat (first | (with_reducible first | exact HB.out | apply below_alloc | apply pw_below_drewN | apply below_drew1) | exact HB.out)))); have n3_ := Aside0.mk (below_step (by repeat (first | (with_reducible first | exact HB.out | apply below_alloc | apply pw_below_drewN | apply below_drew1) | exact HB.out)) hb); clear HO103; clear HB; have HO103 := n0_; have HO108 := n1_; have HO110 := n2_; have HB := n3_; clear n0_ n1_ n2_ n3_; (try clear hb); (try clear hb2); (try clear hk); (try clear hi); (try clear ho0); (try clear ho1)) | ((with_reducible refine gate_callee (f := 53) rfl ?_); refine goesL_ (some 19) rfl rfl Try.func53 (by kernel_rfl) rfl #[.int .i64 3, .int .i64 2, .slice Ao27 y101.length co27, .int .i64 1] rfl (by (try simp only [List.map_toArray, List.map_cons, List.map_nil]); first | done | rfl | (simp only [List.length_drop, List.length_take]; rfl)) ?_; (with_reducible refine (own_Reach.calls 3 2 _ _ y101 1 t111 t112 _ ?side1 ?side2 A2.out).mono ?_); (case side1 => repeat (first | exact (Kd.R_reads' HO103.out).2.2 | (with_reducible refine Kd.C_alloc ?_ _) | (with_reducible refine Kd.C_drewN ?_ _) | (with_reducible refine Kd.C_drew ?_))); (case side2 => exact (Kd.R_reads' HO103.out).2.1); rintro e w29 ⟨rfl, hb⟩; refine ⟨_, rfl, ?_⟩; have n0_ := Aside0.mk (Kd.R_below (by (with_reducible repeat (first | apply Kd.R_alloc | apply Kd.R_drewN | apply Kd.R_drew)); exact HO103.out) hb); have n1_ := Aside0.mk (Kd.R_below (by (with_reducible repeat (first | apply Kd.R_alloc | apply Kd.R_drewN | apply Kd.R_drew)); exact HO108.out) hb); have n2_ := Aside0.mk (Kd.R_below (by (with_reducible repeat (first | apply Kd.R_alloc | apply Kd.R_drewN | apply Kd.R_drew)); exact HO110.out) hb); have n3_ := Aside0.mk (below_step (by repeat (first | (with_reducible first | exact HB.out | apply below_alloc | apply pw_below_drewN | apply below_drew1) | exact HB.out)) hb); clear HO103; clear HO108; clear HO110; clear HB; have HO103 := n0_; have HO108 := n1_; have HO110 := n2_; have HB := n3_; clear n0_ n1_ n2_ n3_; (try clear hb); (try clear hb2); (try clear hk); (try clear hi); obtain ⟨Ao30, co30, eo30⟩ := Kd.R_slice HO108.out; subst eo30; have p113 : 0 ≤ (0 : Int) := (by omega); have q113 : 0 < (t104.length : Int) := of_decide_eq_true (by first | (with_reducible assumption) | assumption); obtain ⟨ad113, e113, hx113_0, hx113_1, hx113_2, hx113_3, hx113_4, hx113_5⟩ := at_T73 (Kd.R_reads' HO108.out).2.2 0 p113 q113; cases e113; have qi113 : (0 < t104.length) = True := eq_true (by omega); (try rw [show ((0 : Int)).toNat = 0 from rfl] at hx113_0); (try rw [show 0 * 6 = 0 from rfl] at hx113_0); (try rw [Addr.add_zero'] at hx113_0); (try rw [show ((0 : Int)).toNat = 0 from rfl] at hx113_1); (try rw [show 0 * 6 = 0 from rfl] at hx113_1); (try rw [Addr.add_zero'] at hx113_1); (try rw [show ((0 : Int)).toNat = 0 from rfl] at hx113_2); (try rw [show 0 * 6 = 0 from rfl] at hx113_2); (try rw [Addr.add_zero'] at hx113_2); (try rw [show ((0 : Int)).toNat = 0 from rfl] at hx113_3); (try rw [show 0 * 6 = 0 from rfl] at hx113_3); (try rw [Addr.add_zero'] at hx113_3); (try rw [show ((0 : Int)).toNat = 0 from rfl] at hx113_4); (try rw [show 0 * 6 = 0 from rfl] at hx113_4); (try rw [Addr.add_zero'] at hx113_4); (try rw [show ((0 : Int)).toNat = 0 from rfl] at hx113_5); (try rw [show 0 * 6 = 0 from rfl] at hx113_5); (try rw [Addr.add_zero'] at hx113_5); replace p113 := eq_true p113; replace q113 := eq_true q113; obtain ⟨Ao31, co31, eo31⟩ := Kd.R_slice HO110.out; subst eo31; have p114 : 0 ≤ (0 : Int) := (by omega); have q114 : 0 < (t105.length : Int) := of_decide_eq_true (by first | (with_reducible assumption) | assumption); obtain ⟨ad114, e114, hx114_0⟩ := Kd.at_int (Kd.R_reads' HO110.out).2.2 0 p114 q114; cases e114; have qi114 : (0 < t105.length) = True := eq_true (by omega); (try rw [show ((0 : Int)).toNat = 0 from rfl] at hx114_0); (try rw [Addr.add_zero'] at hx114_0); replace p114 := eq_true p114; replace q114 := eq_true q114))
                  go_ret
                  exact ⟨by first | rfl | (simp [errW_none, errW_some] <;> rfl) | (simp [*, errW_none, errW_some] <;> rfl), by repeat (first | (with_reducible first | exact HB.out | apply below_alloc | apply pw_below_drewN | apply below_drew1) | exact HB.out)⟩
            · rw [if_neg c8] at H
              have c8b0 : ((rd t105 0) == 2) = false := beq_eq_false_iff_ne.mpr c8
              have c8b1 : ((rd t105 0) != 2) = true := bne_iff_ne.mpr c8
              obtain rfl := Option.some.inj H
              go_enter Try.func43, Try.ntmps43
              go_wp2_with (first | ((with_reducible refine gate_dst (N := 10) rfl ?_); (try (refine gate_guard (by rfl) ?_; dsimp only)); refine Kd.R_lit k73 _ 73 ?hg (N := 10) ?hd (xs := ([(⟨1, 1, 0, 0, 5, 0⟩ : S73), (⟨2, 2, 0, 0, 5, 0⟩ : S73), (⟨3, 3, 0, 0, 5, 0⟩ : S73)] : List (S73))) (inner := [.int .u64 1, .int .i64 1, .int .i64 0, .int .i64 0, .int .i64 5, .int .u64 0, .int .u64 2, .int .i64 2, .int .i64 0, .int .i64 0, .int .i64 5, .int .u64 0, .int .u64 3, .int .i64 3, .int .i64 0, .int .i64 0, .int .i64 5, .int .u64 0]) (ok := fun _ => True) (okp := fun _ => True) ?hr ?hp (fun _ hk => hk) trivial (Below.refl _ _) (Nat.le_refl _) (by simp) ?_; (case hd => rfl); (case hg => rfl); (case hr => first | (go_simp; done) | (go_simp; rfl)); (case hp => exact (Reps.c6 (show Kd.M k73 _ _ _ (⟨1, 1, 0, 0, 5, 0⟩ : S73) [.int .u64 1, .int .i64 1, .int .i64 0, .int .i64 0, .int .i64 5, .int .u64 0] from (k73_mkM _ _ _ (⟨1, 1, 0, 0, 5, 0⟩ : S73) )) (Reps.c6 (show Kd.M k73 _ _ _ (⟨2, 2, 0, 0, 5, 0⟩ : S73) [.int .u64 2, .int .i64 2, .int .i64 0, .int .i64 0, .int .i64 5, .int .u64 0] from (k73_mkM _ _ _ (⟨2, 2, 0, 0, 5, 0⟩ : S73) )) (Reps.c6 (show Kd.M k73 _ _ _ (⟨3, 3, 0, 0, 5, 0⟩ : S73) [.int .u64 3, .int .i64 3, .int .i64 0, .int .i64 0, .int .i64 5, .int .u64 0] from (k73_mkM _ _ _ (⟨3, 3, 0, 0, 5, 0⟩ : S73) )) (Reps.none _ _))))); intro v102 w32 ho33 hb hg_ hnew_; clear hg_ hnew_; (first | rw [← Ny101.out] at ho33 | (simp only [Int.reduceToNat] at ho33; rw [← Ny101.out] at ho33)); have n0_ := Aside0.mk (Kd.R_lower ho33 (below_size (by repeat (first | (with_reducible first | exact HB.out | apply below_alloc | apply pw_below_drewN | apply below_drew1) | exact HB.out)))); have n1_ := Aside0.mk (below_step (by repeat (first | (with_reducible first | exact HB.out | apply below_alloc | apply pw_below_drewN | apply below_drew1) | exact HB.out)) hb); clear HB; have HO103 := n0_; have HB := n1_; clear n0_ n1_; clear hb ho33; obtain ⟨Ao34, co34, eo34⟩ := Kd.R_slice HO103.out; subst eo34) | ((with_reducible refine gate_callee (f := 46) rfl ?_); refine goesL_ (some 13) rfl rfl Try.func46 (by kernel_rfl) rfl #[.int .i64 3, .int .i64 2, .slice Ao34 y101.length co34] rfl (by (try simp only [List.map_toArray, List.map_cons, List.map_nil]); first | done | rfl | (simp only [List.length_drop, List.length_take]; rfl)) ?_; (with_reducible refine (own_Meet.calls 3 2 _ _ y101 t104 t105 t106 _ ?side1 ?side2 A1.out).mono ?_); (case side1 => repeat (first | exact (Kd.R_reads' HO103.out).2.2 | (with_reducible refine Kd.C_alloc ?_ _) | (with_reducible refine Kd.C_drewN ?_ _) | (with_reducible refine Kd.C_drew ?_))); (case side2 => exact (Kd.R_reads' HO103.out).2.1); rintro e w35 ⟨v107, v109, rfl, ho0, ho1, hb⟩; refine ⟨_, rfl, ?_⟩; have n0_ := Aside0.mk (Kd.R_elder' (by (with_reducible repeat (first | apply Kd.R_alloc | apply Kd.R_drewN | apply Kd.R_drew)); exact HO103.out) (Kd.R_base ho0) hb); have n1_ := Aside0.mk (Kd.R_lower (Kd.R_new' ho0 (Kd.R_lt (by (with_reducible repeat (first | apply Kd.R_alloc | apply Kd.R_drewN | apply Kd.R_drew)); exact HO103.out))) (below_size (by repeat (first | (with_reducible first | exact HB.out | apply below_alloc | apply pw_below_drewN | apply below_drew1) | exact HB.out)))); have n2_ := Aside0.mk (Kd.R_lower ho1 (below_size (by repeat (first | (with_reducible first | exact HB.out | apply below_alloc | apply pw_below_drewN | apply below_drew1) | exact HB.out)))); have n3_ := Aside0.mk (below_step (by repeat (first | (with_reducible first | exact HB.out | apply below_alloc | apply pw_below_drewN | apply below_drew1) | exact HB.out)) hb); clear HO103; clear HB; have HO103 := n0_; have HO108 := n1_; have HO110 := n2_; have HB := n3_; clear n0_ n1_ n2_ n3_; (try clear hb); (try clear hb2); (try clear hk); (try clear hi); (try clear ho0); (try clear ho1)) | ((with_reducible refine gate_callee (f := 53) rfl ?_); refine goesL_ (some 19) rfl rfl Try.func53 (by kernel_rfl) rfl #[.int .i64 3, .int .i64 2, .slice Ao34 y101.length co34, .int .i64 1] rfl (by (try simp only [List.map_toArray, List.map_cons, List.map_nil]); first | done | rfl | (simp only [List.length_drop, List.length_take]; rfl)) ?_; (with_reducible refine (own_Reach.calls 3 2 _ _ y101 1 t111 t112 _ ?side1 ?side2 A2.out).mono ?_); (case side1 => repeat (first | exact (Kd.R_reads' HO103.out).2.2 | (with_reducible refine Kd.C_alloc ?_ _) | (with_reducible refine Kd.C_drewN ?_ _) | (with_reducible refine Kd.C_drew ?_))); (case side2 => exact (Kd.R_reads' HO103.out).2.1); rintro e w36 ⟨rfl, hb⟩; refine ⟨_, rfl, ?_⟩; have n0_ := Aside0.mk (Kd.R_below (by (with_reducible repeat (first | apply Kd.R_alloc | apply Kd.R_drewN | apply Kd.R_drew)); exact HO103.out) hb); have n1_ := Aside0.mk (Kd.R_below (by (with_reducible repeat (first | apply Kd.R_alloc | apply Kd.R_drewN | apply Kd.R_drew)); exact HO108.out) hb); have n2_ := Aside0.mk (Kd.R_below (by (with_reducible repeat (first | apply Kd.R_alloc | apply Kd.R_drewN | apply Kd.R_drew)); exact HO110.out) hb); have n3_ := Aside0.mk (below_step (by repeat (first | (with_reducible first | exact HB.out | apply below_alloc | apply pw_below_drewN | apply below_drew1) | exact HB.out)) hb); clear HO103; clear HO108; clear HO110; clear HB; have HO103 := n0_; have HO108 := n1_; have HO110 := n2_; have HB := n3_; clear n0_ n1_ n2_ n3_; (try clear hb); (try clear hb2); (try clear hk); (try clear hi); obtain ⟨Ao37, co37, eo37⟩ := Kd.R_slice HO108.out; subst eo37; have p113 : 0 ≤ (0 : Int) := (by omega); have q113 : 0 < (t104.length : Int) := of_decide_eq_true (by first | (with_reducible assumption) | assumption); obtain ⟨ad113, e113, hx113_0, hx113_1, hx113_2, hx113_3, hx113_4, hx113_5⟩ := at_T73 (Kd.R_reads' HO108.out).2.2 0 p113 q113; cases e113; have qi113 : (0 < t104.length) = True := eq_true (by omega); (try rw [show ((0 : Int)).toNat = 0 from rfl] at hx113_0); (try rw [show 0 * 6 = 0 from rfl] at hx113_0); (try rw [Addr.add_zero'] at hx113_0); (try rw [show ((0 : Int)).toNat = 0 from rfl] at hx113_1); (try rw [show 0 * 6 = 0 from rfl] at hx113_1); (try rw [Addr.add_zero'] at hx113_1); (try rw [show ((0 : Int)).toNat = 0 from rfl] at hx113_2); (try rw [show 0 * 6 = 0 from rfl] at hx113_2); (try rw [Addr.add_zero'] at hx113_2); (try rw [show ((0 : Int)).toNat = 0 from rfl] at hx113_3); (try rw [show 0 * 6 = 0 from rfl] at hx113_3); (try rw [Addr.add_zero'] at hx113_3); (try rw [show ((0 : Int)).toNat = 0 from rfl] at hx113_4); (try rw [show 0 * 6 = 0 from rfl] at hx113_4); (try rw [Addr.add_zero'] at hx113_4); (try rw [show ((0 : Int)).toNat = 0 from rfl] at hx113_5); (try rw [show 0 * 6 = 0 from rfl] at hx113_5); (try rw [Addr.add_zero'] at hx113_5); replace p113 := eq_true p113; replace q113 := eq_true q113; obtain ⟨Ao38, co38, eo38⟩ := Kd.R_slice HO110.out; subst eo38; have p114 : 0 ≤ (0 : Int) := (by omega); have q114 : 0 < (t105.length : Int) := of_decide_eq_true (by first | (with_reducible assumption) | assumption); obtain ⟨ad114, e114, hx114_0⟩ := Kd.at_int (Kd.R_reads' HO110.out).2.2 0 p114 q114; cases e114; have qi114 : (0 < t105.length) = True := eq_true (by omega); (try rw [show ((0 : Int)).toNat = 0 from rfl] at hx114_0); (try rw [Addr.add_zero'] at hx114_0); replace p114 := eq_true p114; replace q114 := eq_true q114))
              go_ret
              exact ⟨by first | rfl | (simp [errW_none, errW_some] <;> rfl) | (simp [*, errW_none, errW_some] <;> rfl), by repeat (first | (with_reducible first | exact HB.out | apply below_alloc | apply pw_below_drewN | apply below_drew1) | exact HB.out)⟩
          · rw [if_neg c7] at H
            exact absurd H (by simp)
        · rw [if_neg c6] at H
          have c6b0 : ((t105.length : Int) == 1) = false := beq_eq_false_iff_ne.mpr c6
          have c6b1 : ((t105.length : Int) != 1) = true := bne_iff_ne.mpr c6
          obtain rfl := Option.some.inj H
          go_enter Try.func43, Try.ntmps43
          go_wp2_with (first | ((with_reducible refine gate_dst (N := 10) rfl ?_); (try (refine gate_guard (by rfl) ?_; dsimp only)); refine Kd.R_lit k73 _ 73 ?hg (N := 10) ?hd (xs := ([(⟨1, 1, 0, 0, 5, 0⟩ : S73), (⟨2, 2, 0, 0, 5, 0⟩ : S73), (⟨3, 3, 0, 0, 5, 0⟩ : S73)] : List (S73))) (inner := [.int .u64 1, .int .i64 1, .int .i64 0, .int .i64 0, .int .i64 5, .int .u64 0, .int .u64 2, .int .i64 2, .int .i64 0, .int .i64 0, .int .i64 5, .int .u64 0, .int .u64 3, .int .i64 3, .int .i64 0, .int .i64 0, .int .i64 5, .int .u64 0]) (ok := fun _ => True) (okp := fun _ => True) ?hr ?hp (fun _ hk => hk) trivial (Below.refl _ _) (Nat.le_refl _) (by simp) ?_; (case hd => rfl); (case hg => rfl); (case hr => first | (go_simp; done) | (go_simp; rfl)); (case hp => exact (Reps.c6 (show Kd.M k73 _ _ _ (⟨1, 1, 0, 0, 5, 0⟩ : S73) [.int .u64 1, .int .i64 1, .int .i64 0, .int .i64 0, .int .i64 5, .int .u64 0] from (k73_mkM _ _ _ (⟨1, 1, 0, 0, 5, 0⟩ : S73) )) (Reps.c6 (show Kd.M k73 _ _ _ (⟨2, 2, 0, 0, 5, 0⟩ : S73) [.int .u64 2, .int .i64 2, .int .i64 0, .int .i64 0, .int .i64 5, .int .u64 0] from (k73_mkM _ _ _ (⟨2, 2, 0, 0, 5, 0⟩ : S73) )) (Reps.c6 (show Kd.M k73 _ _ _ (⟨3, 3, 0, 0, 5, 0⟩ : S73) [.int .u64 3, .int .i64 3, .int .i64 0, .int .i64 0, .int .i64 5, .int .u64 0] from (k73_mkM _ _ _ (⟨3, 3, 0, 0, 5, 0⟩ : S73) )) (Reps.none _ _))))); intro v102 w39 ho40 hb hg_ hnew_; clear hg_ hnew_; (first | rw [← Ny101.out] at ho40 | (simp only [Int.reduceToNat] at ho40; rw [← Ny101.out] at ho40)); have n0_ := Aside0.mk (Kd.R_lower ho40 (below_size (by repeat (first | (with_reducible first | exact HB.out | apply below_alloc | apply pw_below_drewN | apply below_drew1) | exact HB.out)))); have n1_ := Aside0.mk (below_step (by repeat (first | (with_reducible first | exact HB.out | apply below_alloc | apply pw_below_drewN | apply below_drew1) | exact HB.out)) hb); clear HB; have HO103 := n0_; have HB := n1_; clear n0_ n1_; clear hb ho40; obtain ⟨Ao41, co41, eo41⟩ := Kd.R_slice HO103.out; subst eo41) | ((with_reducible refine gate_callee (f := 46) rfl ?_); refine goesL_ (some 13) rfl rfl Try.func46 (by kernel_rfl) rfl #[.int .i64 3, .int .i64 2, .slice Ao41 y101.length co41] rfl (by (try simp only [List.map_toArray, List.map_cons, List.map_nil]); first | done | rfl | (simp only [List.length_drop, List.length_take]; rfl)) ?_; (with_reducible refine (own_Meet.calls 3 2 _ _ y101 t104 t105 t106 _ ?side1 ?side2 A1.out).mono ?_); (case side1 => repeat (first | exact (Kd.R_reads' HO103.out).2.2 | (with_reducible refine Kd.C_alloc ?_ _) | (with_reducible refine Kd.C_drewN ?_ _) | (with_reducible refine Kd.C_drew ?_))); (case side2 => exact (Kd.R_reads' HO103.out).2.1); rintro e w42 ⟨v107, v109, rfl, ho0, ho1, hb⟩; refine ⟨_, rfl, ?_⟩; have n0_ := Aside0.mk (Kd.R_elder' (by (with_reducible repeat (first | apply Kd.R_alloc | apply Kd.R_drewN | apply Kd.R_drew)); exact HO103.out) (Kd.R_base ho0) hb); have n1_ := Aside0.mk (Kd.R_lower (Kd.R_new' ho0 (Kd.R_lt (by (with_reducible repeat (first | apply Kd.R_alloc | apply Kd.R_drewN | apply Kd.R_drew)); exact HO103.out))) (below_size (by repeat (first | (with_reducible first | exact HB.out | apply below_alloc | apply pw_below_drewN | apply below_drew1) | exact HB.out)))); have n2_ := Aside0.mk (Kd.R_lower ho1 (below_size (by repeat (first | (with_reducible first | exact HB.out | apply below_alloc | apply pw_below_drewN | apply below_drew1) | exact HB.out)))); have n3_ := Aside0.mk (below_step (by repeat (first | (with_reducible first | exact HB.out | apply below_alloc | apply pw_below_drewN | apply below_drew1) | exact HB.out)) hb); clear HO103; clear HB; have HO103 := n0_; have HO108 := n1_; have HO110 := n2_; have HB := n3_; clear n0_ n1_ n2_ n3_; (try clear hb); (try clear hb2); (try clear hk); (try clear hi); (try clear ho0); (try clear ho1)) | ((with_reducible refine gate_callee (f := 53) rfl ?_); refine goesL_ (some 19) rfl rfl Try.func53 (by kernel_rfl) rfl #[.int .i64 3, .int .i64 2, .slice Ao41 y101.length co41, .int .i64 1] rfl (by (try simp only [List.map_toArray, List.map_cons, List.map_nil]); first | done | rfl | (simp only [List.length_drop, List.length_take]; rfl)) ?_; (with_reducible refine (own_Reach.calls 3 2 _ _ y101 1 t111 t112 _ ?side1 ?side2 A2.out).mono ?_); (case side1 => repeat (first | exact (Kd.R_reads' HO103.out).2.2 | (with_reducible refine Kd.C_alloc ?_ _) | (with_reducible refine Kd.C_drewN ?_ _) | (with_reducible refine Kd.C_drew ?_))); (case side2 => exact (Kd.R_reads' HO103.out).2.1); rintro e w43 ⟨rfl, hb⟩; refine ⟨_, rfl, ?_⟩; have n0_ := Aside0.mk (Kd.R_below (by (with_reducible repeat (first | apply Kd.R_alloc | apply Kd.R_drewN | apply Kd.R_drew)); exact HO103.out) hb); have n1_ := Aside0.mk (Kd.R_below (by (with_reducible repeat (first | apply Kd.R_alloc | apply Kd.R_drewN | apply Kd.R_drew)); exact HO108.out) hb); have n2_ := Aside0.mk (Kd.R_below (by (with_reducible repeat (first | apply Kd.R_alloc | apply Kd.R_drewN | apply Kd.R_drew)); exact HO110.out) hb); have n3_ := Aside0.mk (below_step (by repeat (first | (with_reducible first | exact HB.out | apply below_alloc | apply pw_below_drewN | apply below_drew1) | exact HB.out)) hb); clear HO103; clear HO108; clear HO110; clear HB; have HO103 := n0_; have HO108 := n1_; have HO110 := n2_; have HB := n3_; clear n0_ n1_ n2_ n3_; (try clear hb); (try clear hb2); (try clear hk); (try clear hi); obtain ⟨Ao44, co44, eo44⟩ := Kd.R_slice HO108.out; subst eo44; have p113 : 0 ≤ (0 : Int) := (by omega); have q113 : 0 < (t104.length : Int) := of_decide_eq_true (by first | (with_reducible assumption) | assumption); obtain ⟨ad113, e113, hx113_0, hx113_1, hx113_2, hx113_3, hx113_4, hx113_5⟩ := at_T73 (Kd.R_reads' HO108.out).2.2 0 p113 q113; cases e113; have qi113 : (0 < t104.length) = True := eq_true (by omega); (try rw [show ((0 : Int)).toNat = 0 from rfl] at hx113_0); (try rw [show 0 * 6 = 0 from rfl] at hx113_0); (try rw [Addr.add_zero'] at hx113_0); (try rw [show ((0 : Int)).toNat = 0 from rfl] at hx113_1); (try rw [show 0 * 6 = 0 from rfl] at hx113_1); (try rw [Addr.add_zero'] at hx113_1); (try rw [show ((0 : Int)).toNat = 0 from rfl] at hx113_2); (try rw [show 0 * 6 = 0 from rfl] at hx113_2); (try rw [Addr.add_zero'] at hx113_2); (try rw [show ((0 : Int)).toNat = 0 from rfl] at hx113_3); (try rw [show 0 * 6 = 0 from rfl] at hx113_3); (try rw [Addr.add_zero'] at hx113_3); (try rw [show ((0 : Int)).toNat = 0 from rfl] at hx113_4); (try rw [show 0 * 6 = 0 from rfl] at hx113_4); (try rw [Addr.add_zero'] at hx113_4); (try rw [show ((0 : Int)).toNat = 0 from rfl] at hx113_5); (try rw [show 0 * 6 = 0 from rfl] at hx113_5); (try rw [Addr.add_zero'] at hx113_5); replace p113 := eq_true p113; replace q113 := eq_true q113; obtain ⟨Ao45, co45, eo45⟩ := Kd.R_slice HO110.out; subst eo45))
          go_ret
          exact ⟨by first | rfl | (simp [errW_none, errW_some] <;> rfl) | (simp [*, errW_none, errW_some] <;> rfl), by repeat (first | (with_reducible first | exact HB.out | apply below_alloc | apply pw_below_drewN | apply below_drew1) | exact HB.out)⟩
      · rw [if_neg c5] at H
        have c5b0 : (((rd_T73 t104 0).f0) == 1) = false := beq_eq_false_iff_ne.mpr c5
        have c5b1 : (((rd_T73 t104 0).f0) != 1) = true := bne_iff_ne.mpr c5
        obtain rfl := Option.some.inj H
        go_enter Try.func43, Try.ntmps43
        go_wp2_with (first | ((with_reducible refine gate_dst (N := 10) rfl ?_); (try (refine gate_guard (by rfl) ?_; dsimp only)); refine Kd.R_lit k73 _ 73 ?hg (N := 10) ?hd (xs := ([(⟨1, 1, 0, 0, 5, 0⟩ : S73), (⟨2, 2, 0, 0, 5, 0⟩ : S73), (⟨3, 3, 0, 0, 5, 0⟩ : S73)] : List (S73))) (inner := [.int .u64 1, .int .i64 1, .int .i64 0, .int .i64 0, .int .i64 5, .int .u64 0, .int .u64 2, .int .i64 2, .int .i64 0, .int .i64 0, .int .i64 5, .int .u64 0, .int .u64 3, .int .i64 3, .int .i64 0, .int .i64 0, .int .i64 5, .int .u64 0]) (ok := fun _ => True) (okp := fun _ => True) ?hr ?hp (fun _ hk => hk) trivial (Below.refl _ _) (Nat.le_refl _) (by simp) ?_; (case hd => rfl); (case hg => rfl); (case hr => first | (go_simp; done) | (go_simp; rfl)); (case hp => exact (Reps.c6 (show Kd.M k73 _ _ _ (⟨1, 1, 0, 0, 5, 0⟩ : S73) [.int .u64 1, .int .i64 1, .int .i64 0, .int .i64 0, .int .i64 5, .int .u64 0] from (k73_mkM _ _ _ (⟨1, 1, 0, 0, 5, 0⟩ : S73) )) (Reps.c6 (show Kd.M k73 _ _ _ (⟨2, 2, 0, 0, 5, 0⟩ : S73) [.int .u64 2, .int .i64 2, .int .i64 0, .int .i64 0, .int .i64 5, .int .u64 0] from (k73_mkM _ _ _ (⟨2, 2, 0, 0, 5, 0⟩ : S73) )) (Reps.c6 (show Kd.M k73 _ _ _ (⟨3, 3, 0, 0, 5, 0⟩ : S73) [.int .u64 3, .int .i64 3, .int .i64 0, .int .i64 0, .int .i64 5, .int .u64 0] from (k73_mkM _ _ _ (⟨3, 3, 0, 0, 5, 0⟩ : S73) )) (Reps.none _ _))))); intro v102 w46 ho47 hb hg_ hnew_; clear hg_ hnew_; (first | rw [← Ny101.out] at ho47 | (simp only [Int.reduceToNat] at ho47; rw [← Ny101.out] at ho47)); have n0_ := Aside0.mk (Kd.R_lower ho47 (below_size (by repeat (first | (with_reducible first | exact HB.out | apply below_alloc | apply pw_below_drewN | apply below_drew1) | exact HB.out)))); have n1_ := Aside0.mk (below_step (by repeat (first | (with_reducible first | exact HB.out | apply below_alloc | apply pw_below_drewN | apply below_drew1) | exact HB.out)) hb); clear HB; have HO103 := n0_; have HB := n1_; clear n0_ n1_; clear hb ho47; obtain ⟨Ao48, co48, eo48⟩ := Kd.R_slice HO103.out; subst eo48) | ((with_reducible refine gate_callee (f := 46) rfl ?_); refine goesL_ (some 13) rfl rfl Try.func46 (by kernel_rfl) rfl #[.int .i64 3, .int .i64 2, .slice Ao48 y101.length co48] rfl (by (try simp only [List.map_toArray, List.map_cons, List.map_nil]); first | done | rfl | (simp only [List.length_drop, List.length_take]; rfl)) ?_; (with_reducible refine (own_Meet.calls 3 2 _ _ y101 t104 t105 t106 _ ?side1 ?side2 A1.out).mono ?_); (case side1 => repeat (first | exact (Kd.R_reads' HO103.out).2.2 | (with_reducible refine Kd.C_alloc ?_ _) | (with_reducible refine Kd.C_drewN ?_ _) | (with_reducible refine Kd.C_drew ?_))); (case side2 => exact (Kd.R_reads' HO103.out).2.1); rintro e w49 ⟨v107, v109, rfl, ho0, ho1, hb⟩; refine ⟨_, rfl, ?_⟩; have n0_ := Aside0.mk (Kd.R_elder' (by (with_reducible repeat (first | apply Kd.R_alloc | apply Kd.R_drewN | apply Kd.R_drew)); exact HO103.out) (Kd.R_base ho0) hb); have n1_ := Aside0.mk (Kd.R_lower (Kd.R_new' ho0 (Kd.R_lt (by (with_reducible repeat (first | apply Kd.R_alloc | apply Kd.R_drewN | apply Kd.R_drew)); exact HO103.out))) (below_size (by repeat (first | (with_reducible first | exact HB.out | apply below_alloc | apply pw_below_drewN | apply below_drew1) | exact HB.out)))); have n2_ := Aside0.mk (Kd.R_lower ho1 (below_size (by repeat (first | (with_reducible first | exact HB.out | apply below_alloc | apply pw_below_drewN | apply below_drew1) | exact HB.out)))); have n3_ := Aside0.mk (below_step (by repeat (first | (with_reducible first | exact HB.out | apply below_alloc | apply pw_below_drewN | apply below_drew1) | exact HB.out)) hb); clear HO103; clear HB; have HO103 := n0_; have HO108 := n1_; have HO110 := n2_; have HB := n3_; clear n0_ n1_ n2_ n3_; (try clear hb); (try clear hb2); (try clear hk); (try clear hi); (try clear ho0); (try clear ho1)) | ((with_reducible refine gate_callee (f := 53) rfl ?_); refine goesL_ (some 19) rfl rfl Try.func53 (by kernel_rfl) rfl #[.int .i64 3, .int .i64 2, .slice Ao48 y101.length co48, .int .i64 1] rfl (by (try simp only [List.map_toArray, List.map_cons, List.map_nil]); first | done | rfl | (simp only [List.length_drop, List.length_take]; rfl)) ?_; (with_reducible refine (own_Reach.calls 3 2 _ _ y101 1 t111 t112 _ ?side1 ?side2 A2.out).mono ?_); (case side1 => repeat (first | exact (Kd.R_reads' HO103.out).2.2 | (with_reducible refine Kd.C_alloc ?_ _) | (with_reducible refine Kd.C_drewN ?_ _) | (with_reducible refine Kd.C_drew ?_))); (case side2 => exact (Kd.R_reads' HO103.out).2.1); rintro e w50 ⟨rfl, hb⟩; refine ⟨_, rfl, ?_⟩; have n0_ := Aside0.mk (Kd.R_below (by (with_reducible repeat (first | apply Kd.R_alloc | apply Kd.R_drewN | apply Kd.R_drew)); exact HO103.out) hb); have n1_ := Aside0.mk (Kd.R_below (by (with_reducible repeat (first | apply Kd.R_alloc | apply Kd.R_drewN | apply Kd.R_drew)); exact HO108.out) hb); have n2_ := Aside0.mk (Kd.R_below (by (with_reducible repeat (first | apply Kd.R_alloc | apply Kd.R_drewN | apply Kd.R_drew)); exact HO110.out) hb); have n3_ := Aside0.mk (below_step (by repeat (first | (with_reducible first | exact HB.out | apply below_alloc | apply pw_below_drewN | apply below_drew1) | exact HB.out)) hb); clear HO103; clear HO108; clear HO110; clear HB; have HO103 := n0_; have HO108 := n1_; have HO110 := n2_; have HB := n3_; clear n0_ n1_ n2_ n3_; (try clear hb); (try clear hb2); (try clear hk); (try clear hi); obtain ⟨Ao51, co51, eo51⟩ := Kd.R_slice HO108.out; subst eo51; have p113 : 0 ≤ (0 : Int) := (by omega); have q113 : 0 < (t104.length : Int) := of_decide_eq_true (by first | (with_reducible assumption) | assumption); obtain ⟨ad113, e113, hx113_0, hx113_1, hx113_2, hx113_3, hx113_4, hx113_5⟩ := at_T73 (Kd.R_reads' HO108.out).2.2 0 p113 q113; cases e113; have qi113 : (0 < t104.length) = True := eq_true (by omega); (try rw [show ((0 : Int)).toNat = 0 from rfl] at hx113_0); (try rw [show 0 * 6 = 0 from rfl] at hx113_0); (try rw [Addr.add_zero'] at hx113_0); (try rw [show ((0 : Int)).toNat = 0 from rfl] at hx113_1); (try rw [show 0 * 6 = 0 from rfl] at hx113_1); (try rw [Addr.add_zero'] at hx113_1); (try rw [show ((0 : Int)).toNat = 0 from rfl] at hx113_2); (try rw [show 0 * 6 = 0 from rfl] at hx113_2); (try rw [Addr.add_zero'] at hx113_2); (try rw [show ((0 : Int)).toNat = 0 from rfl] at hx113_3); (try rw [show 0 * 6 = 0 from rfl] at hx113_3); (try rw [Addr.add_zero'] at hx113_3); (try rw [show ((0 : Int)).toNat = 0 from rfl] at hx113_4); (try rw [show 0 * 6 = 0 from rfl] at hx113_4); (try rw [Addr.add_zero'] at hx113_4); (try rw [show ((0 : Int)).toNat = 0 from rfl] at hx113_5); (try rw [show 0 * 6 = 0 from rfl] at hx113_5); (try rw [Addr.add_zero'] at hx113_5); replace p113 := eq_true p113; replace q113 := eq_true q113))
        go_ret
        exact ⟨by first | rfl | (simp [errW_none, errW_some] <;> rfl) | (simp [*, errW_none, errW_some] <;> rfl), by repeat (first | (with_reducible first | exact HB.out | apply below_alloc | apply pw_below_drewN | apply below_drew1) | exact HB.out)⟩
    · rw [if_neg c4] at H
      exact absurd H (by simp)
  · rw [if_neg c3] at H
    have c3b0 : ((t104.length : Int) == 1) = false := beq_eq_false_iff_ne.mpr c3
    have c3b1 : ((t104.length : Int) != 1) = true := bne_iff_ne.mpr c3
    obtain rfl := Option.some.inj H
    go_enter Try.func43, Try.ntmps43
    go_wp2_with (first | ((with_reducible refine gate_dst (N := 10) rfl ?_); (try (refine gate_guard (by rfl) ?_; dsimp only)); refine Kd.R_lit k73 _ 73 ?hg (N := 10) ?hd (xs := ([(⟨1, 1, 0, 0, 5, 0⟩ : S73), (⟨2, 2, 0, 0, 5, 0⟩ : S73), (⟨3, 3, 0, 0, 5, 0⟩ : S73)] : List (S73))) (inner := [.int .u64 1, .int .i64 1, .int .i64 0, .int .i64 0, .int .i64 5, .int .u64 0, .int .u64 2, .int .i64 2, .int .i64 0, .int .i64 0, .int .i64 5, .int .u64 0, .int .u64 3, .int .i64 3, .int .i64 0, .int .i64 0, .int .i64 5, .int .u64 0]) (ok := fun _ => True) (okp := fun _ => True) ?hr ?hp (fun _ hk => hk) trivial (Below.refl _ _) (Nat.le_refl _) (by simp) ?_; (case hd => rfl); (case hg => rfl); (case hr => first | (go_simp; done) | (go_simp; rfl)); (case hp => exact (Reps.c6 (show Kd.M k73 _ _ _ (⟨1, 1, 0, 0, 5, 0⟩ : S73) [.int .u64 1, .int .i64 1, .int .i64 0, .int .i64 0, .int .i64 5, .int .u64 0] from (k73_mkM _ _ _ (⟨1, 1, 0, 0, 5, 0⟩ : S73) )) (Reps.c6 (show Kd.M k73 _ _ _ (⟨2, 2, 0, 0, 5, 0⟩ : S73) [.int .u64 2, .int .i64 2, .int .i64 0, .int .i64 0, .int .i64 5, .int .u64 0] from (k73_mkM _ _ _ (⟨2, 2, 0, 0, 5, 0⟩ : S73) )) (Reps.c6 (show Kd.M k73 _ _ _ (⟨3, 3, 0, 0, 5, 0⟩ : S73) [.int .u64 3, .int .i64 3, .int .i64 0, .int .i64 0, .int .i64 5, .int .u64 0] from (k73_mkM _ _ _ (⟨3, 3, 0, 0, 5, 0⟩ : S73) )) (Reps.none _ _))))); intro v102 w52 ho53 hb hg_ hnew_; clear hg_ hnew_; (first | rw [← Ny101.out] at ho53 | (simp only [Int.reduceToNat] at ho53; rw [← Ny101.out] at ho53)); have n0_ := Aside0.mk (Kd.R_lower ho53 (below_size (by repeat (first | (with_reducible first | exact HB.out | apply below_alloc | apply pw_below_drewN | apply below_drew1) | exact HB.out)))); have n1_ := Aside0.mk (below_step (by repeat (first | (with_reducible first | exact HB.out | apply below_alloc | apply pw_below_drewN | apply below_drew1) | exact HB.out)) hb); clear HB; have HO103 := n0_; have HB := n1_; clear n0_ n1_; clear hb ho53; obtain ⟨Ao54, co54, eo54⟩ := Kd.R_slice HO103.out; subst eo54) | ((with_reducible refine gate_callee (f := 46) rfl ?_); refine goesL_ (some 13) rfl rfl Try.func46 (by kernel_rfl) rfl #[.int .i64 3, .int .i64 2, .slice Ao54 y101.length co54] rfl (by (try simp only [List.map_toArray, List.map_cons, List.map_nil]); first | done | rfl | (simp only [List.length_drop, List.length_take]; rfl)) ?_; (with_reducible refine (own_Meet.calls 3 2 _ _ y101 t104 t105 t106 _ ?side1 ?side2 A1.out).mono ?_); (case side1 => repeat (first | exact (Kd.R_reads' HO103.out).2.2 | (with_reducible refine Kd.C_alloc ?_ _) | (with_reducible refine Kd.C_drewN ?_ _) | (with_reducible refine Kd.C_drew ?_))); (case side2 => exact (Kd.R_reads' HO103.out).2.1); rintro e w55 ⟨v107, v109, rfl, ho0, ho1, hb⟩; refine ⟨_, rfl, ?_⟩; have n0_ := Aside0.mk (Kd.R_elder' (by (with_reducible repeat (first | apply Kd.R_alloc | apply Kd.R_drewN | apply Kd.R_drew)); exact HO103.out) (Kd.R_base ho0) hb); have n1_ := Aside0.mk (Kd.R_lower (Kd.R_new' ho0 (Kd.R_lt (by (with_reducible repeat (first | apply Kd.R_alloc | apply Kd.R_drewN | apply Kd.R_drew)); exact HO103.out))) (below_size (by repeat (first | (with_reducible first | exact HB.out | apply below_alloc | apply pw_below_drewN | apply below_drew1) | exact HB.out)))); have n2_ := Aside0.mk (Kd.R_lower ho1 (below_size (by repeat (first | (with_reducible first | exact HB.out | apply below_alloc | apply pw_below_drewN | apply below_drew1) | exact HB.out)))); have n3_ := Aside0.mk (below_step (by repeat (first | (with_reducible first | exact HB.out | apply below_alloc | apply pw_below_drewN | apply below_drew1) | exact HB.out)) hb); clear HO103; clear HB; have HO103 := n0_; have HO108 := n1_; have HO110 := n2_; have HB := n3_; clear n0_ n1_ n2_ n3_; (try clear hb); (try clear hb2); (try clear hk); (try clear hi); (try clear ho0); (try clear ho1)) | ((with_reducible refine gate_callee (f := 53) rfl ?_); refine goesL_ (some 19) rfl rfl Try.func53 (by kernel_rfl) rfl #[.int .i64 3, .int .i64 2, .slice Ao54 y101.length co54, .int .i64 1] rfl (by (try simp only [List.map_toArray, List.map_cons, List.map_nil]); first | done | rfl | (simp only [List.length_drop, List.length_take]; rfl)) ?_; (with_reducible refine (own_Reach.calls 3 2 _ _ y101 1 t111 t112 _ ?side1 ?side2 A2.out).mono ?_); (case side1 => repeat (first | exact (Kd.R_reads' HO103.out).2.2 | (with_reducible refine Kd.C_alloc ?_ _) | (with_reducible refine Kd.C_drewN ?_ _) | (with_reducible refine Kd.C_drew ?_))); (case side2 => exact (Kd.R_reads' HO103.out).2.1); rintro e w56 ⟨rfl, hb⟩; refine ⟨_, rfl, ?_⟩; have n0_ := Aside0.mk (Kd.R_below (by (with_reducible repeat (first | apply Kd.R_alloc | apply Kd.R_drewN | apply Kd.R_drew)); exact HO103.out) hb); have n1_ := Aside0.mk (Kd.R_below (by (with_reducible repeat (first | apply Kd.R_alloc | apply Kd.R_drewN | apply Kd.R_drew)); exact HO108.out) hb); have n2_ := Aside0.mk (Kd.R_below (by (with_reducible repeat (first | apply Kd.R_alloc | apply Kd.R_drewN | apply Kd.R_drew)); exact HO110.out) hb); have n3_ := Aside0.mk (below_step (by repeat (first | (with_reducible first | exact HB.out | apply below_alloc | apply pw_below_drewN | apply below_drew1) | exact HB.out)) hb); clear HO103; clear HO108; clear HO110; clear HB; have HO103 := n0_; have HO108 := n1_; have HO110 := n2_; have HB := n3_; clear n0_ n1_ n2_ n3_; (try clear hb); (try clear hb2); (try clear hk); (try clear hi); obtain ⟨Ao57, co57, eo57⟩ := Kd.R_slice HO108.out; subst eo57))
    go_ret
    exact ⟨by first | rfl | (simp [errW_none, errW_some] <;> rfl) | (simp [*, errW_none, errW_some] <;> rfl), by repeat (first | (with_reducible first | exact HB.out | apply below_alloc | apply pw_below_drewN | apply below_drew1) | exact HB.out)⟩

end Go.Proofs.Ytdfkbdcdgbjgcaa.OwnM
