/- Printed by this session's wip/drive.py over the translation; some functions by hand. -/
import Derived.Test.YtdfkbdcdgbjgcaaChax0
namespace Go.Proofs.Ytdfkbdcdgbjgcaa.Cha
open Go.RowKit Go.Proofs.YtdfkbdcdgbjgcaaW.PrintWords Go.Proofs.YtdfkbdcdgbjgcaaW.PrintLast Go.Proofs.YtdfkbdcdgbjgcaaW.PrintMore
attribute [local go_sem] max2_int min2_int max_two min_two max_three min_three max_four min_four   -- for this text's walks alone
set_option linter.unusedVariables false
set_option linter.unusedSimpArgs false

theorem ret_int {k : IntKind} {a b : Int} (h : a = b) : Ending.returned (.int k a) = .returned (.int k b) := by rw [h]
def ixB {α : Type} (P : α → Bool) (l : List α) : Int := if l.findIdx P < l.length then ((l.findIdx P : Nat) : Int) else -1
theorem ixB_hit {α : Type} {l : List α} {P : α → Bool} (z : α) {i : Int} (h0 : 0 ≤ i) (h1 : i < (l.length : Int)) (ha : ∀ j : Nat, j < i.toNat → P (l.getD j z) = false) (hp : P (l.getD i.toNat z) = true) : ixB P l = i := by
  have hl : i.toNat < l.length := by omega
  have e : l.findIdx P = i.toNat := by
    refine (List.findIdx_eq hl).2 ⟨?_, fun j hj => ?_⟩
    · rw [List.getD_eq_getElem?_getD, List.getElem?_eq_getElem hl] at hp
      exact hp
    · have := ha j hj
      rw [List.getD_eq_getElem?_getD, List.getElem?_eq_getElem (by omega)] at this
      exact this
  unfold ixB
  rw [e, if_pos hl]
  omega
theorem ixB_none {α : Type} {l : List α} {P : α → Bool} (z : α) (ha : ∀ j : Nat, j < l.length → P (l.getD j z) = false) : ixB P l = -1 := by
  have e : l.findIdx P = l.length := by
    refine List.findIdx_eq_length.2 (fun x hx => ?_)
    obtain ⟨j, hj, rfl⟩ := List.mem_iff_getElem.1 hx
    have := ha j hj
    rw [List.getD_eq_getElem?_getD, List.getElem?_eq_getElem hj] at this
    exact this
  unfold ixB
  rw [e, if_neg (by omega)]


/-! ### jobberlaw05_light: function 15 -/
def jobberlaw05_light.l0 : Nat → List Int → List (S34) → List (S34) → Int → Int → Option (Bool)
  | 0, _, _, _, _, _ => none
  | k + 1, x0, x1, x7, x8, x9 => if x9 < x8 then (if 0 ≤ x9 then (if x9 < (x7.length : Int) then (if (((rd_T34 x7 x9).f4).length : Int) > 60 then (some false) else (jobberlaw05_light.l0 k x0 x1 x7 x8 (wrap64 (x9 + 1)))) else (none)) else (none)) else (if (x0.length : Int) ≤ 1000 then (some (decide ((x1.length : Int) ≤ 60))) else (some false))
def jobberlaw05_light.f (k : Nat) (l0 : List Int) (l1 : List (S34)) : Option (Bool) := jobberlaw05_light.l0 k l0 l1 l1 (l1.length : Int) 0
theorem jobberlaw05_light.mono_l : ∀ k, (∀ y0 y1 y2 y3 y4, LeO (jobberlaw05_light.l0 k y0 y1 y2 y3 y4) (jobberlaw05_light.l0 (k + 1) y0 y1 y2 y3 y4))
  | 0 => fun _ _ _ _ _ r h => by simp [jobberlaw05_light.l0] at h
  | k + 1 => by
    have ih0 := jobberlaw05_light.mono_l k
    · intro y0 y1 y2 y3 y4
      unfold jobberlaw05_light.l0
      repeat' first
      | (with_reducible exact ih0 _ _ _ _ _)
      | (with_reducible exact LeO.refl _)
      | (with_reducible exact LeO.none _)
      | (with_reducible refine LeO.ite ?_ ?_)
      | (with_reducible refine LeO.bind ?_ (fun _ => ?_))
      | exact ih0 _ _ _ _ _
      | exact LeO.none _
      | refine LeO.ite ?_ ?_
      | refine LeO.bind ?_ (fun _ => ?_)
theorem jobberlaw05_light.mono : ∀ a0 a1 k, LeO (jobberlaw05_light.f k a0 a1) (jobberlaw05_light.f (k + 1) a0 a1) := by
  intro a0 a1 k
  have ih0 := jobberlaw05_light.mono_l k
  unfold jobberlaw05_light.f
  repeat' first
      | (with_reducible exact ih0 _ _ _ _ _)
      | (with_reducible exact LeO.refl _)
      | (with_reducible exact LeO.none _)
      | (with_reducible refine LeO.ite ?_ ?_)
      | (with_reducible refine LeO.bind ?_ (fun _ => ?_))
      | exact ih0 _ _ _ _ _
      | exact LeO.none _
      | refine LeO.ite ?_ ?_
      | refine LeO.bind ?_ (fun _ => ?_)
set_option maxHeartbeats 8000000 in
set_option maxRecDepth 100000 in
theorem jobberlaw05_light.calls (k : Nat) (A0 : Option Addr) (c0 : Nat) (l0 : List Int) (A1 : Option Addr) (c1 : Nat) (l1 : List (S34)) (r : Bool) (w : World) (hr0 : Kd.C (Kd.int .u8) w A0 l0.length l0) (hc0 : l0.length ≤ c0) (hr1 : Kd.C k34 w A1 l1.length l1) (hc1 : l1.length ≤ c1) (h : jobberlaw05_light.f k l0 l1 = some r) :
    Calls Try.prog 15 #[.slice A0 l0.length c0, .slice A1 l1.length c1] w fun e w' => e = .returned (.bool r) ∧ Below w.heap.size w w' := by
  have hu34 := Try.underlying34
  have HR0 := Aside0.mk hr0
  have HC0 := Aside0.mk hc0
  clear hr0 hc0
  have HR1 := Aside0.mk hr1
  have HC1 := Aside0.mk hc1
  clear hr1 hc1
  have HB := Aside0.mk (Below.refl w.heap.size w)
  have H : (jobberlaw05_light.l0 k l0 l1 l1 (l1.length : Int) 0) = some r := h
  clear h
  have H' := Aside0.mk H
  clear H
  go_enter Try.func15, Try.ntmps15
  go_wp2
  go_loopg [9] k (fun kq v9 w' => ∃ (x9_1 : Int), v9 = .int .i64 x9_1 ∧ Aside0 (jobberlaw05_light.l0 kq l0 l1 l1 (l1.length : Int) x9_1 = some r) ∧ Aside0 (kq ≤ k) ∧ Aside0 (Below w.heap.size w w'))
  case atStart => exact ⟨(0), (by first | rfl | (simp; done) | (simp [*]; done)), H', ⟨Nat.le_refl _⟩, ⟨by repeat (first | (with_reducible first | exact HB.out | apply below_alloc | apply pw_below_drewN | apply below_drew1) | exact HB.out)⟩⟩
  case round =>
    clear H'
    try clear c1
    try clear p2
    obtain ⟨x9_1, rfl, HA, HK1, HB⟩ := hrel
    cases gk with
    | zero => exact absurd HA.out (by simp [jobberlaw05_light.l0])
    | succ k1 =>
      have H := HA.out
      clear HA
      simp only [jobberlaw05_light.l0] at H
      by_cases c3 : x9_1 < (l1.length : Int)
      · rw [if_pos c3] at H
        have c3b0 : decide (x9_1 < (l1.length : Int)) = true := decide_eq_true c3
        clear c3
        by_cases c4 : 0 ≤ x9_1
        · rw [if_pos c4] at H
          have c4b0 : decide (0 ≤ x9_1) = true := decide_eq_true c4
          clear c4
          by_cases c5 : x9_1 < (l1.length : Int)
          · rw [if_pos c5] at H
            have c5b0 : decide (x9_1 < (l1.length : Int)) = true := decide_eq_true c5
            clear c5
            by_cases c6 : (((rd_T34 l1 x9_1).f4).length : Int) > 60
            · rw [if_pos c6] at H
              have c6b0 : decide (60 < (((rd_T34 l1 x9_1).f4).length : Int)) = true := decide_eq_true c6
              have c6b1 : decide (60 < ((rd_T34 l1 x9_1).f4).length) = true := decide_eq_true (by omega)
              clear c6
              obtain rfl := Option.some.inj H
              have p101 : 0 ≤ (x9_1 : Int) := of_decide_eq_true (by first | (with_reducible assumption) | assumption)
              have q101 : x9_1 < (l1.length : Int) := of_decide_eq_true (by first | (with_reducible assumption) | assumption)
              obtain ⟨ad101, A101_4, c101_4, e101, hx101_0, hx101_1, hx101_2, hx101_3, hx101_4, hl101_4, hi101_4⟩ := at_T34 HR1.out x9_1 p101 q101
              cases e101
              replace hx101_0 := (HB.out.cell (World.block_lt_of_cell? w _ hx101_0)).trans hx101_0
              replace hx101_1 := (HB.out.cell (World.block_lt_of_cell? w _ hx101_1)).trans hx101_1
              replace hx101_2 := (HB.out.cell (World.block_lt_of_cell? w _ hx101_2)).trans hx101_2
              replace hx101_3 := (HB.out.cell (World.block_lt_of_cell? w _ hx101_3)).trans hx101_3
              replace hx101_4 := (HB.out.cell (World.block_lt_of_cell? w _ hx101_4)).trans hx101_4
              have HR101_4 := Aside0.mk hi101_4
              have HC101_4 := Aside0.mk hl101_4
              clear hi101_4 hl101_4
              replace p101 := eq_true p101
              replace q101 := eq_true q101
              go_wp2_with (first | ((with_reducible refine gate_dst (N := 6) rfl ?_); (try (refine gate_guard (by rfl) ?_; dsimp only)); refine box_event ?hg (N := 6) ?hd (cs := #[.int .i64 0, .int .u64 0, .int .i64 0, .int .i64 0, .slice none 0 0]) (t := 34) ?hr ?_; (case hd => rfl); (case hg => rfl); (case hr => first | (go_simp; done) | (go_simp; rfl)); intro gb102 hg w7 hbox hb; have n0_ := Aside0.mk (below_step (by repeat (first | (with_reducible first | exact HB.out | apply below_alloc | apply pw_below_drewN | apply below_drew1) | exact HB.out)) hb); have n1_ := Aside0.mk (hbox); have n2_ := Aside0.mk ((by rw [hg]; exact (below_size (by repeat (first | (with_reducible first | exact HB.out | apply below_alloc | apply pw_below_drewN | apply below_drew1) | exact HB.out))) : w.heap.size ≤ gb102)); have n3_ := Aside0.mk ((by rw [hg]; exact (below_size (by repeat (first | (with_reducible first | exact HB.out | apply below_alloc | apply pw_below_drewN | apply below_drew1) | exact HB.out))) : w.heap.size ≤ gb102)); clear HB; have HB := n0_; have BK102 := n1_; have GW102 := n2_; have GE102 := n3_; clear n0_ n1_ n2_ n3_; clear hb hbox hg; have hcz8_0 : w7.cell? ⟨gb102, 0, none⟩ = some (.int .i64 0) := (blk_cell BK102.out 0).trans rfl; have hcz8_1 : w7.cell? ⟨gb102, 1, none⟩ = some (.int .u64 0) := (blk_cell BK102.out 1).trans rfl; have hcz8_2 : w7.cell? ⟨gb102, 2, none⟩ = some (.int .i64 0) := (blk_cell BK102.out 2).trans rfl; have hcz8_3 : w7.cell? ⟨gb102, 3, none⟩ = some (.int .i64 0) := (blk_cell BK102.out 3).trans rfl; have hcz8_4 : w7.cell? ⟨gb102, 4, none⟩ = some (.slice none 0 0) := (blk_cell BK102.out 4).trans rfl; have hfz8_0 := blk_frozen BK102.out 0; have hfz8_1 := blk_frozen BK102.out 1; have hfz8_2 := blk_frozen BK102.out 2; have hfz8_3 := blk_frozen BK102.out 3; have hfz8_4 := blk_frozen BK102.out 4))
              go_ret
              exact ⟨by first | rfl | (simp [errW_none, errW_some] <;> rfl) | (simp [*, errW_none, errW_some] <;> rfl), by repeat (first | (with_reducible first | exact HB.out | apply below_alloc | apply pw_below_drewN | apply below_drew1 | refine below_set ?_ GE102.out) | exact HB.out)⟩
            · rw [if_neg c6] at H
              have c6b0 : decide (60 < (((rd_T34 l1 x9_1).f4).length : Int)) = false := decide_eq_false c6
              have c6b1 : decide (60 < ((rd_T34 l1 x9_1).f4).length) = false := decide_eq_false (by omega)
              clear c6
              have H' := Aside0.mk H
              clear H
              have p101 : 0 ≤ (x9_1 : Int) := of_decide_eq_true (by first | (with_reducible assumption) | assumption)
              have q101 : x9_1 < (l1.length : Int) := of_decide_eq_true (by first | (with_reducible assumption) | assumption)
              obtain ⟨ad101, A101_4, c101_4, e101, hx101_0, hx101_1, hx101_2, hx101_3, hx101_4, hl101_4, hi101_4⟩ := at_T34 HR1.out x9_1 p101 q101
              cases e101
              replace hx101_0 := (HB.out.cell (World.block_lt_of_cell? w _ hx101_0)).trans hx101_0
              replace hx101_1 := (HB.out.cell (World.block_lt_of_cell? w _ hx101_1)).trans hx101_1
              replace hx101_2 := (HB.out.cell (World.block_lt_of_cell? w _ hx101_2)).trans hx101_2
              replace hx101_3 := (HB.out.cell (World.block_lt_of_cell? w _ hx101_3)).trans hx101_3
              replace hx101_4 := (HB.out.cell (World.block_lt_of_cell? w _ hx101_4)).trans hx101_4
              have HR101_4 := Aside0.mk hi101_4
              have HC101_4 := Aside0.mk hl101_4
              clear hi101_4 hl101_4
              replace p101 := eq_true p101
              replace q101 := eq_true q101
              go_wp2_with (first | ((with_reducible refine gate_dst (N := 6) rfl ?_); (try (refine gate_guard (by rfl) ?_; dsimp only)); refine box_event ?hg (N := 6) ?hd (cs := #[.int .i64 0, .int .u64 0, .int .i64 0, .int .i64 0, .slice none 0 0]) (t := 34) ?hr ?_; (case hd => rfl); (case hg => rfl); (case hr => first | (go_simp; done) | (go_simp; rfl)); intro gb102 hg w9 hbox hb; have n0_ := Aside0.mk (below_step (by repeat (first | (with_reducible first | exact HB.out | apply below_alloc | apply pw_below_drewN | apply below_drew1) | exact HB.out)) hb); have n1_ := Aside0.mk (hbox); have n2_ := Aside0.mk ((by rw [hg]; exact (below_size (by repeat (first | (with_reducible first | exact HB.out | apply below_alloc | apply pw_below_drewN | apply below_drew1) | exact HB.out))) : w.heap.size ≤ gb102)); have n3_ := Aside0.mk ((by rw [hg]; exact (below_size (by repeat (first | (with_reducible first | exact HB.out | apply below_alloc | apply pw_below_drewN | apply below_drew1) | exact HB.out))) : w.heap.size ≤ gb102)); clear HB; have HB := n0_; have BK102 := n1_; have GW102 := n2_; have GE102 := n3_; clear n0_ n1_ n2_ n3_; clear hb hbox hg; have hcz10_0 : w9.cell? ⟨gb102, 0, none⟩ = some (.int .i64 0) := (blk_cell BK102.out 0).trans rfl; have hcz10_1 : w9.cell? ⟨gb102, 1, none⟩ = some (.int .u64 0) := (blk_cell BK102.out 1).trans rfl; have hcz10_2 : w9.cell? ⟨gb102, 2, none⟩ = some (.int .i64 0) := (blk_cell BK102.out 2).trans rfl; have hcz10_3 : w9.cell? ⟨gb102, 3, none⟩ = some (.int .i64 0) := (blk_cell BK102.out 3).trans rfl; have hcz10_4 : w9.cell? ⟨gb102, 4, none⟩ = some (.slice none 0 0) := (blk_cell BK102.out 4).trans rfl; have hfz10_0 := blk_frozen BK102.out 0; have hfz10_1 := blk_frozen BK102.out 1; have hfz10_2 := blk_frozen BK102.out 2; have hfz10_3 := blk_frozen BK102.out 3; have hfz10_4 := blk_frozen BK102.out 4))
              go_roundg k1
              case measure => have := HK1.out; omega
              case rel => exact ⟨(wrap64 (x9_1 + 1)), (by first | rfl | (simp; done) | (simp [*]; done)), H', ⟨by have := HK1.out; omega⟩, ⟨by repeat (first | (with_reducible first | exact HB.out | apply below_alloc | apply pw_below_drewN | apply below_drew1 | refine below_set ?_ GE102.out) | exact HB.out)⟩⟩
          · rw [if_neg c5] at H
            exact absurd H (by simp)
        · rw [if_neg c4] at H
          exact absurd H (by simp)
      · rw [if_neg c3] at H
        have c3b0 : decide (x9_1 < (l1.length : Int)) = false := decide_eq_false c3
        clear c3
        by_cases c11 : (l0.length : Int) ≤ 1000
        · rw [if_pos c11] at H
          have c11b0 : decide ((l0.length : Int) ≤ 1000) = true := decide_eq_true c11
          have c11b1 : decide (l0.length ≤ 1000) = true := decide_eq_true (by omega)
          clear c11
          obtain rfl := Option.some.inj H
          go_wp2
          go_ret
          exact ⟨by first | rfl | (simp [errW_none, errW_some] <;> rfl) | (simp [*, errW_none, errW_some] <;> rfl), by repeat (first | (with_reducible first | exact HB.out | apply below_alloc | apply pw_below_drewN | apply below_drew1) | exact HB.out)⟩
        · rw [if_neg c11] at H
          have c11b0 : decide ((l0.length : Int) ≤ 1000) = false := decide_eq_false c11
          have c11b1 : decide (l0.length ≤ 1000) = false := decide_eq_false (by omega)
          clear c11
          obtain rfl := Option.some.inj H
          go_wp2
          go_ret
          exact ⟨by first | rfl | (simp [errW_none, errW_some] <;> rfl) | (simp [*, errW_none, errW_some] <;> rfl), by repeat (first | (with_reducible first | exact HB.out | apply below_alloc | apply pw_below_drewN | apply below_drew1) | exact HB.out)⟩

/-! ### chance_Source_Left: function 26 (by hand) -/
def hdS : List Int → Int
  | [] => 0
  | b :: _ => b
/-- a source's state: nil with nothing, or a block of the call's own that holds a cut of bytes that came in -/
def Src (t : TypeId) (w0 W : World) (p : Option Addr) (l : List Int) : Prop := (p = none ∧ l = []) ∨ ∃ g A c, p = some ⟨g, 0, none⟩ ∧ W.heap[g]? = some (.cells #[.slice A l.length c] t (0, 0)) ∧ w0.heap.size ≤ g ∧ l.length ≤ c ∧ Kd.C (Kd.int .u8) w0 A l.length l
/-- what a call does that turns one source alone -/
def Stp (w0 : World) (p : Option Addr) (W W2 : World) : Prop := Below w0.heap.size w0 W2 ∧ W.heap.size ≤ W2.heap.size ∧ ∀ i, i < W.heap.size → (∀ a, p = some a → i ≠ a.block) → W2.heap[i]? = W.heap[i]?
theorem Stp.refl {w0 : World} {p : Option Addr} {W : World} (h : Below w0.heap.size w0 W) : Stp w0 p W W := ⟨h, Nat.le_refl _, fun _ _ _ => rfl⟩
theorem Stp.trans {w0 : World} {p : Option Addr} {W W2 W3 : World} (h : Stp w0 p W W2) (k : Stp w0 p W2 W3) : Stp w0 p W W3 := ⟨k.1, Nat.le_trans h.2.1 k.2.1, fun i hi hn => (k.2.2 i (Nat.lt_of_lt_of_le hi h.2.1) hn).trans (h.2.2 i hi hn)⟩
theorem Stp.of_below {w0 : World} {p : Option Addr} {W W2 : World} (h : Below w0.heap.size w0 W) (k : Below W.heap.size W W2) : Stp w0 p W W2 := ⟨below_step h k, k.size, fun i hi _ => k.block i hi⟩
theorem Src.keep {t : TypeId} {w0 W W2 : World} {p q : Option Addr} {l : List Int} (h : Src t w0 W p l) (hk : Stp w0 q W W2) (hne : ∀ a b, p = some a → q = some b → a.block ≠ b.block) : Src t w0 W2 p l := by
  rcases h with h | ⟨g, A, c, hp, h1, h2⟩
  · exact .inl h
  · have hlt : g < W.heap.size := (Array.getElem?_eq_some_iff.1 h1).1
    exact .inr ⟨g, A, c, hp, by rw [hk.2.2 g hlt (fun a ha => hne _ a hp ha)]; exact h1, h2⟩
theorem Src.below {t : TypeId} {w0 W W2 : World} {p : Option Addr} {l : List Int} (h : Src t w0 W p l) (hb : Below W.heap.size W W2) : Src t w0 W2 p l := by
  rcases h with h | ⟨g, A, c, hp, h1, h2⟩
  · exact .inl h
  · exact .inr ⟨g, A, c, hp, blk_below h1 hb, h2⟩
set_option maxHeartbeats 8000000 in
set_option maxRecDepth 100000 in
theorem chance_left (w0 W : World) (p : Option Addr) (l : List Int) (hs : Src 44 w0 W p l) :
    Calls Try.prog 26 #[.pointer p] W fun e w' => e = .returned (.int .i64 (l.length : Int)) ∧ w' = W := by
  have hu := Try.underlying44
  rcases hs with ⟨rfl, rfl⟩ | ⟨g, A, c, rfl, h1, h2, h3, h4⟩
  · go_enter Try.func26, Try.ntmps26
    go_wp2
    go_ret
    exact ⟨rfl, rfl⟩
  · have z : W.cell? ⟨g, 0, none⟩ = some (.slice A l.length c) := (blk_cell h1 0).trans rfl
    clear h1 h4
    go_enter Try.func26, Try.ntmps26
    go_wp2
    go_ret
    exact ⟨rfl, rfl⟩

/-! ### chance_New: function 17 (by hand) -/
set_option maxHeartbeats 4000000 in
set_option maxRecDepth 100000 in
theorem chance_new (w0 W : World) (A : Option Addr) (c : Nat) (l : List Int) (hC : Kd.C (Kd.int .u8) w0 A l.length l) (hc : l.length ≤ c) (hB : Below w0.heap.size w0 W) :
    Calls Try.prog 17 #[.slice A l.length c] W fun e w' => ∃ p, e = .returned (.pointer p) ∧ p ≠ none ∧ (∀ a, p = some a → W.heap.size ≤ a.block ∧ a.block < w'.heap.size) ∧ Src 44 w0 w' p l ∧ Below W.heap.size W w' := by
  have hu := Try.underlying44
  have HC := Aside0.mk hC
  have HL := Aside0.mk hc
  have HB := Aside0.mk hB
  clear hC hc hB
  go_enter Try.func17, Try.ntmps17
  go_wp2
  go_ret
  exact ⟨_, rfl, by simp, fun a ha => (by cases ha; simp), .inr ⟨_, A, c, rfl, blk_new W _, HB.out.size, HL.out, HC.out⟩, below_alloc (Below.refl _ _) _⟩

/-! ### chance_Source_Byte: function 18 (by hand) -/
theorem cut_lo1 {P : Program} (t e : TypeId) (ht : P.underlying t = some (.slice e)) (hs : (P.info? e).map (·.size) = some 1) (A : Option Addr) (n c : Nat) (j : Int) (h0 : 0 ≤ j) (hc : j ≤ n) (W : World) :
    (Instr.slice t (.slice A n c) (some (.int .i64 j)) none none).run P W = .ok (.slice (if c = j.toNat then A else A.map (·.add j.toNat)) (n - j.toNat) (c - j.toNat)) W := by
  cases hq : P.info? e with
  | none => simp [hq] at hs
  | some i =>
    have hi : i.size = 1 := by simpa [hq] using hs
    have hel : P.elem t = e := by simp [Program.elem, ht]
    have hu : P.underlying t = some (.slice (P.elem t)) := by rw [hel]; exact ht
    rw [run_slice_l W t A n c hu .i64 j h0 hc, hel]
    simp [sizeOf, typeInfo, hq, hi, sliced, Result.andThen]
theorem src_rest {A : Option Addr} {c : Nat} {b : Int} {l : List Int} {w0 : World} (hC : Kd.C (Kd.int .u8) w0 A (b :: l).length (b :: l)) (hc : (b :: l).length ≤ c) : Kd.C (Kd.int .u8) w0 (if c = 1 then A else A.map (·.add 1)) l.length l := by
  have h := Kd.C_drop (m := 1) (c := c) hC (by simp) hc
  exact h
set_option maxHeartbeats 8000000 in
set_option maxRecDepth 100000 in
theorem chance_byte (w0 W : World) (p : Option Addr) (l : List Int) (hs : Src 44 w0 W p l) (hB : Below w0.heap.size w0 W) :
    Calls Try.prog 18 #[.pointer p] W fun e w' => e = .returned (.int .u8 (hdS l)) ∧ Src 44 w0 w' p l.tail ∧ Stp w0 p W w' := by
  have hu := Try.underlying44
  have HL := Aside0.mk (chance_left w0 W p l hs)
  have HB := Aside0.mk hB
  have HS := Aside0.mk hs
  cases l with
  | nil =>
    clear hs hB
    go_enter Try.func18, Try.ntmps18
    go_wp2_with (go_at_call 26; refine HL.out.mono ?_; rintro e w1 ⟨rfl, rfl⟩)
    go_ret
    exact ⟨rfl, HS.out, Stp.refl HB.out⟩
  | cons b l =>
    rcases hs with ⟨_, h⟩ | ⟨g, A, c, rfl, h1, h2, h3, h4⟩
    · cases h
    have z : W.cell? ⟨g, 0, none⟩ = some (.slice A (b :: l).length c) := (blk_cell h1 0).trans rfl
    have zf := blk_frozen h1 0
    have inf := Aside0.mk (show (Try.prog.info? 5).map (·.size) = some 1 by kernel_rfl)
    obtain ⟨A', hA'⟩ : ∃ A', (if c = (1 : Int).toNat then A else A.map (·.add (1 : Int).toNat)) = A' := ⟨_, rfl⟩
    have hcut : ∀ W : World, (Instr.slice 22 (.slice A (b :: l).length c) (some (.int .i64 1)) none none).run Try.prog W = .ok (.slice A' l.length (c - 1)) W := fun W => by
      rw [cut_lo1 22 5 Try.underlying22 inf.out A (b :: l).length c 1 (by omega) (by simp; omega) W, hA']
      simp
    have H1 := Aside0.mk h1
    have H2 := Aside0.mk h2
    have H3 := Aside0.mk h3
    have HR := Aside0.mk (show Kd.C (Kd.int .u8) w0 A' l.length l by rw [← hA']; exact src_rest h4 h3)
    obtain ⟨ad, e1, hx⟩ := Kd.at_int h4 0 (by omega) (by simp)
    subst e1
    replace hx : W.cell? (ad.add 0) = some (.int .u8 b) := (hB.cell (World.block_lt_of_cell? w0 _ hx)).trans hx
    rw [Addr.add_zero'] at hx
    have hn : (((b :: l).length : Int) == 0) = false := by simp; omega
    obtain ⟨n1, hn1⟩ : ∃ n1, (b :: l).length = n1 := ⟨_, rfl⟩
    have HN := Aside0.mk hn1
    rw [hn1] at z hcut hn HL H1
    have hpos : 0 < n1 := by rw [← hn1]; exact Nat.succ_pos _
    have hq : (0 < n1) = True := eq_true hpos
    have hq' : (0 < (n1 : Int)) = True := eq_true (by omega)
    clear hpos
    clear h1 h2 h3 h4 hB hA' hn1
    go_enter Try.func18, Try.ntmps18
    go_wp2_with (go_at_call 26; refine HL.out.mono ?_; rintro e w1 ⟨rfl, rfl⟩)
    go_ret
    exact ⟨rfl, .inr ⟨g, A', c - 1, rfl, blk_put H1.out 0 _ rfl, H2.out, by have := H3.out; simp at this ⊢; omega, HR.out⟩, below_set HB.out H2.out, by simp, fun i hi hn => Below.heap_setCell _ _ _ i (hn _ rfl)⟩

/-! ### chance_Source_some: function 65 (by hand) -/
def someS : Nat → List Int → Int → Int × List Int
  | 0, l, x => (x, l)
  | n + 1, l, x => someS n l.tail (Go.bits .or .u64 (IntKind.u64.wrap (x * 256)) (IntKind.u64.wrap (hdS l)))
set_option maxHeartbeats 8000000 in
set_option maxRecDepth 100000 in
theorem chance_some (w0 W : World) (p : Option Addr) (l : List Int) (n : Nat) (hn : n ≤ 8) (hs : Src 44 w0 W p l) (hB : Below w0.heap.size w0 W) :
    Calls Try.prog 65 #[.pointer p, .int .i64 n] W fun e w' => e = .returned (.int .u64 (someS n l 0).1) ∧ Src 44 w0 w' p (someS n l 0).2 ∧ Stp w0 p W w' := by
  have HS := Aside0.mk hs
  have HB := Aside0.mk hB
  have HN := Aside0.mk hn
  obtain ⟨r, hr⟩ : ∃ r, someS n l 0 = r := ⟨_, rfl⟩
  have HRR := Aside0.mk hr
  rw [hr]
  obtain ⟨m, hm⟩ : ∃ m : Int, (n : Int) = m := ⟨_, rfl⟩
  have HM := Aside0.mk hm
  rw [hm]
  clear hs hB hn hr hm
  go_enter Try.func65, Try.ntmps65
  go_wp2
  go_loopg [4, 9] n (fun kq v4 v9 wr => ∃ (i x : Int) (l2 : List Int), v9 = .int .i64 i ∧ v4 = .int .u64 x ∧ Aside0 (0 ≤ i ∧ i + kq = m) ∧ Aside0 (someS kq l2 x = r) ∧ Aside0 (Src 44 w0 wr p l2) ∧ Aside0 (Stp w0 p W wr))
  case atStart => exact ⟨0, 0, l, rfl, rfl, ⟨by have := HM.out; omega⟩, HRR, HS, ⟨Stp.refl HB.out⟩⟩
  case round =>
    clear HRR HS
    obtain ⟨i, x, l2, rfl, rfl, HI, HX, HS, HT⟩ := hrel
    by_cases hlt : i < m
    · have hd : decide (i < m) = true := decide_eq_true hlt
      cases gk with
      | zero => exact absurd HI.out.2 (by omega)
      | succ gk =>
        have HY := Aside0.mk (chance_byte w0 wr p l2 HS.out HT.out.1)
        go_wp2_with (go_at_call 18; refine HY.out.mono ?_; rintro e w1 ⟨rfl, hs1, ht1⟩; have HS1 := Aside0.mk hs1; have HT1 := Aside0.mk (HT.out.trans ht1); clear hs1 ht1)
        have hw := Aside0.mk (show wrap64 (i + 1) = i + 1 by have := HM.out; have := HN.out; have := HI.out; unfold wrap64; omega)
        go_roundg gk
        case measure => omega
        case rel => exact ⟨wrap64 (i + 1), _, l2.tail, rfl, rfl, ⟨by have := HI.out; rw [hw.out]; omega⟩, HX, HS1, HT1⟩
    · have hd : decide (i < m) = false := decide_eq_false hlt
      have HE : Aside0 ((x, l2) = r) := ⟨by
        have h1 := HX.out
        rw [show gk = 0 by have := HI.out; omega] at h1
        exact h1⟩
      go_wp2
      go_ret
      exact ⟨by rw [← HE.out]; rfl, by rw [← HE.out]; exact HS.out, HT.out⟩

/-! ### bits_Len64: function 66 (by hand) -/
def bits_Len64.f (a0 : Int) : Option Int := if 0 ≤ a0 then (if a0 ≤ 18446744073709551615 then some (Lib.bitLen a0.toNat : Int) else none) else none
theorem bits_Len64.calls (a0 : Int) (r : Int) (w : World) (h : bits_Len64.f a0 = some r) :
    Calls Try.prog 66 #[.int .u64 a0] w fun e w' => e = .returned (.int .i64 r) ∧ Below w.heap.size w w' := by
  unfold bits_Len64.f at h
  by_cases h0 : 0 ≤ a0
  · rw [if_pos h0] at h
    by_cases h1 : a0 ≤ 18446744073709551615
    · rw [if_pos h1] at h
      obtain rfl := Option.some.inj h
      exact (Try.bits_Len64 a0 w h0 h1).mono fun e w' ⟨he, hw⟩ => ⟨he, by rw [hw]; exact Below.refl _ _⟩
    · rw [if_neg h1] at h; cases h
  · rw [if_neg h0] at h; cases h

/-! ### chance_Source_Below: function 20 (by hand) -/
theorem bla_le : ∀ (f x : Nat), Lib.bitLenAux f x ≤ f
  | 0, x => by simp [Lib.bitLenAux]
  | f + 1, x => by
    have := bla_le f (x / 2)
    unfold Lib.bitLenAux
    split <;> omega
def manyS (n : Int) : Nat := (Lib.bitLen (n - 1).toNat + 7) / 8
theorem many_le (n : Int) : manyS n ≤ 8 := by
  have h : Lib.bitLen (n - 1).toNat ≤ 64 := bla_le _ _
  unfold manyS
  omega
def belowS (n : Int) (l : List Int) : Int × List Int := if n < 2 then (0, l) else (Int.tmod (someS (manyS n) l 0).1 n, (someS (manyS n) l 0).2)
set_option maxHeartbeats 8000000 in
set_option maxRecDepth 100000 in
theorem chance_below (w0 W : World) (p : Option Addr) (l : List Int) (n : Int) (h0 : 0 ≤ n) (h1 : n < 18446744073709551616) (hs : Src 44 w0 W p l) (hB : Below w0.heap.size w0 W) :
    Calls Try.prog 20 #[.pointer p, .int .u64 n] W fun e w' => e = .returned (.int .u64 (belowS n l).1) ∧ Src 44 w0 w' p (belowS n l).2 ∧ Stp w0 p W w' := by
  have HS := Aside0.mk hs
  have HB := Aside0.mk hB
  by_cases c : n < 2
  · have d : decide (n < 2) = true := decide_eq_true c
    have e : belowS n l = (0, l) := if_pos c
    rw [e]
    clear hs hB
    go_enter Try.func20, Try.ntmps20
    go_wp2
    go_ret
    exact ⟨rfl, HS.out, Stp.refl HB.out⟩
  · have d : decide (n < 2) = false := decide_eq_false c
    have e : belowS n l = (Int.tmod (someS (manyS n) l 0).1 n, (someS (manyS n) l 0).2) := if_neg c
    rw [e]
    have HL : Aside0 (∀ W, Calls Try.prog 66 #[.int .u64 (n - 1)] W fun e w' => e = .returned (.int .i64 (Lib.bitLen (n - 1).toNat : Int)) ∧ Below W.heap.size W w') := ⟨fun W => bits_Len64.calls _ _ W (by unfold bits_Len64.f; rw [if_pos (by omega), if_pos (by omega)])⟩
    obtain ⟨b, hb⟩ : ∃ b : Int, (Lib.bitLen (n - 1).toNat : Int) = b := ⟨_, rfl⟩
    have hb64 : b ≤ 64 ∧ 0 ≤ b := by have : Lib.bitLen (n - 1).toNat ≤ 64 := bla_le _ _; omega
    have hm : (manyS n : Int) = (b + 7) / 8 := by unfold manyS; omega
    rw [hb] at HL
    have HSo := Aside0.mk (fun W2 (hb2 : Below W.heap.size W W2) => chance_some w0 W2 p l (manyS n) (many_le n) (hs.below hb2) (below_step hB hb2))
    obtain ⟨r, hr⟩ : ∃ r, someS (manyS n) l 0 = r := ⟨_, rfl⟩
    rw [hr, hm] at HSo
    rw [hr]
    have HBV := Aside0.mk hb64
    have hw : wrap64 (b + 7) = b + 7 := by unfold wrap64; omega
    have hq : wrap64 (Int.tdiv (b + 7) 8) = (b + 7) / 8 := by rw [Int.tdiv_eq_ediv_of_nonneg (by omega)]; unfold wrap64; omega
    have hn0 : (n == 0) = false := beq_eq_false_iff_ne.mpr (by omega)
    have hnz : ¬ n = 0 := by omega
    clear hs hB hb hm hr e hb64 c
    go_enter Try.func20, Try.ntmps20
    go_wp2_with (first | (go_at_call 66; with_reducible refine (HL.out _).mono ?_; rintro e w1 ⟨rfl, hb⟩; have HB1 := Aside0.mk hb; clear hb) | (go_at_call 65; with_reducible refine (HSo.out _ HB1.out).mono ?_; rintro e w2 ⟨rfl, hs2, ht2⟩; have HS2 := Aside0.mk hs2; have HT2 := Aside0.mk ((Stp.of_below HB.out HB1.out).trans ht2); clear hs2 ht2))
    go_ret
    exact ⟨rfl, HS2.out, HT2.out⟩

/-! ### jobberlaw05_lives: function 16 (by hand) -/
set_option maxHeartbeats 2000000 in
set_option maxRecDepth 100000 in
theorem chance_lives (W : World) : Calls Try.prog 16 #[] W fun e w' => e = .returned (.bool true) ∧ Below W.heap.size W w' := by
  obtain ⟨W1, hW1⟩ : ∃ W1, W1 = W.alloc (.cells #[.int .u8 7, .int .u8 1, .int .u8 2] 5) := ⟨_, rfl⟩
  have hb01 : Below W.heap.size W W1 := by rw [hW1]; exact below_alloc (Below.refl _ _) _
  have hBK : W1.heap[W.heap.size]? = some (.cells #[.int .u8 7, .int .u8 1, .int .u8 2] 5 (0, 0)) := by rw [hW1]; exact blk_new W _
  have hC : Kd.C (Kd.int .u8) W1 (some ⟨W.heap.size, 0, none⟩) ([7, 1, 2] : List Int).length [7, 1, 2] := by
    refine ⟨rfl, by decide, fun _ => ⟨_, rfl, fun j p hj => ⟨[.int .u8 p], rfl, rfl, fun i u hu => ?_⟩⟩⟩
    have hi : i = 0 := by
      rcases i with _ | i
      · rfl
      · simp at hu
    subst hi
    have hu2 : u = .int .u8 p := by simpa using hu.symm
    subst hu2
    have hz : W1.cell? ⟨W.heap.size, j, none⟩ = (#[Value.int .u8 7, .int .u8 1, .int .u8 2])[j]? := blk_cell hBK j
    have hadd : (⟨W.heap.size, 0, none⟩ : Addr).add (j * 1 + 0) = ⟨W.heap.size, j, none⟩ := by rw [Nat.mul_one, Nat.add_zero]; unfold Addr.add; split <;> simp_all
    show W1.cell? ((⟨W.heap.size, 0, none⟩ : Addr).add (j * 1 + 0)) = _
    rw [hadd, hz]
    rcases j with _ | _ | _ | j
    · simp at hj; subst hj; rfl
    · simp at hj; subst hj; rfl
    · simp at hj; subst hj; rfl
    · simp at hj
  have HN := Aside0.mk (chance_new W1 W1 (some ⟨W.heap.size, 0, none⟩) 3 [7, 1, 2] hC (by decide) (Below.refl _ _))
  have HBL := Aside0.mk (fun (w2 : World) (p : Option Addr) (l : List Int) (n : Int) h0 h1 (hs : Src 44 W1 w2 p l) (hB : Below W1.heap.size W1 w2) => chance_below W1 w2 p l n h0 h1 hs hB)
  have e5 : belowS 5 [7, 1, 2] = (2, [1, 2]) := by decide +kernel
  have e1 : belowS 1 [1, 2] = (0, [1, 2]) := by decide +kernel
  have e3 : belowS 300 [1, 2] = (258, []) := by decide +kernel
  have E5 := Aside0.mk e5
  have E1 := Aside0.mk e1
  have E3 := Aside0.mk e3
  have HW := Aside0.mk hW1
  have HB := Aside0.mk hb01
  clear hC hBK hW1 hb01 e5 e1 e3
  go_enter Try.func16, Try.ntmps16
  go_upto_region 2 with (go_at_call 17; rw [← HW.out]; refine HN.out.mono ?_; rintro e w2 ⟨p, rfl, hp, hp2, hp3, hp4⟩; have HS2 := Aside0.mk hp3; have HB2 := Aside0.mk hp4; clear hp hp2 hp3 hp4)
  have HC1 := Aside0.mk (HBL.out w2 p [7, 1, 2] 5 (by decide) (by decide) HS2.out HB2.out)
  rw [E5.out] at HC1
  go_wp2_with (go_at_call 20; first | (refine HC1.out.mono ?_; rintro e w3 ⟨rfl, hs3, ht3⟩; have HC2 := Aside0.mk (HBL.out w3 p [1, 2] 1 (by decide) (by decide) hs3 ht3.1); rw [E1.out] at HC2; clear HC1 hs3 ht3) | (refine HC2.out.mono ?_; rintro e w4 ⟨rfl, hs4, ht4⟩; have HC3 := Aside0.mk (HBL.out w4 p [1, 2] 300 (by decide) (by decide) hs4 ht4.1); rw [E3.out] at HC3; clear HC2 hs4 ht4) | (refine HC3.out.mono ?_; rintro e w5 ⟨rfl, hs5, ht5⟩; have HT5 := Aside0.mk ht5.1; clear HC3 hs5 ht5))
  go_ret
  exact ⟨rfl, below_step HB.out HT5.out⟩

/-! ### jobberref05_Source_Byte: function 19 (by hand) -/
set_option maxHeartbeats 8000000 in
set_option maxRecDepth 100000 in
theorem ref_byte (w0 W : World) (p : Option Addr) (l : List Int) (hs : Src 30 w0 W p l) (hB : Below w0.heap.size w0 W) (hp : p ≠ none) :
    Calls Try.prog 19 #[.pointer p] W fun e w' => e = .returned (.int .u8 (hdS l)) ∧ Src 30 w0 w' p l.tail ∧ Stp w0 p W w' := by
  have hu := Try.underlying30
  have HB := Aside0.mk hB
  have HS := Aside0.mk hs
  cases l with
  | nil =>
    rcases hs with ⟨h, _⟩ | ⟨g, A, c, rfl, h1, h2, h3, h4⟩
    · exact absurd h hp
    · have z : W.cell? ⟨g, 0, none⟩ = some (.slice A (0 : Nat) c) := (blk_cell h1 0).trans rfl
      clear h1 h4 hB hp
      go_enter Try.func19, Try.ntmps19
      go_wp2
      go_ret
      exact ⟨rfl, HS.out, Stp.refl HB.out⟩
  | cons b l =>
    rcases hs with ⟨_, h⟩ | ⟨g, A, c, rfl, h1, h2, h3, h4⟩
    · cases h
    have z : W.cell? ⟨g, 0, none⟩ = some (.slice A (b :: l).length c) := (blk_cell h1 0).trans rfl
    have zf := blk_frozen h1 0
    have inf := Aside0.mk (show (Try.prog.info? 5).map (·.size) = some 1 by kernel_rfl)
    obtain ⟨A', hA'⟩ : ∃ A', (if c = (1 : Int).toNat then A else A.map (·.add (1 : Int).toNat)) = A' := ⟨_, rfl⟩
    have hcut : ∀ W : World, (Instr.slice 22 (.slice A (b :: l).length c) (some (.int .i64 1)) none none).run Try.prog W = .ok (.slice A' l.length (c - 1)) W := fun W => by
      rw [cut_lo1 22 5 Try.underlying22 inf.out A (b :: l).length c 1 (by omega) (by simp; omega) W, hA']
      simp
    have H1 := Aside0.mk h1
    have H2 := Aside0.mk h2
    have H3 := Aside0.mk h3
    have HR := Aside0.mk (show Kd.C (Kd.int .u8) w0 A' l.length l by rw [← hA']; exact src_rest h4 h3)
    obtain ⟨ad, e1, hx⟩ := Kd.at_int h4 0 (by omega) (by simp)
    subst e1
    replace hx : W.cell? (ad.add 0) = some (.int .u8 b) := (hB.cell (World.block_lt_of_cell? w0 _ hx)).trans hx
    rw [Addr.add_zero'] at hx
    have hn : (((b :: l).length : Int) == 0) = false := by simp; omega
    obtain ⟨n1, hn1⟩ : ∃ n1, (b :: l).length = n1 := ⟨_, rfl⟩
    have HN := Aside0.mk hn1
    rw [hn1] at z hcut hn H1
    have hpos : 0 < n1 := by rw [← hn1]; exact Nat.succ_pos _
    have hq : (0 < n1) = True := eq_true hpos
    have hq' : (0 < (n1 : Int)) = True := eq_true (by omega)
    clear hpos
    clear h1 h2 h3 h4 hB hA' hn1 hp
    go_enter Try.func19, Try.ntmps19
    go_wp2
    go_ret
    exact ⟨rfl, .inr ⟨g, A', c - 1, rfl, blk_put H1.out 0 _ rfl, H2.out, by have := H3.out; simp at this ⊢; omega, HR.out⟩, below_set HB.out H2.out, by simp, fun i hi hn => Below.heap_setCell _ _ _ i (hn _ rfl)⟩

/-! ### jobberref05_Source_some: function 67 (by hand) -/
def someR : Nat → List Int → Int → Int × List Int
  | 0, l, x => (x, l)
  | n + 1, l, x => someR n l.tail (IntKind.u64.wrap (IntKind.u64.wrap (x * 256) + IntKind.u64.wrap (hdS l)))
set_option maxHeartbeats 8000000 in
set_option maxRecDepth 100000 in
theorem ref_some (w0 W : World) (p : Option Addr) (l : List Int) (n : Nat) (hn : n ≤ 8) (hs : Src 30 w0 W p l) (hB : Below w0.heap.size w0 W) (hp : p ≠ none) :
    Calls Try.prog 67 #[.pointer p, .int .i64 n] W fun e w' => e = .returned (.int .u64 (someR n l 0).1) ∧ Src 30 w0 w' p (someR n l 0).2 ∧ Stp w0 p W w' := by
  have HS := Aside0.mk hs
  have HB := Aside0.mk hB
  have HN := Aside0.mk hn
  have HPN := Aside0.mk hp
  obtain ⟨r, hr⟩ : ∃ r, someR n l 0 = r := ⟨_, rfl⟩
  have HRR := Aside0.mk hr
  rw [hr]
  obtain ⟨m, hm⟩ : ∃ m : Int, (n : Int) = m := ⟨_, rfl⟩
  have HM := Aside0.mk hm
  rw [hm]
  clear hs hB hn hr hm hp
  go_enter Try.func67, Try.ntmps67
  go_wp2
  go_loopg [5, 6] n (fun kq v5 v6 wr => ∃ (i x : Int) (l2 : List Int), v6 = .int .i64 i ∧ v5 = .int .u64 x ∧ Aside0 (0 ≤ i ∧ i + kq = m) ∧ Aside0 (someR kq l2 x = r) ∧ Aside0 (Src 30 w0 wr p l2) ∧ Aside0 (Stp w0 p W wr))
  case atStart => exact ⟨0, 0, l, rfl, rfl, ⟨by have := HM.out; omega⟩, HRR, HS, ⟨Stp.refl HB.out⟩⟩
  case round =>
    clear HRR HS
    obtain ⟨i, x, l2, rfl, rfl, HI, HX, HS, HT⟩ := hrel
    by_cases hlt : i < m
    · have hd : decide (i < m) = true := decide_eq_true hlt
      cases gk with
      | zero => exact absurd HI.out.2 (by omega)
      | succ gk =>
        have HY := Aside0.mk (ref_byte w0 wr p l2 HS.out HT.out.1 HPN.out)
        go_wp2_with (go_at_call 19; refine HY.out.mono ?_; rintro e w1 ⟨rfl, hs1, ht1⟩; have HS1 := Aside0.mk hs1; have HT1 := Aside0.mk (HT.out.trans ht1); clear hs1 ht1)
        have hw := Aside0.mk (show wrap64 (i + 1) = i + 1 by have := HM.out; have := HN.out; have := HI.out; unfold wrap64; omega)
        go_roundg gk
        case measure => omega
        case rel => exact ⟨wrap64 (i + 1), _, l2.tail, rfl, rfl, ⟨by have := HI.out; rw [hw.out]; omega⟩, HX, HS1, HT1⟩
    · have hd : decide (i < m) = false := decide_eq_false hlt
      have HE : Aside0 ((x, l2) = r) := ⟨by
        have h1 := HX.out
        rw [show gk = 0 by have := HI.out; omega] at h1
        exact h1⟩
      go_wp2
      go_ret
      exact ⟨by rw [← HE.out]; rfl, by rw [← HE.out]; exact HS.out, HT.out⟩

/-! ### jobberref05_Source_Below: function 21 (by hand) -/
def cntR : Nat → Nat → Nat
  | 0, _ => 0
  | f + 1, x => if x = 0 then 0 else 1 + cntR f (x / 256)
theorem cnt_le : ∀ (f x : Nat), cntR f x ≤ f
  | 0, x => by simp [cntR]
  | f + 1, x => by
    have := cnt_le f (x / 256)
    unfold cntR
    split <;> omega
def belowR (n : Int) (l : List Int) : Int × List Int := if n < 2 then (0, l) else (Int.tmod (someR (cntR 8 (n - 1).toNat) l 0).1 n, (someR (cntR 8 (n - 1).toNat) l 0).2)
set_option maxHeartbeats 4000000 in
set_option maxRecDepth 100000 in
theorem ref_below (w0 W : World) (p : Option Addr) (l : List Int) (n : Int) (h0 : 0 ≤ n) (h1 : n < 18446744073709551616) (hs : Src 30 w0 W p l) (hB : Below w0.heap.size w0 W) (hp : p ≠ none) :
    Calls Try.prog 21 #[.pointer p, .int .u64 n] W fun e w' => e = .returned (.int .u64 (belowR n l).1) ∧ Src 30 w0 w' p (belowR n l).2 ∧ Stp w0 p W w' := by
  have HS := Aside0.mk hs
  have HB := Aside0.mk hB
  by_cases c : n < 2
  · have d : decide (n < 2) = true := decide_eq_true c
    have e : belowR n l = (0, l) := if_pos c
    rw [e]
    clear hs hB hp
    go_enter Try.func21, Try.ntmps21
    go_wp2
    go_ret
    exact ⟨rfl, HS.out, Stp.refl HB.out⟩
  · have d : decide (n < 2) = false := decide_eq_false c
    have e : belowR n l = (Int.tmod (someR (cntR 8 (n - 1).toNat) l 0).1 n, (someR (cntR 8 (n - 1).toNat) l 0).2) := if_neg c
    rw [e]
    obtain ⟨tot, htot⟩ : ∃ tot, cntR 8 (n - 1).toNat = tot := ⟨_, rfl⟩
    have HTL : Aside0 (tot ≤ 8) := ⟨by rw [← htot]; exact cnt_le _ _⟩
    have HT := Aside0.mk htot
    rw [htot]
    have HSo := Aside0.mk (ref_some w0 W p l tot HTL.out hs hB hp)
    obtain ⟨r, hr⟩ : ∃ r, someR tot l 0 = r := ⟨_, rfl⟩
    rw [hr] at HSo
    rw [hr]
    have hnz : ¬ n = 0 := by omega
    have HR1 := Aside0.mk (show 1 ≤ n - 1 ∧ n - 1 < 18446744073709551616 by omega)
    have HPW := Aside0.mk (show (n - 1).toNat < 256 ^ 8 by omega)
    clear hs hB htot hr e c hp
    go_enter Try.func21, Try.ntmps21
    go_wp2
    go_loopg [5, 6] 8 (fun kq v5 v6 wr => ∃ (m x : Nat), v5 = .int .i64 (m : Int) ∧ v6 = .int .u64 (x : Int) ∧ Aside0 (m + cntR kq x = tot) ∧ Aside0 (x < 256 ^ kq) ∧ Aside0 (m + kq = 8) ∧ Aside0 (wr = W))
    case atStart => exact ⟨0, (n - 1).toNat, rfl, by congr 1; have := HR1.out; omega, ⟨by rw [Nat.zero_add]; exact HT.out⟩, HPW, ⟨rfl⟩, ⟨rfl⟩⟩
    case round =>
      obtain ⟨m, x, rfl, rfl, HM, HX, HK, HW⟩ := hrel
      have hww := HW.out
      subst hww
      by_cases hx : x = 0
      · have dx : decide ((0 : Int) < (x : Int)) = false := decide_eq_false (by omega)
        have HE : Aside0 (m = tot) := ⟨by
          have := HM.out
          subst hx
          have h2 : cntR gk 0 = 0 := by cases gk <;> simp [cntR]
          omega⟩
        have hmt := HE.out
        subst hmt
        go_wp2_with (go_at_call 67; with_reducible refine HSo.out.mono ?_; rintro e w2 ⟨rfl, hs2, ht2⟩; have HS2 := Aside0.mk hs2; have HT2 := Aside0.mk ht2; clear hs2 ht2)
        go_ret
        exact ⟨rfl, HS2.out, HT2.out⟩
      · have dx : decide ((0 : Int) < (x : Int)) = true := decide_eq_true (by omega)
        cases gk with
        | zero => exact absurd HX.out (by simp; omega)
        | succ gk =>
          have hw1 := Aside0.mk (show wrap64 ((m : Int) + 1) = ((m + 1 : Nat) : Int) by have := HK.out; unfold wrap64; omega)
          have hw2 := Aside0.mk (show IntKind.u64.wrap ((x : Int) / 256) = ((x / 256 : Nat) : Int) by
            have h8 : x < 256 ^ 8 := Nat.lt_of_lt_of_le HX.out (Nat.pow_le_pow_right (by omega) (by have := HK.out; omega))
            have e : IntKind.u64.wrap ((x : Int) / 256) = ((x : Int) / 256) % 18446744073709551616 := rfl
            omega)
          go_wp2
          go_roundg gk
          case measure => omega
          case rel => exact ⟨m + 1, x / 256, by rw [hw1.out], by rw [hw2.out], ⟨by
            have := HM.out
            rw [cntR, if_neg hx] at this
            omega⟩, ⟨by have := HX.out; rw [Nat.pow_succ] at this; omega⟩, ⟨by have := HK.out; omega⟩, ⟨rfl⟩⟩

/-! ### chance_Source_Between: function 22 (by hand) -/
def wayS (low high : Int) : Int := IntKind.u64.wrap (IntKind.u64.wrap (IntKind.u64.wrap high - IntKind.u64.wrap low) + 1)
def betweenS (low high : Int) (l : List Int) : Int × List Int := if high ≤ low then (low, l) else if wayS low high = 0 then (wrap64 (IntKind.u64.wrap (IntKind.u64.wrap low + (someS 8 l 0).1)), (someS 8 l 0).2) else (wrap64 (IntKind.u64.wrap (IntKind.u64.wrap low + (belowS (wayS low high) l).1)), (belowS (wayS low high) l).2)
set_option maxHeartbeats 4000000 in
set_option maxRecDepth 100000 in
theorem chance_between (w0 W : World) (p : Option Addr) (l : List Int) (low high : Int) (hs : Src 44 w0 W p l) (hB : Below w0.heap.size w0 W) :
    Calls Try.prog 22 #[.pointer p, .int .i64 low, .int .i64 high] W fun e w' => e = .returned (.int .i64 (betweenS low high l).1) ∧ Src 44 w0 w' p (betweenS low high l).2 ∧ Stp w0 p W w' := by
  have HS := Aside0.mk hs
  have HB := Aside0.mk hB
  by_cases c : high ≤ low
  · have d : decide (high ≤ low) = true := decide_eq_true c
    have e : betweenS low high l = (low, l) := if_pos c
    rw [e]
    clear hs hB
    go_enter Try.func22, Try.ntmps22
    go_wp2
    go_ret
    exact ⟨rfl, HS.out, Stp.refl HB.out⟩
  have d : decide (high ≤ low) = false := decide_eq_false c
  by_cases c2 : wayS low high = 0
  · have e : betweenS low high l = (wrap64 (IntKind.u64.wrap (IntKind.u64.wrap low + (someS 8 l 0).1)), (someS 8 l 0).2) := by unfold betweenS; rw [if_neg c, if_pos c2]
    have HSo := Aside0.mk (chance_some w0 W p l 8 (by omega) hs hB)
    obtain ⟨r, hr⟩ : ∃ r, someS 8 l 0 = r := ⟨_, rfl⟩
    rw [hr] at HSo e
    rw [e]
    have d2 : (IntKind.u64.wrap (IntKind.u64.wrap (IntKind.u64.wrap high - IntKind.u64.wrap low) + 1) == 0) = true := beq_iff_eq.mpr c2
    clear hs hB hr e c2 c
    go_enter Try.func22, Try.ntmps22
    go_wp2_with (go_at_call 65; refine HSo.out.mono ?_; rintro e w2 ⟨rfl, hs2, ht2⟩; have HS2 := Aside0.mk hs2; have HT2 := Aside0.mk ht2; clear hs2 ht2)
    go_ret
    exact ⟨rfl, HS2.out, HT2.out⟩
  · have e : betweenS low high l = (wrap64 (IntKind.u64.wrap (IntKind.u64.wrap low + (belowS (wayS low high) l).1)), (belowS (wayS low high) l).2) := by unfold betweenS; rw [if_neg c, if_neg c2]
    have hwr : 0 ≤ wayS low high ∧ wayS low high < 18446744073709551616 := by
      have : wayS low high = (IntKind.u64.wrap (IntKind.u64.wrap high - IntKind.u64.wrap low) + 1) % 18446744073709551616 := rfl
      omega
    have HSo := Aside0.mk (chance_below w0 W p l (wayS low high) hwr.1 hwr.2 hs hB)
    obtain ⟨r, hr⟩ : ∃ r, belowS (wayS low high) l = r := ⟨_, rfl⟩
    rw [hr] at HSo e
    rw [e]
    have d2 : (IntKind.u64.wrap (IntKind.u64.wrap (IntKind.u64.wrap high - IntKind.u64.wrap low) + 1) == 0) = false := beq_eq_false_iff_ne.mpr c2
    unfold wayS at HSo
    clear hs hB hr e c2 c hwr
    go_enter Try.func22, Try.ntmps22
    go_wp2_with (go_at_call 20; with_reducible refine HSo.out.mono ?_; rintro e w2 ⟨rfl, hs2, ht2⟩; have HS2 := Aside0.mk hs2; have HT2 := Aside0.mk ht2; clear hs2 ht2)
    go_ret
    exact ⟨rfl, HS2.out, HT2.out⟩

/-! ### jobberref05_Source_Between: function 23 (by hand) -/
def betweenR (low high : Int) (l : List Int) : Int × List Int := if high ≤ low then (low, l) else if IntKind.u64.wrap (IntKind.u64.wrap high - IntKind.u64.wrap low) = 18446744073709551615 then (wrap64 (IntKind.u64.wrap (IntKind.u64.wrap low + (someR 8 l 0).1)), (someR 8 l 0).2) else (wrap64 (IntKind.u64.wrap (IntKind.u64.wrap low + (belowR (wayS low high) l).1)), (belowR (wayS low high) l).2)
set_option maxHeartbeats 4000000 in
set_option maxRecDepth 100000 in
theorem ref_between (w0 W : World) (p : Option Addr) (l : List Int) (low high : Int) (hs : Src 30 w0 W p l) (hB : Below w0.heap.size w0 W) (hp : p ≠ none) :
    Calls Try.prog 23 #[.pointer p, .int .i64 low, .int .i64 high] W fun e w' => e = .returned (.int .i64 (betweenR low high l).1) ∧ Src 30 w0 w' p (betweenR low high l).2 ∧ Stp w0 p W w' := by
  have HS := Aside0.mk hs
  have HB := Aside0.mk hB
  by_cases c : high ≤ low
  · have d : decide (high ≤ low) = true := decide_eq_true c
    have e : betweenR low high l = (low, l) := if_pos c
    rw [e]
    clear hs hB hp
    go_enter Try.func23, Try.ntmps23
    go_wp2
    go_ret
    exact ⟨rfl, HS.out, Stp.refl HB.out⟩
  have d : decide (high ≤ low) = false := decide_eq_false c
  by_cases c2 : IntKind.u64.wrap (IntKind.u64.wrap high - IntKind.u64.wrap low) = 18446744073709551615
  · have e : betweenR low high l = (wrap64 (IntKind.u64.wrap (IntKind.u64.wrap low + (someR 8 l 0).1)), (someR 8 l 0).2) := by unfold betweenR; rw [if_neg c, if_pos c2]
    have HSo := Aside0.mk (ref_some w0 W p l 8 (by omega) hs hB hp)
    obtain ⟨r, hr⟩ : ∃ r, someR 8 l 0 = r := ⟨_, rfl⟩
    rw [hr] at HSo e
    rw [e]
    have d2 : (IntKind.u64.wrap (IntKind.u64.wrap high - IntKind.u64.wrap low) == 18446744073709551615) = true := beq_iff_eq.mpr c2
    clear hs hB hp hr e c2 c
    go_enter Try.func23, Try.ntmps23
    go_wp2_with (go_at_call 67; refine HSo.out.mono ?_; rintro e w2 ⟨rfl, hs2, ht2⟩; have HS2 := Aside0.mk hs2; have HT2 := Aside0.mk ht2; clear hs2 ht2)
    go_ret
    exact ⟨rfl, HS2.out, HT2.out⟩
  · have e : betweenR low high l = (wrap64 (IntKind.u64.wrap (IntKind.u64.wrap low + (belowR (wayS low high) l).1)), (belowR (wayS low high) l).2) := by unfold betweenR; rw [if_neg c, if_neg c2]
    have hwr : 0 ≤ wayS low high ∧ wayS low high < 18446744073709551616 := by
      have : wayS low high = (IntKind.u64.wrap (IntKind.u64.wrap high - IntKind.u64.wrap low) + 1) % 18446744073709551616 := rfl
      omega
    have HSo := Aside0.mk (ref_below w0 W p l (wayS low high) hwr.1 hwr.2 hs hB hp)
    obtain ⟨r, hr⟩ : ∃ r, belowR (wayS low high) l = r := ⟨_, rfl⟩
    rw [hr] at HSo e
    rw [e]
    have d2 : (IntKind.u64.wrap (IntKind.u64.wrap high - IntKind.u64.wrap low) == 18446744073709551615) = false := beq_eq_false_iff_ne.mpr c2
    unfold wayS at HSo
    clear hs hB hp hr e c2 c hwr
    go_enter Try.func23, Try.ntmps23
    go_wp2_with (go_at_call 21; with_reducible refine HSo.out.mono ?_; rintro e w2 ⟨rfl, hs2, ht2⟩; have HS2 := Aside0.mk hs2; have HT2 := Aside0.mk ht2; clear hs2 ht2)
    go_ret
    exact ⟨rfl, HS2.out, HT2.out⟩

/-! ### chance_Source_Pick: function 24 (by hand) -/
def wtS (x : Int) : Int := IntKind.u64.wrap (mn (mx x 0) 1000)
def allS (ws : List Int) : Int := ws.foldl (fun a x => IntKind.u64.wrap (a + wtS x)) 0
def pkS (ws : List Int) : Nat → Int → Int → Int
  | 0, _, _ => 0
  | k + 1, i, n => if n < wtS (rd ws i) then i else pkS ws k (wrap64 (i + 1)) (IntKind.u64.wrap (n - wtS (rd ws i)))
def pickS (ws : List Int) (l : List Int) : Int × List Int := (pkS ws ws.length 0 (belowS (allS ws) l).1, (belowS (allS ws) l).2)
theorem all_step {ws : List Int} {i : Int} (h0 : 0 ≤ i) (h1 : i < (ws.length : Int)) (a : Int) : (ws.take (i + 1).toNat).foldl (fun a x => IntKind.u64.wrap (a + wtS x)) a = IntKind.u64.wrap ((ws.take i.toNat).foldl (fun a x => IntKind.u64.wrap (a + wtS x)) a + wtS (rd ws i)) := by
  have hl : i.toNat < ws.length := by omega
  rw [show (i + 1).toNat = i.toNat + 1 by omega, List.take_add_one, List.foldl_append, List.getElem?_eq_getElem hl]
  have e : rd ws i = ws[i.toNat] := by unfold rd; simp [hl]
  rw [e]; rfl
theorem u64_rng (x : Int) : 0 ≤ IntKind.u64.wrap x ∧ IntKind.u64.wrap x < 18446744073709551616 := by
  have e : IntKind.u64.wrap x = x % 18446744073709551616 := rfl
  omega
theorem all_rng (ws : List Int) : 0 ≤ allS ws ∧ allS ws < 18446744073709551616 := by
  unfold allS
  have : ∀ (ws : List Int) (a : Int), 0 ≤ a ∧ a < 18446744073709551616 → 0 ≤ ws.foldl (fun a x => IntKind.u64.wrap (a + wtS x)) a ∧ ws.foldl (fun a x => IntKind.u64.wrap (a + wtS x)) a < 18446744073709551616 := by
    intro ws
    induction ws with
    | nil => intro a h; exact h
    | cons x ws ih => intro a h; exact ih _ (u64_rng _)
  exact this ws 0 (by omega)
set_option maxHeartbeats 4000000 in
set_option maxRecDepth 100000 in
theorem chance_weight (w0 W : World) (gB : Nat) (A : Option Addr) (c : Nat) (ws : List Int) (i : Int) (hw : Kd.C (Kd.int .i64) w0 A ws.length ws) (hB : Below w0.heap.size w0 W) (hb : W.heap[gB]? = some (.cells #[.slice A ws.length c] 32 (0, 0))) (h0 : 0 ≤ i) (h1 : i < (ws.length : Int)) :
    Calls Try.prog 68 #[.int .i64 i, .pointer (some ⟨gB, 0, none⟩)] W fun e w' => e = .returned (.int .u64 (wtS (rd ws i))) ∧ w' = W := by
  obtain ⟨ad, e1, hx⟩ := Kd.at_int hw i h0 h1
  subst e1
  replace hx := (hB.cell (World.block_lt_of_cell? w0 _ hx)).trans hx
  have z : W.cell? ⟨gB, 0, none⟩ = some (.slice (some ad) ws.length c) := (blk_cell hb 0).trans rfl
  obtain ⟨m1, hm1⟩ : ∃ m, mx (rd ws i) 0 = m := ⟨_, rfl⟩
  obtain ⟨m2, hm2⟩ : ∃ m, mn m1 1000 = m := ⟨_, rfl⟩
  have e1 : (if rd ws i < 0 then 0 else rd ws i) = m1 := hm1
  have e2 : (if 1000 < m1 then 1000 else m1) = m2 := hm2
  have HE : Aside0 (wtS (rd ws i) = IntKind.u64.wrap m2) := ⟨by unfold wtS; rw [hm1, hm2]⟩
  rw [HE.out]
  have HM2 := Aside0.mk (show 0 ≤ m2 ∧ m2 ≤ 1000 by rw [← hm2, ← hm1]; unfold mn mx; split <;> split <;> omega)
  have p1 := eq_true h0
  have p2 := eq_true h1
  clear hw hB hb hm1 hm2 h1
  go_enter Try.func68, Try.ntmps68
  go_wp2
  go_ret
  exact ⟨by rw [show IntKind.u64.wrap m2 = m2 by have e : IntKind.u64.wrap m2 = m2 % 18446744073709551616 := rfl; have := HM2.out; omega]; rfl, rfl⟩
set_option maxHeartbeats 4000000 in
set_option maxRecDepth 100000 in
theorem chance_pick (w0 W : World) (p : Option Addr) (l : List Int) (A : Option Addr) (c : Nat) (ws : List Int) (hw : Kd.C (Kd.int .i64) w0 A ws.length ws) (hs : Src 44 w0 W p l) (hpl : ∀ a, p = some a → a.block < W.heap.size) (hB : Below w0.heap.size w0 W) :
    Calls Try.prog 24 #[.pointer p, .slice A ws.length c] W fun e w' => e = .returned (.int .i64 (pickS ws l).1) ∧ Src 44 w0 w' p (pickS ws l).2 ∧ Stp w0 p W w' := by
  obtain ⟨W1, hW1⟩ : ∃ W1, W1 = W.alloc (.cells #[.slice A ws.length c] 32) := ⟨_, rfl⟩
  have hb01 : Below W.heap.size W W1 := by rw [hW1]; exact below_alloc (Below.refl _ _) _
  have HB1 := Aside0.mk (below_step hB hb01)
  have BK := Aside0.mk (show W1.heap[W.heap.size]? = some (.cells #[.slice A ws.length c] 32 (0, 0)) by rw [hW1]; exact blk_new W _)
  have HST := Aside0.mk (Stp.of_below (p := p) hB hb01)
  have HM := Aside0.mk hw.2.1
  have HW := Aside0.mk hW1
  have HC := Aside0.mk (fun W2 (h1 : Below w0.heap.size w0 W2) (h2 : W2.heap[W.heap.size]? = some (.cells #[.slice A ws.length c] 32 (0, 0))) i h3 h4 => chance_weight w0 W2 W.heap.size A c ws i hw h1 h2 h3 h4)
  have HBL := Aside0.mk (chance_below w0 W1 p l (allS ws) (all_rng ws).1 (all_rng ws).2 (hs.below hb01) HB1.out)
  have HPL := Aside0.mk (fun (w2 : World) (ht : Stp w0 p W1 w2) => (show w2.heap[W.heap.size]? = some (.cells #[.slice A ws.length c] 32 (0, 0)) by
    rw [ht.2.2 W.heap.size (by rw [hW1]; simp) (fun a ha => by have := hpl a ha; omega)]; exact BK.out))
  obtain ⟨r, hr⟩ : ∃ r, belowS (allS ws) l = r := ⟨_, rfl⟩
  have HPK : Aside0 (pickS ws l = (pkS ws ws.length 0 r.1, r.2)) := ⟨by unfold pickS; rw [hr]⟩
  rw [hr] at HBL
  rw [HPK.out]
  obtain ⟨al, hal⟩ : ∃ al, allS ws = al := ⟨_, rfl⟩
  have HAL := Aside0.mk hal
  rw [hal] at HBL
  have ld : W1.cell? ⟨W.heap.size, 0, none⟩ = some (.slice A ws.length c) := (blk_cell BK.out 0).trans rfl
  clear hw hs hpl hB hb01 hW1 hr hal
  go_enter Try.func24, Try.ntmps24
  go_upto_region 3 with (fail)
  rw [← HW.out]
  go_wp2
  go_loopg [6, 13] ws.length (fun kq v6 v13 wr => ∃ (i a : Int), v13 = .int .i64 i ∧ v6 = .int .u64 a ∧ Aside0 (0 ≤ i ∧ i + kq = ws.length) ∧ Aside0 (a = (ws.take i.toNat).foldl (fun a x => IntKind.u64.wrap (a + wtS x)) 0) ∧ Aside0 (wr = W1))
  case atStart => exact ⟨0, 0, rfl, rfl, ⟨by omega⟩, ⟨rfl⟩, ⟨rfl⟩⟩
  case round =>
    obtain ⟨i, a, rfl, rfl, HI, HA, HWR⟩ := hrel
    have hwr := HWR.out
    subst hwr
    by_cases hlt : i < (ws.length : Int)
    · have hd : decide (i < (ws.length : Int)) = true := decide_eq_true hlt
      have HCC := Aside0.mk (HC.out wr HB1.out BK.out i HI.out.1 hlt)
      have ST := Aside0.mk (all_step HI.out.1 hlt 0)
      have hw := Aside0.mk (show wrap64 (i + 1) = i + 1 by have := HM.out; have := HI.out; unfold wrap64; omega)
      go_wp2_with (go_at_call 68; refine HCC.out.mono ?_; rintro e w9 ⟨rfl, rfl⟩)
      go_roundg (gk - 1)
      case measure => have := HI.out; omega
      case rel => exact ⟨wrap64 (i + 1), _, rfl, rfl, ⟨by have := HI.out; rw [hw.out]; omega⟩, ⟨by rw [hw.out, ST.out, HA.out]⟩, ⟨rfl⟩⟩
    · have hd : decide (i < (ws.length : Int)) = false := decide_eq_false hlt
      have hal : a = al := by rw [HA.out, ← HAL.out, show i.toNat = ws.length by have := HI.out; omega, List.take_length]; rfl
      subst hal
      go_wp2_with (go_at_call 20; refine HBL.out.mono ?_; rintro e w2 ⟨rfl, hs2, ht2⟩; have HS2 := Aside0.mk hs2; have HT2 := Aside0.mk (HST.out.trans ht2); have HB2 := Aside0.mk ht2.1; have BK2 := Aside0.mk (HPL.out w2 ht2); have ld2 : w2.cell? ⟨W.heap.size, 0, none⟩ = some (.slice A ws.length c) := (blk_cell BK2.out 0).trans rfl; clear hs2 ht2)
      go_loopg [8, 27] ws.length (fun kq v8 v27 wr => ∃ (j n : Int), v27 = .int .i64 j ∧ v8 = .int .u64 n ∧ Aside0 (0 ≤ j ∧ j + kq = ws.length) ∧ Aside0 (pkS ws kq j n = pkS ws ws.length 0 r.1) ∧ Aside0 (wr = w2))
      case atStart => exact ⟨0, _, rfl, rfl, ⟨by omega⟩, ⟨rfl⟩, ⟨rfl⟩⟩
      case round =>
        obtain ⟨j, n, rfl, rfl, HJ, HN, HWR⟩ := hrel
        have hwr := HWR.out
        subst hwr
        by_cases hlj : j < (ws.length : Int)
        · have hdj : decide (j < (ws.length : Int)) = true := decide_eq_true hlj
          cases gk with
          | zero => exact absurd HJ.out.2 (by omega)
          | succ gk =>
            have HCC := Aside0.mk (HC.out wr HB2.out BK2.out j HJ.out.1 hlj)
            have hn := HN.out
            rw [pkS] at hn
            by_cases q : n < wtS (rd ws j)
            · rw [if_pos q] at hn
              have HNN := Aside0.mk hn
              have dq : decide (n < wtS (rd ws j)) = true := decide_eq_true q
              clear hn q
              go_wp2_with (go_at_call 68; refine HCC.out.mono ?_; rintro e w9 ⟨rfl, rfl⟩)
              go_ret
              exact ⟨by rw [← HNN.out]; rfl, HS2.out, HT2.out⟩
            · rw [if_neg q] at hn
              have HNN := Aside0.mk hn
              have dq : decide (n < wtS (rd ws j)) = false := decide_eq_false q
              have hw := Aside0.mk (show wrap64 (j + 1) = j + 1 by have := HM.out; have := HJ.out; unfold wrap64; omega)
              clear hn q
              go_wp2_with (go_at_call 68; refine HCC.out.mono ?_; rintro e w9 ⟨rfl, rfl⟩)
              go_roundg gk
              case measure => omega
              case rel => exact ⟨wrap64 (j + 1), _, rfl, rfl, ⟨by have := HJ.out; rw [hw.out]; omega⟩, HNN, ⟨rfl⟩⟩
        · have hdj : decide (j < (ws.length : Int)) = false := decide_eq_false hlj
          have HE : Aside0 ((0 : Int) = pkS ws ws.length 0 r.1) := ⟨by
            have hn := HN.out
            rw [show gk = 0 by have := HJ.out; omega] at hn
            exact hn⟩
          go_wp2
          go_ret
          exact ⟨by rw [← HE.out]; rfl, HS2.out, HT2.out⟩

end Go.Proofs.Ytdfkbdcdgbjgcaa.Cha
