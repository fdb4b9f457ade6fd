/- Printed by this session's wip/drive.py over the translation; some functions by hand. -/
import Derived.Test.YtlihfiajbhpokaaZLdox0
import Derived.Test.YtlihfiajbhpokaaZLdox4
import Derived.Test.YtlihfiajbhpokaaZLdox6
import Derived.Test.YtlihfiajbhpokaaZLdox8
import Derived.Test.YtlihfiajbhpokaaZLdox10
namespace Go.Proofs.Ytlihfiajbhpokaa.Ldo
open Go.RowKit Go.Proofs.YtlihfiajbhpokaaW.PrintWords Go.Proofs.YtlihfiajbhpokaaW.PrintLast Go.Proofs.YtlihfiajbhpokaaW.PrintMore
attribute [local go_sem] max2_int min2_int max_two min_two max_three min_three max_four min_four
set_option linter.unusedVariables false
set_option linter.unusedSimpArgs false
def cntR : List RowM → Nat
  | [] => 0
  | r :: l => r.2.length + cntR l
theorem cntR_app : ∀ a b : List RowM, cntR (a ++ b) = cntR a + cntR b
  | [], b => by rw [List.nil_append, cntR, Nat.zero_add]
  | r :: a, b => by rw [List.cons_append, cntR, cntR, cntR_app a b, Nat.add_assoc]
theorem cntR_len : ∀ {l : List RowM}, (∀ r ∈ l, r.2 ≠ []) → l.length ≤ cntR l
  | [], _ => Nat.le_refl _
  | r :: l, h => by
    have ih := cntR_len fun r hr => h r (List.mem_cons_of_mem _ hr)
    have h0 := List.length_pos_iff.2 (h r (List.mem_cons_self ..))
    rw [cntR, List.length_cons]; omega
theorem cntR_mem : ∀ {l : List RowM} {r : RowM}, r ∈ l → r.2.length ≤ cntR l
  | x :: l, r, h => by
    rw [cntR]
    rcases List.mem_cons.1 h with rfl | h
    · omega
    · have := cntR_mem h; omega
theorem split_i {α : Type} {l : List α} {i : Nat} {r : α} (h : l[i]? = some r) : l = l.take i ++ r :: l.drop (i + 1) := by
  obtain ⟨hl, he⟩ := List.getElem?_eq_some_iff.1 h
  conv => lhs; rw [← List.take_append_drop i l, List.drop_eq_getElem_cons hl, he]
theorem set_i {α : Type} {l : List α} {i : Nat} {r r' : α} (h : l[i]? = some r) : l.set i r' = l.take i ++ r' :: l.drop (i + 1) := by
  obtain ⟨hl, he⟩ := List.getElem?_eq_some_iff.1 h
  rw [List.set_eq_take_append_cons_drop, if_pos hl]
theorem cntR_set {l : List RowM} {i : Nat} {r r' : RowM} (h : l[i]? = some r) : cntR (l.set i r') + r.2.length = cntR l + r'.2.length := by
  rw [set_i h]
  conv => rhs; rw [split_i h]
  rw [cntR_app, cntR_app, cntR, cntR]; omega
structure InvB (rs : Nat → List RowM) (m : Nat) : Prop where
  out : ∀ s, s ≠ 1 → s ≠ 2 → rs s = []
  cnt : cntR (rs 1) + cntR (rs 2) = m
  m64 : m ≤ 64
  full : ∀ s, ∀ r ∈ rs s, r.2 ≠ []
  side : ∀ s, ∀ r ∈ rs s, ∀ x ∈ r.2, x.f2 = (s : Int)
theorem InvB.le {rs : Nat → List RowM} {m : Nat} (h : InvB rs m) (s : Nat) : cntR (rs s) ≤ m := by
  have := h.cnt
  by_cases c1 : s = 1
  · subst c1; omega
  · by_cases c2 : s = 2
    · subst c2; omega
    · rw [h.out s c1 c2, cntR]; omega
theorem InvB.fullB {rs : Nat → List RowM} {m : Nat} (h : InvB rs m) : Full rs := fun s j p q e => h.full s (p, q) (List.mem_of_getElem? e)
theorem InvB.few {rs : Nat → List RowM} {m : Nat} (h : InvB rs m) : Few rs m := by
  have hm := h.m64
  refine ⟨fun s => ?_, fun s j p q e => ?_, by omega, fun s j p q e hq => ?_⟩
  · have := cntR_len (h.full s); have := h.le s; omega
  · have h1 : q.length ≤ _ := cntR_mem (List.mem_of_getElem? e)
    have := h.le s; omega
  · have h1 : q.length ≤ _ := cntR_mem (List.mem_of_getElem? e)
    have := h.le s
    have h0 := List.length_pos_iff.2 hq
    omega
theorem InvB.nil : InvB (fun _ => []) 0 := ⟨fun _ _ _ => rfl, rfl, by omega, fun _ r h => (nomatch h), fun _ r h => (nomatch h)⟩
theorem updS_cnt {rs : Nat → List RowM} {s : Nat} {x : List RowM} (hs : s = 1 ∨ s = 2) : cntR (updS rs s x 1) + cntR (updS rs s x 2) + cntR (rs s) = cntR (rs 1) + cntR (rs 2) + cntR x := by
  unfold updS
  rcases hs with rfl | rfl
  · simp; omega
  · simp; omega
theorem InvB.upd {rs : Nat → List RowM} {m m' s : Nat} {x : List RowM} (h : InvB rs m) (hs : s = 1 ∨ s = 2) (hc : cntR x + m = cntR (rs s) + m') (hm : m' ≤ 64) (hf : ∀ r ∈ x, r.2 ≠ []) (hx : ∀ r ∈ x, ∀ y ∈ r.2, y.f2 = (s : Int)) : InvB (updS rs s x) m' := by
  have hcc := updS_cnt (rs := rs) (x := x) hs
  have := h.cnt
  refine ⟨fun t h1 h2 => ?_, by omega, hm, fun t r hr => ?_, fun t r hr => ?_⟩
  · unfold updS; rw [if_neg (by rcases hs with rfl | rfl <;> assumption)]; exact h.out t h1 h2
  · unfold updS at hr
    split at hr
    · exact hf r hr
    · exact h.full t r hr
  · unfold updS at hr
    split at hr
    · rename_i e; subst e; exact hx r hr
    · exact h.side t r hr
theorem insQ_mem {o x : SOr} {q : List SOr} (h : x ∈ insQ o q) : x = o ∨ x ∈ q := by
  unfold insQ at h
  rcases List.mem_append.1 h with h | h
  · exact .inr (List.mem_of_mem_take h)
  · rcases List.mem_cons.1 h with h | h
    · exact .inl h
    · exact .inr (List.mem_of_mem_drop h)
theorem InvB.add {rs : Nat → List RowM} {m : Nat} (h : InvB rs m) (o : SOr) : InvB (addM rs m o) (addN rs m o) := by
  unfold addM addN
  by_cases c : addE rs m o = 0
  · rw [if_pos c, if_pos c]
    unfold addE at c
    split at c
    · simp at c
    · rename_i hg
      split at c
      · simp at c
      · split at c
        · simp at c
        · rename_i hm
          have hg' : goodB o = true := by simpa using hg
          have hsd := goodB_side hg'
          obtain ⟨s, hs⟩ : ∃ s, o.f2.toNat = s := ⟨_, rfl⟩
          have hs2 : o.f2 = (s : Int) := by omega
          have hs3 : s = 1 ∨ s = 2 := by omega
          rw [hs]
          obtain ⟨i, hi⟩ : ∃ i, addI (rs s) o = i := ⟨_, rfl⟩
          have new : ∀ x, x = (rs s).take i ++ (o.f3, [o]) :: (rs s).drop i → InvB (updS rs s x) (m + 1) := by
            rintro x rfl
            have e : cntR ((rs s).take i) + cntR ((rs s).drop i) = cntR (rs s) := by rw [← cntR_app, List.take_append_drop]
            refine h.upd hs3 ?_ (by omega) (fun r hr => ?_) (fun r hr y hy => ?_)
            · rw [cntR_app, cntR]; simp; omega
            · rcases List.mem_append.1 hr with hr | hr
              · exact h.full s r (List.mem_of_mem_take hr)
              · rcases List.mem_cons.1 hr with rfl | hr
                · simp
                · exact h.full s r (List.mem_of_mem_drop hr)
            · rcases List.mem_append.1 hr with hr | hr
              · exact h.side s r (List.mem_of_mem_take hr) y hy
              · rcases List.mem_cons.1 hr with rfl | hr
                · rw [List.mem_singleton.1 hy]; exact hs2
                · exact h.side s r (List.mem_of_mem_drop hr) y hy
          unfold addR
          rw [hi]
          split
          · rename_i r hr
            split
            · rename_i hp
              have hcc := cntR_set (r' := (r.1, insQ o r.2)) hr
              have hil := insQ_len o r.2
              refine h.upd hs3 (by simp only [hil] at hcc; omega) (by omega) (fun z hz => ?_) (fun z hz y hy => ?_)
              · rcases List.mem_or_eq_of_mem_set hz with hz | rfl
                · exact h.full s z hz
                · intro q; have : (insQ o r.2).length = 0 := by rw [show insQ o r.2 = [] from q]; rfl
                  omega
              · rcases List.mem_or_eq_of_mem_set hz with hz | rfl
                · exact h.side s z hz y hy
                · rcases insQ_mem hy with rfl | hy
                  · exact hs2
                  · exact h.side s r (List.mem_of_getElem? hr) y hy
            · exact new _ rfl
          · exact new _ rfl
  · rw [if_neg c, if_neg c]; exact h
def livO : Nat → SOr
  | 0 => ⟨0, 0, 2, 7, 1, 0⟩
  | 1 => ⟨1, 0, 2, 5, 1, 1⟩
  | _ => ⟨2, 0, 2, 6, 1, 2⟩
def livS : Nat → (Nat → List RowM) × Nat
  | 0 => (fun _ => [], 0)
  | k + 1 => (addM (livS k).1 (livS k).2 (livO k), addN (livS k).1 (livS k).2 (livO k))
theorem livInv : ∀ k, InvB (livS k).1 (livS k).2
  | 0 => InvB.nil
  | k + 1 => (livInv k).add (livO k)
theorem liv_end : ((livS 3).1 2).map Prod.fst = [5, 6, 7] ∧ ((bestM ((livS 3).1 2)).getD zO).f3 = 5 ∧ (bestM ((livS 3).1 2)).isSome = true ∧ (livS 3).2 = 3 := by decide +kernel
theorem InvB.rsS {rs : Nat → List RowM} {m : Nat} (h : InvB rs m) : rsB (rs 1) (rs 2) = rs := by
  funext s
  unfold rsB
  split
  · rename_i e; rw [e]
  · split
    · rename_i e; rw [e]
    · rename_i e1 e2; exact (h.out s e1 e2).symm
theorem St.bookBk {W w : World} {F0 : Nat → Prop} {l : List Part} {g m : Nat} {rs : Nat → List RowM} (h : St W F0 w (BookP g (rs 1) (rs 2) m :: l)) (i : InvB rs m) : ∃ A c, BkF g rs m A c w := by
  obtain ⟨A, c, hb⟩ := h.bookRead
  rw [i.rsS] at hb
  exact ⟨A, c, hb⟩
set_option maxHeartbeats 8000000 in
set_option maxRecDepth 100000 in
theorem ladder_lives (w : World) : Calls Try.prog 34 #[] w fun e w' => e = .returned (.bool true) ∧ Below w.heap.size w w' := by
  have hu := Try.underlying33
  have S0 := St.start w (fun _ => False)
  go_enter Try.func34, Try.ntmps34
  go_wp2_with (first | (go_at_call 35; refine (ladder_new _).mono ?_; rintro e w1 ⟨g, rfl, hn⟩; have S1 := S0.join0 hn; clear S0 hn))
  have S2 := S1.alloc (cs := #[.int .i64 7, .int .i64 5, .int .i64 6]) (t := 2)
  generalize World.alloc w1 _ = w2 at S2 ⊢
  obtain ⟨gl, hgl⟩ : ∃ gl, w1.heap.size = gl := ⟨_, rfl⟩
  rw [hgl] at S2 ⊢
  clear S1 hgl
  go_loopg [10] 3 (fun kq v10 wr => ∃ i : Nat, v10 = .int .i64 (i : Int) ∧ Aside0 (i + kq = 3) ∧ Aside0 (St w (fun _ => False) wr [BookP g ((livS i).1 1) ((livS i).1 2) (livS i).2, Pt gl #[.int .i64 7, .int .i64 5, .int .i64 6] 2]))
  case atStart => exact ⟨0, rfl, ⟨by omega⟩, ⟨S2.perm2⟩⟩
  case round =>
    clear S2
    obtain ⟨i, rfl, HI, HS⟩ := hrel
    have S := HS.out
    clear HS
    rcases (show i = 0 ∨ i = 1 ∨ i = 2 ∨ i = 3 by have := HI.out; omega) with rfl | rfl | rfl | rfl
    · have p0 : wr.cell? ⟨gl, 0, none⟩ = some (.int .i64 7) := (blk_cell (S.blk 1 rfl) 0).trans rfl
      go_wp2_with (go_at_call 36; obtain ⟨F, hA, _, hj⟩ := S.join; refine (book_add hA (livInv 0).few (livO 0)).mono ?_; rintro e w1 ⟨rfl, hs⟩; have S1 := hj w1 _ hs; clear hA hj hs S p0)
      go_roundg (gk - 1)
      case measure => have := HI.out; omega
      case rel => exact ⟨1, rfl, ⟨by have := HI.out; omega⟩, ⟨S1⟩⟩
    · have p0 : wr.cell? ⟨gl, 1, none⟩ = some (.int .i64 5) := (blk_cell (S.blk 1 rfl) 1).trans rfl
      go_wp2_with (go_at_call 36; obtain ⟨F, hA, _, hj⟩ := S.join; refine (book_add hA (livInv 1).few (livO 1)).mono ?_; rintro e w1 ⟨rfl, hs⟩; have S1 := hj w1 _ hs; clear hA hj hs S p0)
      go_roundg (gk - 1)
      case measure => have := HI.out; omega
      case rel => exact ⟨2, rfl, ⟨by have := HI.out; omega⟩, ⟨S1⟩⟩
    · have p0 : wr.cell? ⟨gl, 2, none⟩ = some (.int .i64 6) := (blk_cell (S.blk 1 rfl) 2).trans rfl
      go_wp2_with (go_at_call 36; obtain ⟨F, hA, _, hj⟩ := S.join; refine (book_add hA (livInv 2).few (livO 2)).mono ?_; rintro e w1 ⟨rfl, hs⟩; have S1 := hj w1 _ hs; clear hA hj hs S p0)
      go_roundg (gk - 1)
      case measure => have := HI.out; omega
      case rel => exact ⟨3, rfl, ⟨by have := HI.out; omega⟩, ⟨S1⟩⟩
    · obtain ⟨ps, hps⟩ : ∃ ps, ((livS 3).1 2).map Prod.fst = ps := ⟨_, rfl⟩
      obtain ⟨x, hx⟩ : ∃ x, (bestM ((livS 3).1 2)).getD zO = x := ⟨_, rfl⟩
      have hend := liv_end
      rw [hps, hx] at hend
      obtain ⟨h1, h2, h3, h4⟩ := hend
      have HE := Aside0.mk (And.intro h1 (And.intro h2 (And.intro h3 h4)))
      have HB : Aside0 (∀ w', Below wr.heap.size wr w' → Calls Try.prog 40 #[.pointer (some ⟨g, 0, none⟩), .int .i64 2] w' fun e w'' => e = .returned (.tuple #[.agg #[.int .u64 x.f0, .int .i64 x.f1, .int .i64 x.f2, .int .i64 x.f3, .int .i64 x.f4, .int .u64 x.f5], .bool true]) ∧ Below w'.heap.size w' w'') := ⟨fun w' hb => by
        obtain ⟨A, c, hbk⟩ := S.bookBk (livInv 3)
        have := (hbk.below hb).best (livInv 3).fullB 2 (.inr rfl)
        rw [hx, h3] at this
        exact this⟩
      have HP : Aside0 (∀ w', Below wr.heap.size wr w' → Calls Try.prog 39 #[.pointer (some ⟨g, 0, none⟩), .int .i64 2] w' fun e w'' => ∃ v, e = .returned v ∧ St w' (fun _ => False) w'' [OwP 2 1 v 3 [.int .i64 5, .int .i64 6, .int .i64 7]]) := ⟨fun w' hb => by
        obtain ⟨A, c, hbk⟩ := S.bookBk (livInv 3)
        have := (hbk.below hb).prices 2 (.inr rfl) ((livInv 3).few.r 2)
        rw [hps, show ((livS 3).1 2).length = 3 by have := congrArg List.length hps; rw [h1] at this; simpa using this, h1] at this
        exact this⟩
      have HL : Aside0 (∀ w', Below wr.heap.size wr w' → Calls Try.prog 68 #[.pointer (some ⟨g, 0, none⟩)] w' fun e w'' => e = .returned (.int .i64 3) ∧ Below w'.heap.size w' w'') := ⟨fun w' hb => by
        obtain ⟨A, c, hbk⟩ := S.bookBk (livInv 3)
        have := (hbk.below hb).len
        rw [h4] at this
        exact this⟩
      have hf3 : (x.f3 == 5) = true := by rw [h2]; rfl
      have HW : Aside0 (Below w.heap.size w wr) := ⟨S.below⟩
      have B0 := St.start wr (fun _ => False)
      clear hps hx h1 h2 h3 h4 S
      go_wp2_with (first
        | (go_at_call 40; refine (HB.out _ B0.below).mono ?_; rintro e w1 ⟨rfl, hb⟩; have B1 := B0.call hb; clear hb B0)
        | (go_at_call 39; have B2 := B1.alloc (cs := #[.int .u64 x.f0, .int .i64 x.f1, .int .i64 x.f2, .int .i64 x.f3, .int .i64 x.f4, .int .u64 x.f5]) (t := 33); refine (HP.out _ B2.below).mono ?_; rintro e w3 ⟨v, rfl, hs⟩; have B3 := B2.join0 hs; clear B1 B2 hs; obtain ⟨Fp, hp⟩ := B3.get 0 rfl; obtain ⟨gp, cp, rfl, hc⟩ := hp.some_ (by omega); have q0 := hc 0 _ rfl; have q1 := hc 1 _ rfl; have q2 := hc 2 _ rfl; have q3 := (blk_cell (B3.blk 1 rfl) 3).trans (show _ = some (.int .i64 x.f3) from rfl); clear hc hp)
        | (go_at_call 68; refine (HL.out _ B3.below).mono ?_; rintro e w4 ⟨rfl, hb⟩; have B4 := B3.call hb; clear hb B3))
      go_ret
      exact ⟨rfl, below_step HW.out B4.below⟩
def jobberref12_Better.f (a0 : Int) (a1 : Int) (a2 : Int) : Option (Bool) := if a0 = 1 then (if a1 > a2 then (some true) else (if a0 = 2 then (some (decide (a1 < a2))) else (some false))) else (if a0 = 2 then (some (decide (a1 < a2))) else (some false))
set_option maxHeartbeats 8000000 in
set_option maxRecDepth 100000 in
theorem jobberref12_Better.calls (a0 : Int) (a1 : Int) (a2 : Int) (r : Bool) (w : World) (h : jobberref12_Better.f a0 a1 a2 = some r) :
    Calls Try.prog 24 #[.int .i64 a0, .int .i64 a1, .int .i64 a2] w fun e w' => e = .returned (.bool r) ∧ Drawn0 w w' := by
  have H : (if a0 = 1 then (if a1 > a2 then (some true) else (if a0 = 2 then (some (decide (a1 < a2))) else (some false))) else (if a0 = 2 then (some (decide (a1 < a2))) else (some false))) = some r := h
  clear h
  by_cases c4 : a0 = 1
  · rw [if_pos c4] at H
    have c4b0 : (a0 == 1) = true := beq_iff_eq.mpr c4
    have c4b1 : (a0 != 1) = false := bne_eq_false_iff_eq.mpr c4
    clear c4
    by_cases c5 : a1 > a2
    · rw [if_pos c5] at H
      have c5b0 : decide (a2 < a1) = true := decide_eq_true c5
      clear c5
      obtain rfl := Option.some.inj H
      go_enter Try.func24, Try.ntmps24
      go_wp2
      go_ret
      exact ⟨by first | rfl | (simp; done) | (simp [*]; done), by repeat (first | exact Drawn0.refl _ | apply Drawn0.step)⟩
    · rw [if_neg c5] at H
      have c5b0 : decide (a2 < a1) = false := decide_eq_false c5
      clear c5
      by_cases c6 : a0 = 2
      · rw [if_pos c6] at H
        have c6b0 : (a0 == 2) = true := beq_iff_eq.mpr c6
        have c6b1 : (a0 != 2) = false := bne_eq_false_iff_eq.mpr c6
        clear c6
        obtain rfl := Option.some.inj H
        go_enter Try.func24, Try.ntmps24
        go_wp2
        go_ret
        exact ⟨by first | rfl | (simp; done) | (simp [*]; done), by repeat (first | exact Drawn0.refl _ | apply Drawn0.step)⟩
      · rw [if_neg c6] at H
        have c6b0 : (a0 == 2) = false := beq_eq_false_iff_ne.mpr c6
        have c6b1 : (a0 != 2) = true := bne_iff_ne.mpr c6
        obtain rfl := Option.some.inj H
        go_enter Try.func24, Try.ntmps24
        go_wp2
        go_ret
        exact ⟨by first | rfl | (simp; done) | (simp [*]; done), by repeat (first | exact Drawn0.refl _ | apply Drawn0.step)⟩
  · rw [if_neg c4] at H
    have c4b0 : (a0 == 1) = false := beq_eq_false_iff_ne.mpr c4
    have c4b1 : (a0 != 1) = true := bne_iff_ne.mpr c4
    by_cases c7 : a0 = 2
    · rw [if_pos c7] at H
      have c7b0 : (a0 == 2) = true := beq_iff_eq.mpr c7
      have c7b1 : (a0 != 2) = false := bne_eq_false_iff_eq.mpr c7
      clear c7
      obtain rfl := Option.some.inj H
      go_enter Try.func24, Try.ntmps24
      go_wp2
      go_ret
      exact ⟨by first | rfl | (simp; done) | (simp [*]; done), by repeat (first | exact Drawn0.refl _ | apply Drawn0.step)⟩
    · rw [if_neg c7] at H
      have c7b0 : (a0 == 2) = false := beq_eq_false_iff_ne.mpr c7
      have c7b1 : (a0 != 2) = true := bne_iff_ne.mpr c7
      obtain rfl := Option.some.inj H
      go_enter Try.func24, Try.ntmps24
      go_wp2
      go_ret
      exact ⟨by first | rfl | (simp; done) | (simp [*]; done), by repeat (first | exact Drawn0.refl _ | apply Drawn0.step)⟩
def jobberref12_Ahead.j0 : Nat → Bool → Int → Int → Int → Int → Int → Int → Int → Int → Int → Int → Int → Int → Option (Bool)
  | 0, _, _, _, _, _, _, _, _, _, _, _, _, _ => none
  | k + 1, x19, x132000, x132001, x132002, x132003, x132004, x132005, x133000, x133001, x133002, x133003, x133004, x133005 => if x19 = true then (some false) else (if x132003 = x133003 then (if x132005 = x133005 then (some (decide (x132000 < x133000))) else (some (decide (x132005 < x133005)))) else ((jobberref12_Better.f x132002 x132003 x133003).bind fun t133 => (some t133)))
def jobberref12_Ahead.f (k : Nat) (a0_0 : Int) (a0_1 : Int) (a0_2 : Int) (a0_3 : Int) (a0_4 : Int) (a0_5 : Int) (a1_0 : Int) (a1_1 : Int) (a1_2 : Int) (a1_3 : Int) (a1_4 : Int) (a1_5 : Int) : Option (Bool) := if a0_2 = a1_2 then (if a0_2 < 1 then (jobberref12_Ahead.j0 k true a0_0 a0_1 a0_2 a0_3 a0_4 a0_5 a1_0 a1_1 a1_2 a1_3 a1_4 a1_5) else (jobberref12_Ahead.j0 k (decide (a0_2 > 2)) a0_0 a0_1 a0_2 a0_3 a0_4 a0_5 a1_0 a1_1 a1_2 a1_3 a1_4 a1_5)) else (jobberref12_Ahead.j0 k true a0_0 a0_1 a0_2 a0_3 a0_4 a0_5 a1_0 a1_1 a1_2 a1_3 a1_4 a1_5)
theorem jobberref12_Ahead.mono_l : ∀ k, (∀ y0 y1 y2 y3 y4 y5 y6 y7 y8 y9 y10 y11 y12, LeO (jobberref12_Ahead.j0 k y0 y1 y2 y3 y4 y5 y6 y7 y8 y9 y10 y11 y12) (jobberref12_Ahead.j0 (k + 1) y0 y1 y2 y3 y4 y5 y6 y7 y8 y9 y10 y11 y12))
  | 0 => fun _ _ _ _ _ _ _ _ _ _ _ _ _ r h => by simp [jobberref12_Ahead.j0] at h
  | k + 1 => by
    have ih0 := jobberref12_Ahead.mono_l k
    · intro y0 y1 y2 y3 y4 y5 y6 y7 y8 y9 y10 y11 y12
      unfold jobberref12_Ahead.j0
      repeat' first
      | (with_reducible exact ih0 _ _ _ _ _ _ _ _ _ _ _ _ _)
      | (with_reducible exact LeO.refl _)
      | (with_reducible exact LeO.none _)
      | (with_reducible refine LeO.ite ?_ ?_)
      | (with_reducible refine LeO.bind ?_ (fun _ => ?_))
      | exact ih0 _ _ _ _ _ _ _ _ _ _ _ _ _
      | exact LeO.none _
      | refine LeO.ite ?_ ?_
      | refine LeO.bind ?_ (fun _ => ?_)
theorem jobberref12_Ahead.mono : ∀ a0 a1 a2 a3 a4 a5 a6 a7 a8 a9 a10 a11 k, LeO (jobberref12_Ahead.f k a0 a1 a2 a3 a4 a5 a6 a7 a8 a9 a10 a11) (jobberref12_Ahead.f (k + 1) a0 a1 a2 a3 a4 a5 a6 a7 a8 a9 a10 a11) := by
  intro a0 a1 a2 a3 a4 a5 a6 a7 a8 a9 a10 a11 k
  have ih0 := jobberref12_Ahead.mono_l k
  unfold jobberref12_Ahead.f
  repeat' first
      | (with_reducible exact ih0 _ _ _ _ _ _ _ _ _ _ _ _ _)
      | (with_reducible exact LeO.refl _)
      | (with_reducible exact LeO.none _)
      | (with_reducible refine LeO.ite ?_ ?_)
      | (with_reducible refine LeO.bind ?_ (fun _ => ?_))
      | exact ih0 _ _ _ _ _ _ _ _ _ _ _ _ _
      | exact LeO.none _
      | refine LeO.ite ?_ ?_
      | refine LeO.bind ?_ (fun _ => ?_)
set_option maxHeartbeats 8000000 in
set_option maxRecDepth 100000 in
theorem jobberref12_Ahead.calls (k : Nat) (a0_0 : Int) (a0_1 : Int) (a0_2 : Int) (a0_3 : Int) (a0_4 : Int) (a0_5 : Int) (a1_0 : Int) (a1_1 : Int) (a1_2 : Int) (a1_3 : Int) (a1_4 : Int) (a1_5 : Int) (r : Bool) (w : World) (h : jobberref12_Ahead.f k a0_0 a0_1 a0_2 a0_3 a0_4 a0_5 a1_0 a1_1 a1_2 a1_3 a1_4 a1_5 = some r) :
    Calls Try.prog 22 #[.agg #[.int .u64 a0_0, .int .i64 a0_1, .int .i64 a0_2, .int .i64 a0_3, .int .i64 a0_4, .int .u64 a0_5], .agg #[.int .u64 a1_0, .int .i64 a1_1, .int .i64 a1_2, .int .i64 a1_3, .int .i64 a1_4, .int .u64 a1_5]] w fun e w' => e = .returned (.bool r) ∧ Below w.heap.size w w' := by
  have hu41 := Try.underlying41
  have HB := Aside0.mk (Below.refl w.heap.size w)
  have H : (if a0_2 = a1_2 then (if a0_2 < 1 then (jobberref12_Ahead.j0 k true a0_0 a0_1 a0_2 a0_3 a0_4 a0_5 a1_0 a1_1 a1_2 a1_3 a1_4 a1_5) else (jobberref12_Ahead.j0 k (decide (a0_2 > 2)) a0_0 a0_1 a0_2 a0_3 a0_4 a0_5 a1_0 a1_1 a1_2 a1_3 a1_4 a1_5)) else (jobberref12_Ahead.j0 k true a0_0 a0_1 a0_2 a0_3 a0_4 a0_5 a1_0 a1_1 a1_2 a1_3 a1_4 a1_5)) = some r := h
  clear h
  have HC3 := Aside0.mk H
  clear H
  go_enter Try.func22, Try.ntmps22
  go_upto_region 1 with (first | ((with_reducible refine gate_dst (N := 2) rfl ?_); refine box_event ?hg (N := 2) ?hd (cs := #[.int .u64 a0_0, .int .i64 a0_1, .int .i64 a0_2, .int .i64 a0_3, .int .i64 a0_4, .int .u64 a0_5]) (t := 41) ?hr ?_; (case hd => rfl); (case hg => rfl); (case hr => first | (go_simp; done) | (go_simp; rfl)); intro gb131 hg w4 hbox hb; have n0_ := Aside0.mk (below_step (by repeat (first | (with_reducible first | exact HB.out | apply below_alloc | apply pw_below_drewN | apply below_drew1) | exact HB.out)) hb); have n1_ := Aside0.mk (hbox); have n2_ := Aside0.mk ((by rw [hg]; exact (below_size (by repeat (first | (with_reducible first | exact HB.out | apply below_alloc | apply pw_below_drewN | apply below_drew1) | exact HB.out))) : w.heap.size ≤ gb131)); have n3_ := Aside0.mk ((by rw [hg]; exact (below_size (by repeat (first | (with_reducible first | exact HB.out | apply below_alloc | apply pw_below_drewN | apply below_drew1) | exact HB.out))) : w.heap.size ≤ gb131)); clear HB; have HB := n0_; have BK131 := n1_; have GW131 := n2_; have GE131 := n3_; clear n0_ n1_ n2_ n3_; clear hb hbox hg) | ((with_reducible refine gate_dst (N := 3) rfl ?_); refine box_event ?hg (N := 3) ?hd (cs := #[.int .u64 a1_0, .int .i64 a1_1, .int .i64 a1_2, .int .i64 a1_3, .int .i64 a1_4, .int .u64 a1_5]) (t := 41) ?hr ?_; (case hd => rfl); (case hg => rfl); (case hr => first | (go_simp; done) | (go_simp; rfl)); intro gb132 hg w5 hbox hb; have n0_ := Aside0.mk (blk_below (g := gb131) (o := .cells #[.int .u64 a0_0, .int .i64 a0_1, .int .i64 a0_2, .int .i64 a0_3, .int .i64 a0_4, .int .u64 a0_5] 41 (0, 0)) (by (with_reducible repeat (first | refine blk_drewN ?_ _ | refine blk_drew ?_ | refine blk_alloc ?_ _)); exact BK131.out) hb); have n1_ := Aside0.mk (below_step (by repeat (first | (with_reducible first | exact HB.out | apply below_alloc | apply pw_below_drewN | apply below_drew1 | refine below_set ?_ GE131.out) | exact HB.out)) hb); have n2_ := Aside0.mk (hbox); have n3_ := Aside0.mk ((by rw [hg]; exact (below_size (by repeat (first | (with_reducible first | exact HB.out | apply below_alloc | apply pw_below_drewN | apply below_drew1 | refine below_set ?_ GE131.out) | exact HB.out))) : w.heap.size ≤ gb132)); have n4_ := Aside0.mk ((by rw [hg]; exact (below_size (by repeat (first | (with_reducible first | exact HB.out | apply below_alloc | apply pw_below_drewN | apply below_drew1 | refine below_set ?_ GE131.out) | exact HB.out))) : w.heap.size ≤ gb132)); have n5_ := Aside0.mk ((by rw [hg]; exact Nat.ne_of_lt (blk_lt (g := gb131) (o := .cells #[.int .u64 a0_0, .int .i64 a0_1, .int .i64 a0_2, .int .i64 a0_3, .int .i64 a0_4, .int .u64 a0_5] 41 (0, 0)) (by (with_reducible repeat (first | refine blk_drewN ?_ _ | refine blk_drew ?_ | refine blk_alloc ?_ _)); exact BK131.out)) : gb131 ≠ gb132)); have n6_ := Aside0.mk ((by rw [hg]; exact Nat.ne_of_gt (blk_lt (g := gb131) (o := .cells #[.int .u64 a0_0, .int .i64 a0_1, .int .i64 a0_2, .int .i64 a0_3, .int .i64 a0_4, .int .u64 a0_5] 41 (0, 0)) (by (with_reducible repeat (first | refine blk_drewN ?_ _ | refine blk_drew ?_ | refine blk_alloc ?_ _)); exact BK131.out)) : gb132 ≠ gb131)); clear BK131; clear HB; have BK131 := n0_; have HB := n1_; have BK132 := n2_; have GW132 := n3_; have GE132 := n4_; have NB131_132 := n5_; have NB132_131 := n6_; clear n0_ n1_ n2_ n3_ n4_ n5_ n6_; clear hb hbox hg))
  (try simp only [Act.put, List.setIfInBounds_toArray, List.set_cons_zero, List.set_cons_succ])
  go_cut [19] (fun v19 wc => ∃ (kq : Nat) (x19_2 : Bool), v19 = .bool x19_2 ∧ Aside0 (jobberref12_Ahead.j0 kq x19_2 a0_0 a0_1 a0_2 a0_3 a0_4 a0_5 a1_0 a1_1 a1_2 a1_3 a1_4 a1_5 = some r) ∧ Aside0 (kq ≤ k) ∧ Aside0 (wc.heap[gb131]? = some (.cells #[.int .u64 a0_0, .int .i64 a0_1, .int .i64 a0_2, .int .i64 a0_3, .int .i64 a0_4, .int .u64 a0_5] 41 (0, 0))) ∧ Aside0 (wc.heap[gb132]? = some (.cells #[.int .u64 a1_0, .int .i64 a1_1, .int .i64 a1_2, .int .i64 a1_3, .int .i64 a1_4, .int .u64 a1_5] 41 (0, 0))) ∧ Aside0 (Below w.heap.size w wc))
  case first =>
    have H := HC3.out
    clear HC3
    by_cases c6 : a0_2 = a1_2
    · rw [if_pos c6] at H
      have c6b0 : (a0_2 == a1_2) = true := beq_iff_eq.mpr c6
      have c6b1 : (a0_2 != a1_2) = false := bne_eq_false_iff_eq.mpr c6
      clear c6
      (first | rw [c6b0] | (simp only [i64_w, i32_w]; rw [c6b0]) | skip)
      by_cases c7 : a0_2 < 1
      · rw [if_pos c7] at H
        have c7b0 : decide (a0_2 < 1) = true := decide_eq_true c7
        clear c7
        have H' := Aside0.mk H
        clear H
        have hnb8 := NB131_132.out
        have hnc8 := NB132_131.out
        have hcz9_0 : w5.cell? ⟨gb131, 0, none⟩ = some (.int .u64 a0_0) := (blk_cell BK131.out 0).trans rfl
        have hcz9_1 : w5.cell? ⟨gb131, 1, none⟩ = some (.int .i64 a0_1) := (blk_cell BK131.out 1).trans rfl
        have hcz9_2 : w5.cell? ⟨gb131, 2, none⟩ = some (.int .i64 a0_2) := (blk_cell BK131.out 2).trans rfl
        have hcz9_3 : w5.cell? ⟨gb131, 3, none⟩ = some (.int .i64 a0_3) := (blk_cell BK131.out 3).trans rfl
        have hcz9_4 : w5.cell? ⟨gb131, 4, none⟩ = some (.int .i64 a0_4) := (blk_cell BK131.out 4).trans rfl
        have hcz9_5 : w5.cell? ⟨gb131, 5, none⟩ = some (.int .u64 a0_5) := (blk_cell BK131.out 5).trans rfl
        have hfz9_0 := blk_frozen BK131.out 0
        have hfz9_1 := blk_frozen BK131.out 1
        have hfz9_2 := blk_frozen BK131.out 2
        have hfz9_3 := blk_frozen BK131.out 3
        have hfz9_4 := blk_frozen BK131.out 4
        have hfz9_5 := blk_frozen BK131.out 5
        have hcz10_0 : w5.cell? ⟨gb132, 0, none⟩ = some (.int .u64 a1_0) := (blk_cell BK132.out 0).trans rfl
        have hcz10_1 : w5.cell? ⟨gb132, 1, none⟩ = some (.int .i64 a1_1) := (blk_cell BK132.out 1).trans rfl
        have hcz10_2 : w5.cell? ⟨gb132, 2, none⟩ = some (.int .i64 a1_2) := (blk_cell BK132.out 2).trans rfl
        have hcz10_3 : w5.cell? ⟨gb132, 3, none⟩ = some (.int .i64 a1_3) := (blk_cell BK132.out 3).trans rfl
        have hcz10_4 : w5.cell? ⟨gb132, 4, none⟩ = some (.int .i64 a1_4) := (blk_cell BK132.out 4).trans rfl
        have hcz10_5 : w5.cell? ⟨gb132, 5, none⟩ = some (.int .u64 a1_5) := (blk_cell BK132.out 5).trans rfl
        have hfz10_0 := blk_frozen BK132.out 0
        have hfz10_1 := blk_frozen BK132.out 1
        have hfz10_2 := blk_frozen BK132.out 2
        have hfz10_3 := blk_frozen BK132.out 3
        have hfz10_4 := blk_frozen BK132.out 4
        have hfz10_5 := blk_frozen BK132.out 5
        go_wp2
        go_meet
        case rel => exact ⟨_, (true), (by first | rfl | (simp; done) | (simp [*]; done)), H', ⟨by first | omega | exact Nat.le_refl _⟩, ⟨by (with_reducible repeat (first | refine blk_drewN ?_ _ | refine blk_drew ?_ | refine blk_alloc ?_ _)); exact BK131.out⟩, ⟨by (with_reducible repeat (first | refine blk_drewN ?_ _ | refine blk_drew ?_ | refine blk_alloc ?_ _)); exact BK132.out⟩, ⟨by repeat (first | (with_reducible first | exact HB.out | apply below_alloc | apply pw_below_drewN | apply below_drew1 | refine below_set ?_ GE131.out | refine below_set ?_ GE132.out) | exact HB.out)⟩⟩
      · rw [if_neg c7] at H
        have c7b0 : decide (a0_2 < 1) = false := decide_eq_false c7
        clear c7
        have H' := Aside0.mk H
        clear H
        have hnb11 := NB131_132.out
        have hnc11 := NB132_131.out
        have hcz12_0 : w5.cell? ⟨gb131, 0, none⟩ = some (.int .u64 a0_0) := (blk_cell BK131.out 0).trans rfl
        have hcz12_1 : w5.cell? ⟨gb131, 1, none⟩ = some (.int .i64 a0_1) := (blk_cell BK131.out 1).trans rfl
        have hcz12_2 : w5.cell? ⟨gb131, 2, none⟩ = some (.int .i64 a0_2) := (blk_cell BK131.out 2).trans rfl
        have hcz12_3 : w5.cell? ⟨gb131, 3, none⟩ = some (.int .i64 a0_3) := (blk_cell BK131.out 3).trans rfl
        have hcz12_4 : w5.cell? ⟨gb131, 4, none⟩ = some (.int .i64 a0_4) := (blk_cell BK131.out 4).trans rfl
        have hcz12_5 : w5.cell? ⟨gb131, 5, none⟩ = some (.int .u64 a0_5) := (blk_cell BK131.out 5).trans rfl
        have hfz12_0 := blk_frozen BK131.out 0
        have hfz12_1 := blk_frozen BK131.out 1
        have hfz12_2 := blk_frozen BK131.out 2
        have hfz12_3 := blk_frozen BK131.out 3
        have hfz12_4 := blk_frozen BK131.out 4
        have hfz12_5 := blk_frozen BK131.out 5
        have hcz13_0 : w5.cell? ⟨gb132, 0, none⟩ = some (.int .u64 a1_0) := (blk_cell BK132.out 0).trans rfl
        have hcz13_1 : w5.cell? ⟨gb132, 1, none⟩ = some (.int .i64 a1_1) := (blk_cell BK132.out 1).trans rfl
        have hcz13_2 : w5.cell? ⟨gb132, 2, none⟩ = some (.int .i64 a1_2) := (blk_cell BK132.out 2).trans rfl
        have hcz13_3 : w5.cell? ⟨gb132, 3, none⟩ = some (.int .i64 a1_3) := (blk_cell BK132.out 3).trans rfl
        have hcz13_4 : w5.cell? ⟨gb132, 4, none⟩ = some (.int .i64 a1_4) := (blk_cell BK132.out 4).trans rfl
        have hcz13_5 : w5.cell? ⟨gb132, 5, none⟩ = some (.int .u64 a1_5) := (blk_cell BK132.out 5).trans rfl
        have hfz13_0 := blk_frozen BK132.out 0
        have hfz13_1 := blk_frozen BK132.out 1
        have hfz13_2 := blk_frozen BK132.out 2
        have hfz13_3 := blk_frozen BK132.out 3
        have hfz13_4 := blk_frozen BK132.out 4
        have hfz13_5 := blk_frozen BK132.out 5
        go_wp2
        go_meet
        case rel => exact ⟨_, (decide (a0_2 > 2)), (by first | rfl | (simp; done) | (simp [*]; done)), H', ⟨by first | omega | exact Nat.le_refl _⟩, ⟨by (with_reducible repeat (first | refine blk_drewN ?_ _ | refine blk_drew ?_ | refine blk_alloc ?_ _)); exact BK131.out⟩, ⟨by (with_reducible repeat (first | refine blk_drewN ?_ _ | refine blk_drew ?_ | refine blk_alloc ?_ _)); exact BK132.out⟩, ⟨by repeat (first | (with_reducible first | exact HB.out | apply below_alloc | apply pw_below_drewN | apply below_drew1 | refine below_set ?_ GE131.out | refine below_set ?_ GE132.out) | exact HB.out)⟩⟩
    · rw [if_neg c6] at H
      have c6b0 : (a0_2 == a1_2) = false := beq_eq_false_iff_ne.mpr c6
      have c6b1 : (a0_2 != a1_2) = true := bne_iff_ne.mpr c6
      (first | rw [c6b0] | (simp only [i64_w, i32_w]; rw [c6b0]) | skip)
      have H' := Aside0.mk H
      clear H
      have hnb14 := NB131_132.out
      have hnc14 := NB132_131.out
      have hcz15_0 : w5.cell? ⟨gb131, 0, none⟩ = some (.int .u64 a0_0) := (blk_cell BK131.out 0).trans rfl
      have hcz15_1 : w5.cell? ⟨gb131, 1, none⟩ = some (.int .i64 a0_1) := (blk_cell BK131.out 1).trans rfl
      have hcz15_2 : w5.cell? ⟨gb131, 2, none⟩ = some (.int .i64 a0_2) := (blk_cell BK131.out 2).trans rfl
      have hcz15_3 : w5.cell? ⟨gb131, 3, none⟩ = some (.int .i64 a0_3) := (blk_cell BK131.out 3).trans rfl
      have hcz15_4 : w5.cell? ⟨gb131, 4, none⟩ = some (.int .i64 a0_4) := (blk_cell BK131.out 4).trans rfl
      have hcz15_5 : w5.cell? ⟨gb131, 5, none⟩ = some (.int .u64 a0_5) := (blk_cell BK131.out 5).trans rfl
      have hfz15_0 := blk_frozen BK131.out 0
      have hfz15_1 := blk_frozen BK131.out 1
      have hfz15_2 := blk_frozen BK131.out 2
      have hfz15_3 := blk_frozen BK131.out 3
      have hfz15_4 := blk_frozen BK131.out 4
      have hfz15_5 := blk_frozen BK131.out 5
      have hcz16_0 : w5.cell? ⟨gb132, 0, none⟩ = some (.int .u64 a1_0) := (blk_cell BK132.out 0).trans rfl
      have hcz16_1 : w5.cell? ⟨gb132, 1, none⟩ = some (.int .i64 a1_1) := (blk_cell BK132.out 1).trans rfl
      have hcz16_2 : w5.cell? ⟨gb132, 2, none⟩ = some (.int .i64 a1_2) := (blk_cell BK132.out 2).trans rfl
      have hcz16_3 : w5.cell? ⟨gb132, 3, none⟩ = some (.int .i64 a1_3) := (blk_cell BK132.out 3).trans rfl
      have hcz16_4 : w5.cell? ⟨gb132, 4, none⟩ = some (.int .i64 a1_4) := (blk_cell BK132.out 4).trans rfl
      have hcz16_5 : w5.cell? ⟨gb132, 5, none⟩ = some (.int .u64 a1_5) := (blk_cell BK132.out 5).trans rfl
      have hfz16_0 := blk_frozen BK132.out 0
      have hfz16_1 := blk_frozen BK132.out 1
      have hfz16_2 := blk_frozen BK132.out 2
      have hfz16_3 := blk_frozen BK132.out 3
      have hfz16_4 := blk_frozen BK132.out 4
      have hfz16_5 := blk_frozen BK132.out 5
      go_wp2
      go_meet
      case rel => exact ⟨_, (true), (by first | rfl | (simp; done) | (simp [*]; done)), H', ⟨by first | omega | exact Nat.le_refl _⟩, ⟨by (with_reducible repeat (first | refine blk_drewN ?_ _ | refine blk_drew ?_ | refine blk_alloc ?_ _)); exact BK131.out⟩, ⟨by (with_reducible repeat (first | refine blk_drewN ?_ _ | refine blk_drew ?_ | refine blk_alloc ?_ _)); exact BK132.out⟩, ⟨by repeat (first | (with_reducible first | exact HB.out | apply below_alloc | apply pw_below_drewN | apply below_drew1 | refine below_set ?_ GE131.out | refine below_set ?_ GE132.out) | exact HB.out)⟩⟩
  case rest =>
    clear HC3
    try clear c1
    try clear c2
    try clear p2
    try clear c6
    try clear c6b0
    try clear c6b1
    try clear c7
    try clear c7b0
    try clear c8
    try clear c11
    try clear c14
    try clear hcz10_0
    try clear hcz10_1
    try clear hcz10_2
    try clear hcz10_3
    try clear hcz10_4
    try clear hcz10_5
    try clear hcz12_0
    try clear hcz12_1
    try clear hcz12_2
    try clear hcz12_3
    try clear hcz12_4
    try clear hcz12_5
    try clear hcz13_0
    try clear hcz13_1
    try clear hcz13_2
    try clear hcz13_3
    try clear hcz13_4
    try clear hcz13_5
    try clear hcz15_0
    try clear hcz15_1
    try clear hcz15_2
    try clear hcz15_3
    try clear hcz15_4
    try clear hcz15_5
    try clear hcz16_0
    try clear hcz16_1
    try clear hcz16_2
    try clear hcz16_3
    try clear hcz16_4
    try clear hcz16_5
    try clear hcz9_0
    try clear hcz9_1
    try clear hcz9_2
    try clear hcz9_3
    try clear hcz9_4
    try clear hcz9_5
    try clear hfz10_0
    try clear hfz10_1
    try clear hfz10_2
    try clear hfz10_3
    try clear hfz10_4
    try clear hfz10_5
    try clear hfz12_0
    try clear hfz12_1
    try clear hfz12_2
    try clear hfz12_3
    try clear hfz12_4
    try clear hfz12_5
    try clear hfz13_0
    try clear hfz13_1
    try clear hfz13_2
    try clear hfz13_3
    try clear hfz13_4
    try clear hfz13_5
    try clear hfz15_0
    try clear hfz15_1
    try clear hfz15_2
    try clear hfz15_3
    try clear hfz15_4
    try clear hfz15_5
    try clear hfz16_0
    try clear hfz16_1
    try clear hfz16_2
    try clear hfz16_3
    try clear hfz16_4
    try clear hfz16_5
    try clear hfz9_0
    try clear hfz9_1
    try clear hfz9_2
    try clear hfz9_3
    try clear hfz9_4
    try clear hfz9_5
    obtain ⟨kq, x19_2, rfl, HA, HJ2, BK131, BK132, HB⟩ := hcut
    cases kq with
    | zero => exact absurd HA.out (by simp [jobberref12_Ahead.j0])
    | succ kj2 =>
      have H := HA.out
      clear HA
      simp only [jobberref12_Ahead.j0] at H
      by_cases c17 : x19_2 = true
      · subst c17
        have H1 : (some false) = some r := by rw [if_pos rfl] at H; exact H
        clear H
        have H := H1
        clear H1
        obtain rfl := Option.some.inj H
        go_wp2
        go_ret
        exact ⟨by first | rfl | (simp [errW_none, errW_some] <;> rfl) | (simp [*, errW_none, errW_some] <;> rfl), by repeat (first | (with_reducible first | exact HB.out | apply below_alloc | apply pw_below_drewN | apply below_drew1 | refine below_set ?_ GE131.out | refine below_set ?_ GE132.out) | exact HB.out)⟩
      · replace c17 := Bool.eq_false_iff.mpr c17
        subst c17
        have H1 : (if a0_3 = a1_3 then (if a0_5 = a1_5 then (some (decide (a0_0 < a1_0))) else (some (decide (a0_5 < a1_5)))) else ((jobberref12_Better.f a0_2 a0_3 a1_3).bind fun t133 => (some t133))) = some r := by rw [if_neg (show ¬ (false = true) by decide)] at H; exact H
        clear H
        have H := H1
        clear H1
        by_cases c18 : a0_3 = a1_3
        · rw [if_pos c18] at H
          have c18b0 : (a0_3 == a1_3) = true := beq_iff_eq.mpr c18
          have c18b1 : (a0_3 != a1_3) = false := bne_eq_false_iff_eq.mpr c18
          clear c18
          by_cases c19 : a0_5 = a1_5
          · rw [if_pos c19] at H
            have c19b0 : (a0_5 == a1_5) = true := beq_iff_eq.mpr c19
            have c19b1 : (a0_5 != a1_5) = false := bne_eq_false_iff_eq.mpr c19
            clear c19
            obtain rfl := Option.some.inj H
            have hnb20 := NB131_132.out
            have hnc20 := NB132_131.out
            have hcz21_0 : wc.cell? ⟨gb131, 0, none⟩ = some (.int .u64 a0_0) := (blk_cell BK131.out 0).trans rfl
            have hcz21_1 : wc.cell? ⟨gb131, 1, none⟩ = some (.int .i64 a0_1) := (blk_cell BK131.out 1).trans rfl
            have hcz21_2 : wc.cell? ⟨gb131, 2, none⟩ = some (.int .i64 a0_2) := (blk_cell BK131.out 2).trans rfl
            have hcz21_3 : wc.cell? ⟨gb131, 3, none⟩ = some (.int .i64 a0_3) := (blk_cell BK131.out 3).trans rfl
            have hcz21_4 : wc.cell? ⟨gb131, 4, none⟩ = some (.int .i64 a0_4) := (blk_cell BK131.out 4).trans rfl
            have hcz21_5 : wc.cell? ⟨gb131, 5, none⟩ = some (.int .u64 a0_5) := (blk_cell BK131.out 5).trans rfl
            have hfz21_0 := blk_frozen BK131.out 0
            have hfz21_1 := blk_frozen BK131.out 1
            have hfz21_2 := blk_frozen BK131.out 2
            have hfz21_3 := blk_frozen BK131.out 3
            have hfz21_4 := blk_frozen BK131.out 4
            have hfz21_5 := blk_frozen BK131.out 5
            have hcz22_0 : wc.cell? ⟨gb132, 0, none⟩ = some (.int .u64 a1_0) := (blk_cell BK132.out 0).trans rfl
            have hcz22_1 : wc.cell? ⟨gb132, 1, none⟩ = some (.int .i64 a1_1) := (blk_cell BK132.out 1).trans rfl
            have hcz22_2 : wc.cell? ⟨gb132, 2, none⟩ = some (.int .i64 a1_2) := (blk_cell BK132.out 2).trans rfl
            have hcz22_3 : wc.cell? ⟨gb132, 3, none⟩ = some (.int .i64 a1_3) := (blk_cell BK132.out 3).trans rfl
            have hcz22_4 : wc.cell? ⟨gb132, 4, none⟩ = some (.int .i64 a1_4) := (blk_cell BK132.out 4).trans rfl
            have hcz22_5 : wc.cell? ⟨gb132, 5, none⟩ = some (.int .u64 a1_5) := (blk_cell BK132.out 5).trans rfl
            have hfz22_0 := blk_frozen BK132.out 0
            have hfz22_1 := blk_frozen BK132.out 1
            have hfz22_2 := blk_frozen BK132.out 2
            have hfz22_3 := blk_frozen BK132.out 3
            have hfz22_4 := blk_frozen BK132.out 4
            have hfz22_5 := blk_frozen BK132.out 5
            go_wp2
            go_ret
            exact ⟨by first | rfl | (simp [errW_none, errW_some] <;> rfl) | (simp [*, errW_none, errW_some] <;> rfl), by repeat (first | (with_reducible first | exact HB.out | apply below_alloc | apply pw_below_drewN | apply below_drew1 | refine below_set ?_ GE131.out | refine below_set ?_ GE132.out) | exact HB.out)⟩
          · rw [if_neg c19] at H
            have c19b0 : (a0_5 == a1_5) = false := beq_eq_false_iff_ne.mpr c19
            have c19b1 : (a0_5 != a1_5) = true := bne_iff_ne.mpr c19
            obtain rfl := Option.some.inj H
            have hnb23 := NB131_132.out
            have hnc23 := NB132_131.out
            have hcz24_0 : wc.cell? ⟨gb131, 0, none⟩ = some (.int .u64 a0_0) := (blk_cell BK131.out 0).trans rfl
            have hcz24_1 : wc.cell? ⟨gb131, 1, none⟩ = some (.int .i64 a0_1) := (blk_cell BK131.out 1).trans rfl
            have hcz24_2 : wc.cell? ⟨gb131, 2, none⟩ = some (.int .i64 a0_2) := (blk_cell BK131.out 2).trans rfl
            have hcz24_3 : wc.cell? ⟨gb131, 3, none⟩ = some (.int .i64 a0_3) := (blk_cell BK131.out 3).trans rfl
            have hcz24_4 : wc.cell? ⟨gb131, 4, none⟩ = some (.int .i64 a0_4) := (blk_cell BK131.out 4).trans rfl
            have hcz24_5 : wc.cell? ⟨gb131, 5, none⟩ = some (.int .u64 a0_5) := (blk_cell BK131.out 5).trans rfl
            have hfz24_0 := blk_frozen BK131.out 0
            have hfz24_1 := blk_frozen BK131.out 1
            have hfz24_2 := blk_frozen BK131.out 2
            have hfz24_3 := blk_frozen BK131.out 3
            have hfz24_4 := blk_frozen BK131.out 4
            have hfz24_5 := blk_frozen BK131.out 5
            have hcz25_0 : wc.cell? ⟨gb132, 0, none⟩ = some (.int .u64 a1_0) := (blk_cell BK132.out 0).trans rfl
            have hcz25_1 : wc.cell? ⟨gb132, 1, none⟩ = some (.int .i64 a1_1) := (blk_cell BK132.out 1).trans rfl
            have hcz25_2 : wc.cell? ⟨gb132, 2, none⟩ = some (.int .i64 a1_2) := (blk_cell BK132.out 2).trans rfl
            have hcz25_3 : wc.cell? ⟨gb132, 3, none⟩ = some (.int .i64 a1_3) := (blk_cell BK132.out 3).trans rfl
            have hcz25_4 : wc.cell? ⟨gb132, 4, none⟩ = some (.int .i64 a1_4) := (blk_cell BK132.out 4).trans rfl
            have hcz25_5 : wc.cell? ⟨gb132, 5, none⟩ = some (.int .u64 a1_5) := (blk_cell BK132.out 5).trans rfl
            have hfz25_0 := blk_frozen BK132.out 0
            have hfz25_1 := blk_frozen BK132.out 1
            have hfz25_2 := blk_frozen BK132.out 2
            have hfz25_3 := blk_frozen BK132.out 3
            have hfz25_4 := blk_frozen BK132.out 4
            have hfz25_5 := blk_frozen BK132.out 5
            go_wp2
            go_ret
            exact ⟨by first | rfl | (simp [errW_none, errW_some] <;> rfl) | (simp [*, errW_none, errW_some] <;> rfl), by repeat (first | (with_reducible first | exact HB.out | apply below_alloc | apply pw_below_drewN | apply below_drew1 | refine below_set ?_ GE131.out | refine below_set ?_ GE132.out) | exact HB.out)⟩
        · rw [if_neg c18] at H
          have c18b0 : (a0_3 == a1_3) = false := beq_eq_false_iff_ne.mpr c18
          have c18b1 : (a0_3 != a1_3) = true := bne_iff_ne.mpr c18
          replace H := Option.bind_eq_some_iff.mp H
          obtain ⟨t133, A260, H⟩ := H
          replace H : (some t133) = some r := H
          have A26 := Aside0.mk A260
          clear A260
          obtain rfl := Option.some.inj H
          have hnb27 := NB131_132.out
          have hnc27 := NB132_131.out
          have hcz28_0 : wc.cell? ⟨gb131, 0, none⟩ = some (.int .u64 a0_0) := (blk_cell BK131.out 0).trans rfl
          have hcz28_1 : wc.cell? ⟨gb131, 1, none⟩ = some (.int .i64 a0_1) := (blk_cell BK131.out 1).trans rfl
          have hcz28_2 : wc.cell? ⟨gb131, 2, none⟩ = some (.int .i64 a0_2) := (blk_cell BK131.out 2).trans rfl
          have hcz28_3 : wc.cell? ⟨gb131, 3, none⟩ = some (.int .i64 a0_3) := (blk_cell BK131.out 3).trans rfl
          have hcz28_4 : wc.cell? ⟨gb131, 4, none⟩ = some (.int .i64 a0_4) := (blk_cell BK131.out 4).trans rfl
          have hcz28_5 : wc.cell? ⟨gb131, 5, none⟩ = some (.int .u64 a0_5) := (blk_cell BK131.out 5).trans rfl
          have hfz28_0 := blk_frozen BK131.out 0
          have hfz28_1 := blk_frozen BK131.out 1
          have hfz28_2 := blk_frozen BK131.out 2
          have hfz28_3 := blk_frozen BK131.out 3
          have hfz28_4 := blk_frozen BK131.out 4
          have hfz28_5 := blk_frozen BK131.out 5
          have hcz29_0 : wc.cell? ⟨gb132, 0, none⟩ = some (.int .u64 a1_0) := (blk_cell BK132.out 0).trans rfl
          have hcz29_1 : wc.cell? ⟨gb132, 1, none⟩ = some (.int .i64 a1_1) := (blk_cell BK132.out 1).trans rfl
          have hcz29_2 : wc.cell? ⟨gb132, 2, none⟩ = some (.int .i64 a1_2) := (blk_cell BK132.out 2).trans rfl
          have hcz29_3 : wc.cell? ⟨gb132, 3, none⟩ = some (.int .i64 a1_3) := (blk_cell BK132.out 3).trans rfl
          have hcz29_4 : wc.cell? ⟨gb132, 4, none⟩ = some (.int .i64 a1_4) := (blk_cell BK132.out 4).trans rfl
          have hcz29_5 : wc.cell? ⟨gb132, 5, none⟩ = some (.int .u64 a1_5) := (blk_cell BK132.out 5).trans rfl
          have hfz29_0 := blk_frozen BK132.out 0
          have hfz29_1 := blk_frozen BK132.out 1
          have hfz29_2 := blk_frozen BK132.out 2
          have hfz29_3 := blk_frozen BK132.out 3
          have hfz29_4 := blk_frozen BK132.out 4
          have hfz29_5 := blk_frozen BK132.out 5
          go_wp2_with (first | ((with_reducible refine gate_callee (f := 24) rfl ?_); refine goesL_ (some 31) rfl rfl Try.func24 (by kernel_rfl) rfl #[.int .i64 a0_2, .int .i64 a0_3, .int .i64 a1_3] rfl (by (try simp only [List.map_toArray, List.map_cons, List.map_nil]); first | done | rfl | (simp only [List.length_drop, List.length_take]; rfl)) ?_; (with_reducible refine (jobberref12_Better.calls a0_2 a0_3 a1_3 t133 _ A26.out).mono ?_); rintro e w' ⟨rfl, ⟨nd, rfl⟩⟩; refine ⟨_, rfl, ?_⟩))
          go_ret
          exact ⟨by first | rfl | (simp [errW_none, errW_some] <;> rfl) | (simp [*, errW_none, errW_some] <;> rfl), by repeat (first | (with_reducible first | exact HB.out | apply below_alloc | apply pw_below_drewN | apply below_drew1 | refine below_set ?_ GE131.out | refine below_set ?_ GE132.out) | exact HB.out)⟩
end Go.Proofs.Ytlihfiajbhpokaa.Ldo
