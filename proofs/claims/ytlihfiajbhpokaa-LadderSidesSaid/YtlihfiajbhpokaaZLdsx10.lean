/- Printed by this session's wip/drive.py over the translation; some functions by hand. -/
import Derived.Test.YtlihfiajbhpokaaZLdsx0
import Derived.Test.YtlihfiajbhpokaaZLdsx2
import Derived.Test.YtlihfiajbhpokaaZLdsx3
import Derived.Test.YtlihfiajbhpokaaZLdsx5
import Derived.Test.YtlihfiajbhpokaaZLdsx7
import Derived.Test.YtlihfiajbhpokaaZLdsx9
namespace Go.Proofs.Ytlihfiajbhpokaa.Lds
open Go.RowKit Go.Proofs.YtlihfiajbhpokaaW.PrintWords Go.Proofs.YtlihfiajbhpokaaW.PrintLast Go.Proofs.YtlihfiajbhpokaaW.PrintMore
attribute [local go_sem] max2_int min2_int max_two min_two max_three min_three max_four min_four
set_option linter.unusedVariables false
set_option linter.unusedSimpArgs false
def cntR : List RowM → Nat
  | [] => 0
  | r :: l => r.2.length + cntR l
theorem cntR_app : ∀ a b : List RowM, cntR (a ++ b) = cntR a + cntR b
  | [], b => by rw [List.nil_append, cntR, Nat.zero_add]
  | r :: a, b => by rw [List.cons_append, cntR, cntR, cntR_app a b, Nat.add_assoc]
theorem cntR_len : ∀ {l : List RowM}, (∀ r ∈ l, r.2 ≠ []) → l.length ≤ cntR l
  | [], _ => Nat.le_refl _
  | r :: l, h => by
    have ih := cntR_len fun r hr => h r (List.mem_cons_of_mem _ hr)
    have h0 := List.length_pos_iff.2 (h r (List.mem_cons_self ..))
    rw [cntR, List.length_cons]; omega
theorem cntR_mem : ∀ {l : List RowM} {r : RowM}, r ∈ l → r.2.length ≤ cntR l
  | x :: l, r, h => by
    rw [cntR]
    rcases List.mem_cons.1 h with rfl | h
    · omega
    · have := cntR_mem h; omega
theorem split_i {α : Type} {l : List α} {i : Nat} {r : α} (h : l[i]? = some r) : l = l.take i ++ r :: l.drop (i + 1) := by
  obtain ⟨hl, he⟩ := List.getElem?_eq_some_iff.1 h
  conv => lhs; rw [← List.take_append_drop i l, List.drop_eq_getElem_cons hl, he]
theorem set_i {α : Type} {l : List α} {i : Nat} {r r' : α} (h : l[i]? = some r) : l.set i r' = l.take i ++ r' :: l.drop (i + 1) := by
  obtain ⟨hl, he⟩ := List.getElem?_eq_some_iff.1 h
  rw [List.set_eq_take_append_cons_drop, if_pos hl]
theorem cntR_set {l : List RowM} {i : Nat} {r r' : RowM} (h : l[i]? = some r) : cntR (l.set i r') + r.2.length = cntR l + r'.2.length := by
  rw [set_i h]
  conv => rhs; rw [split_i h]
  rw [cntR_app, cntR_app, cntR, cntR]; omega
structure InvB (rs : Nat → List RowM) (m : Nat) : Prop where
  out : ∀ s, s ≠ 1 → s ≠ 2 → rs s = []
  cnt : cntR (rs 1) + cntR (rs 2) = m
  m64 : m ≤ 64
  full : ∀ s, ∀ r ∈ rs s, r.2 ≠ []
  side : ∀ s, ∀ r ∈ rs s, ∀ x ∈ r.2, x.f2 = (s : Int)
theorem InvB.le {rs : Nat → List RowM} {m : Nat} (h : InvB rs m) (s : Nat) : cntR (rs s) ≤ m := by
  have := h.cnt
  by_cases c1 : s = 1
  · subst c1; omega
  · by_cases c2 : s = 2
    · subst c2; omega
    · rw [h.out s c1 c2, cntR]; omega
theorem InvB.fullB {rs : Nat → List RowM} {m : Nat} (h : InvB rs m) : Full rs := fun s j p q e => h.full s (p, q) (List.mem_of_getElem? e)
theorem InvB.few {rs : Nat → List RowM} {m : Nat} (h : InvB rs m) : Few rs m := by
  have hm := h.m64
  refine ⟨fun s => ?_, fun s j p q e => ?_, by omega, fun s j p q e hq => ?_⟩
  · have := cntR_len (h.full s); have := h.le s; omega
  · have h1 : q.length ≤ _ := cntR_mem (List.mem_of_getElem? e)
    have := h.le s; omega
  · have h1 : q.length ≤ _ := cntR_mem (List.mem_of_getElem? e)
    have := h.le s
    have h0 := List.length_pos_iff.2 hq
    omega
theorem InvB.nil : InvB (fun _ => []) 0 := ⟨fun _ _ _ => rfl, rfl, by omega, fun _ r h => (nomatch h), fun _ r h => (nomatch h)⟩
theorem updS_cnt {rs : Nat → List RowM} {s : Nat} {x : List RowM} (hs : s = 1 ∨ s = 2) : cntR (updS rs s x 1) + cntR (updS rs s x 2) + cntR (rs s) = cntR (rs 1) + cntR (rs 2) + cntR x := by
  unfold updS
  rcases hs with rfl | rfl
  · simp; omega
  · simp; omega
theorem InvB.upd {rs : Nat → List RowM} {m m' s : Nat} {x : List RowM} (h : InvB rs m) (hs : s = 1 ∨ s = 2) (hc : cntR x + m = cntR (rs s) + m') (hm : m' ≤ 64) (hf : ∀ r ∈ x, r.2 ≠ []) (hx : ∀ r ∈ x, ∀ y ∈ r.2, y.f2 = (s : Int)) : InvB (updS rs s x) m' := by
  have hcc := updS_cnt (rs := rs) (x := x) hs
  have := h.cnt
  refine ⟨fun t h1 h2 => ?_, by omega, hm, fun t r hr => ?_, fun t r hr => ?_⟩
  · unfold updS; rw [if_neg (by rcases hs with rfl | rfl <;> assumption)]; exact h.out t h1 h2
  · unfold updS at hr
    split at hr
    · exact hf r hr
    · exact h.full t r hr
  · unfold updS at hr
    split at hr
    · rename_i e; subst e; exact hx r hr
    · exact h.side t r hr
theorem insQ_mem {o x : SOr} {q : List SOr} (h : x ∈ insQ o q) : x = o ∨ x ∈ q := by
  unfold insQ at h
  rcases List.mem_append.1 h with h | h
  · exact .inr (List.mem_of_mem_take h)
  · rcases List.mem_cons.1 h with h | h
    · exact .inl h
    · exact .inr (List.mem_of_mem_drop h)
theorem InvB.add {rs : Nat → List RowM} {m : Nat} (h : InvB rs m) (o : SOr) : InvB (addM rs m o) (addN rs m o) := by
  unfold addM addN
  by_cases c : addE rs m o = 0
  · rw [if_pos c, if_pos c]
    unfold addE at c
    split at c
    · simp at c
    · rename_i hg
      split at c
      · simp at c
      · split at c
        · simp at c
        · rename_i hm
          have hg' : goodB o = true := by simpa using hg
          have hsd := goodB_side hg'
          obtain ⟨s, hs⟩ : ∃ s, o.f2.toNat = s := ⟨_, rfl⟩
          have hs2 : o.f2 = (s : Int) := by omega
          have hs3 : s = 1 ∨ s = 2 := by omega
          rw [hs]
          obtain ⟨i, hi⟩ : ∃ i, addI (rs s) o = i := ⟨_, rfl⟩
          have new : ∀ x, x = (rs s).take i ++ (o.f3, [o]) :: (rs s).drop i → InvB (updS rs s x) (m + 1) := by
            rintro x rfl
            have e : cntR ((rs s).take i) + cntR ((rs s).drop i) = cntR (rs s) := by rw [← cntR_app, List.take_append_drop]
            refine h.upd hs3 ?_ (by omega) (fun r hr => ?_) (fun r hr y hy => ?_)
            · rw [cntR_app, cntR]; simp; omega
            · rcases List.mem_append.1 hr with hr | hr
              · exact h.full s r (List.mem_of_mem_take hr)
              · rcases List.mem_cons.1 hr with rfl | hr
                · simp
                · exact h.full s r (List.mem_of_mem_drop hr)
            · rcases List.mem_append.1 hr with hr | hr
              · exact h.side s r (List.mem_of_mem_take hr) y hy
              · rcases List.mem_cons.1 hr with rfl | hr
                · rw [List.mem_singleton.1 hy]; exact hs2
                · exact h.side s r (List.mem_of_mem_drop hr) y hy
          unfold addR
          rw [hi]
          split
          · rename_i r hr
            split
            · rename_i hp
              have hcc := cntR_set (r' := (r.1, insQ o r.2)) hr
              have hil := insQ_len o r.2
              refine h.upd hs3 (by simp only [hil] at hcc; omega) (by omega) (fun z hz => ?_) (fun z hz y hy => ?_)
              · rcases List.mem_or_eq_of_mem_set hz with hz | rfl
                · exact h.full s z hz
                · intro q; have : (insQ o r.2).length = 0 := by rw [show insQ o r.2 = [] from q]; rfl
                  omega
              · rcases List.mem_or_eq_of_mem_set hz with hz | rfl
                · exact h.side s z hz y hy
                · rcases insQ_mem hy with rfl | hy
                  · exact hs2
                  · exact h.side s r (List.mem_of_getElem? hr) y hy
            · exact new _ rfl
          · exact new _ rfl
  · rw [if_neg c, if_neg c]; exact h
theorem getM_some {rs : Nat → List RowM} {id : Int} {x : SOr} (h : getM rs id = some x) : ∃ s i k p q, fndM rs id = some (s, i, k) ∧ (s = 1 ∨ s = 2) ∧ (rs s)[i]? = some (p, q) ∧ q[k]? = some x := by
  unfold getM at h
  obtain ⟨⟨s, i, k⟩, h1, h2⟩ := Option.bind_eq_some_iff.1 h
  obtain ⟨⟨p, q⟩, h3, h4⟩ := Option.bind_eq_some_iff.1 h2
  exact ⟨s, i, k, p, q, h1, (fndM_at h1).1, h3, h4⟩
theorem InvB.side_get {rs : Nat → List RowM} {m : Nat} (h : InvB rs m) {id : Int} {x : SOr} (hx : getM rs id = some x) {s i k : Nat} (hf : fndM rs id = some (s, i, k)) : x.f2 = (s : Int) := by
  obtain ⟨s', i', k', p, q, h1, _, h2, h3⟩ := getM_some hx
  rw [hf] at h1; cases h1
  exact h.side s _ (List.mem_of_getElem? h2) x (List.mem_of_getElem? h3)
theorem InvB.cut {rs : Nat → List RowM} {m : Nat} (h : InvB rs m) (id qty : Int) : InvB (cutM rs id qty) (cutN rs id qty m) := by
  unfold cutM cutN
  cases hx : getM rs id with
  | none => exact h
  | some x =>
    obtain ⟨s, i, k, p, q, h1, hs, h2, h3⟩ := getM_some hx
    have hq := cntR_mem (List.mem_of_getElem? h2)
    have hl := h.le s
    have hmm := h.m64
    have hk := (List.getElem?_eq_some_iff.1 h3).1
    simp only
    split
    · exact h
    · split
      · unfold takeM takeN takeR
        rw [h1]
        simp only [h2]
        split
        · rename_i e1
          have e : cntR ((rs s).eraseIdx i) + 1 = cntR (rs s) := by
            rw [List.eraseIdx_eq_take_drop_succ]
            conv => rhs; rw [split_i h2]
            rw [cntR_app, cntR_app, cntR]; simp only [e1]; omega
          exact h.upd hs (by simp at hq; omega) (by omega) (fun r hr => h.full s r (List.mem_of_mem_eraseIdx hr)) (fun r hr => h.side s r (List.mem_of_mem_eraseIdx hr))
        · rename_i e1
          have hcc := cntR_set (r' := (p, q.eraseIdx k)) h2
          have hle := List.length_eraseIdx_of_lt hk
          simp only [hle] at hcc
          refine h.upd hs (by simp at hq; omega) (by omega) (fun z hz => ?_) (fun z hz y hy => ?_)
          · rcases List.mem_or_eq_of_mem_set hz with hz | rfl
            · exact h.full s z hz
            · intro w; have : (q.eraseIdx k).length = 0 := by rw [show q.eraseIdx k = [] from w]; rfl
              omega
          · rcases List.mem_or_eq_of_mem_set hz with hz | rfl
            · exact h.side s z hz y hy
            · exact h.side s _ (List.mem_of_getElem? h2) y (List.mem_of_mem_eraseIdx hy)
      · unfold lessR
        rw [h1]
        simp only [h2, h3]
        have hcc := cntR_set (r' := (p, q.set k (cutO x qty))) h2
        simp only [List.length_set] at hcc
        refine h.upd hs (by omega) (by omega) (fun z hz => ?_) (fun z hz y hy => ?_)
        · rcases List.mem_or_eq_of_mem_set hz with hz | rfl
          · exact h.full s z hz
          · intro w; have : (q.set k (cutO x qty)).length = 0 := by rw [show q.set k (cutO x qty) = [] from w]; rfl
            rw [List.length_set] at this; omega
        · rcases List.mem_or_eq_of_mem_set hz with hz | rfl
          · exact h.side s z hz y hy
          · rcases List.mem_or_eq_of_mem_set hy with hy | rfl
            · exact h.side s _ (List.mem_of_getElem? h2) y hy
            · exact h.side s _ (List.mem_of_getElem? h2) x (List.mem_of_getElem? h3)
theorem add_other {rs : Nat → List RowM} {m : Nat} {o : SOr} {t : Nat} (h : o.f2 ≠ (t : Int)) : addM rs m o t = rs t := by
  unfold addM
  split
  · rename_i c
    unfold addE at c
    split at c
    · simp at c
    · rename_i hg
      have := goodB_side (show goodB o = true by simpa using hg)
      unfold updS
      rw [if_neg (by omega)]
  · rfl
theorem cut_other {rs : Nat → List RowM} {m : Nat} (h : InvB rs m) {id qty : Int} {x : SOr} (hx : getM rs id = some x) {t : Nat} (ht : x.f2 ≠ (t : Int)) : cutM rs id qty t = rs t := by
  obtain ⟨s, i, k, p, q, h1, hs, h2, h3⟩ := getM_some hx
  have hsx := h.side_get hx h1
  have hne : ¬ t = s := fun e => ht (by rw [e]; exact hsx)
  unfold cutM takeM
  rw [hx, h1]
  simp only
  split
  · rfl
  · split
    · unfold updS; rw [if_neg hne]
    · unfold updS; rw [if_neg hne]
def livO : Nat → SOr
  | 0 => ⟨0, 0, 2, 7, 1, 0⟩
  | 1 => ⟨1, 0, 2, 5, 1, 1⟩
  | _ => ⟨2, 0, 2, 6, 1, 2⟩
def livS : Nat → (Nat → List RowM) × Nat
  | 0 => (fun _ => [], 0)
  | k + 1 => (addM (livS k).1 (livS k).2 (livO k), addN (livS k).1 (livS k).2 (livO k))
theorem livInv : ∀ k, InvB (livS k).1 (livS k).2
  | 0 => InvB.nil
  | k + 1 => (livInv k).add (livO k)
theorem liv_end : ((livS 3).1 2).map Prod.fst = [5, 6, 7] ∧ ((bestM ((livS 3).1 2)).getD zO).f3 = 5 ∧ (bestM ((livS 3).1 2)).isSome = true ∧ (livS 3).2 = 3 := by decide +kernel
theorem InvB.rsS {rs : Nat → List RowM} {m : Nat} (h : InvB rs m) : rsB (rs 1) (rs 2) = rs := by
  funext s
  unfold rsB
  split
  · rename_i e; rw [e]
  · split
    · rename_i e; rw [e]
    · rename_i e1 e2; exact (h.out s e1 e2).symm
theorem St.bookBk {W w : World} {F0 : Nat → Prop} {l : List Part} {g m : Nat} {rs : Nat → List RowM} (h : St W F0 w (BookP g (rs 1) (rs 2) m :: l)) (i : InvB rs m) : ∃ A c, BkF g rs m A c w := by
  obtain ⟨A, c, hb⟩ := h.bookRead
  rw [i.rsS] at hb
  exact ⟨A, c, hb⟩
set_option maxHeartbeats 8000000 in
set_option maxRecDepth 100000 in
theorem ladder_lives (w : World) : Calls Try.prog 34 #[] w fun e w' => e = .returned (.bool true) ∧ Below w.heap.size w w' := by
  have hu := Try.underlying33
  have S0 := St.start w (fun _ => False)
  go_enter Try.func34, Try.ntmps34
  go_wp2_with (first | (go_at_call 35; refine (ladder_new _).mono ?_; rintro e w1 ⟨g, rfl, hn⟩; have S1 := S0.join0 hn; clear S0 hn))
  have S2 := S1.alloc (cs := #[.int .i64 7, .int .i64 5, .int .i64 6]) (t := 2)
  generalize World.alloc w1 _ = w2 at S2 ⊢
  obtain ⟨gl, hgl⟩ : ∃ gl, w1.heap.size = gl := ⟨_, rfl⟩
  rw [hgl] at S2 ⊢
  clear S1 hgl
  go_loopg [10] 3 (fun kq v10 wr => ∃ i : Nat, v10 = .int .i64 (i : Int) ∧ Aside0 (i + kq = 3) ∧ Aside0 (St w (fun _ => False) wr [BookP g ((livS i).1 1) ((livS i).1 2) (livS i).2, Pt gl #[.int .i64 7, .int .i64 5, .int .i64 6] 2]))
  case atStart => exact ⟨0, rfl, ⟨by omega⟩, ⟨S2.perm2⟩⟩
  case round =>
    clear S2
    obtain ⟨i, rfl, HI, HS⟩ := hrel
    have S := HS.out
    clear HS
    rcases (show i = 0 ∨ i = 1 ∨ i = 2 ∨ i = 3 by have := HI.out; omega) with rfl | rfl | rfl | rfl
    · have p0 : wr.cell? ⟨gl, 0, none⟩ = some (.int .i64 7) := (blk_cell (S.blk 1 rfl) 0).trans rfl
      go_wp2_with (go_at_call 36; obtain ⟨F, hA, _, hj⟩ := S.join; refine (book_add hA (livInv 0).few (livO 0)).mono ?_; rintro e w1 ⟨rfl, hs⟩; have S1 := hj w1 _ hs; clear hA hj hs S p0)
      go_roundg (gk - 1)
      case measure => have := HI.out; omega
      case rel => exact ⟨1, rfl, ⟨by have := HI.out; omega⟩, ⟨S1⟩⟩
    · have p0 : wr.cell? ⟨gl, 1, none⟩ = some (.int .i64 5) := (blk_cell (S.blk 1 rfl) 1).trans rfl
      go_wp2_with (go_at_call 36; obtain ⟨F, hA, _, hj⟩ := S.join; refine (book_add hA (livInv 1).few (livO 1)).mono ?_; rintro e w1 ⟨rfl, hs⟩; have S1 := hj w1 _ hs; clear hA hj hs S p0)
      go_roundg (gk - 1)
      case measure => have := HI.out; omega
      case rel => exact ⟨2, rfl, ⟨by have := HI.out; omega⟩, ⟨S1⟩⟩
    · have p0 : wr.cell? ⟨gl, 2, none⟩ = some (.int .i64 6) := (blk_cell (S.blk 1 rfl) 2).trans rfl
      go_wp2_with (go_at_call 36; obtain ⟨F, hA, _, hj⟩ := S.join; refine (book_add hA (livInv 2).few (livO 2)).mono ?_; rintro e w1 ⟨rfl, hs⟩; have S1 := hj w1 _ hs; clear hA hj hs S p0)
      go_roundg (gk - 1)
      case measure => have := HI.out; omega
      case rel => exact ⟨3, rfl, ⟨by have := HI.out; omega⟩, ⟨S1⟩⟩
    · obtain ⟨ps, hps⟩ : ∃ ps, ((livS 3).1 2).map Prod.fst = ps := ⟨_, rfl⟩
      obtain ⟨x, hx⟩ : ∃ x, (bestM ((livS 3).1 2)).getD zO = x := ⟨_, rfl⟩
      have hend := liv_end
      rw [hps, hx] at hend
      obtain ⟨h1, h2, h3, h4⟩ := hend
      have HE := Aside0.mk (And.intro h1 (And.intro h2 (And.intro h3 h4)))
      have HB : Aside0 (∀ w', Below wr.heap.size wr w' → Calls Try.prog 40 #[.pointer (some ⟨g, 0, none⟩), .int .i64 2] w' fun e w'' => e = .returned (.tuple #[.agg #[.int .u64 x.f0, .int .i64 x.f1, .int .i64 x.f2, .int .i64 x.f3, .int .i64 x.f4, .int .u64 x.f5], .bool true]) ∧ Below w'.heap.size w' w'') := ⟨fun w' hb => by
        obtain ⟨A, c, hbk⟩ := S.bookBk (livInv 3)
        have := (hbk.below hb).best (livInv 3).fullB 2 (.inr rfl)
        rw [hx, h3] at this
        exact this⟩
      have HP : Aside0 (∀ w', Below wr.heap.size wr w' → Calls Try.prog 39 #[.pointer (some ⟨g, 0, none⟩), .int .i64 2] w' fun e w'' => ∃ v, e = .returned v ∧ St w' (fun _ => False) w'' [OwP 2 1 v 3 [.int .i64 5, .int .i64 6, .int .i64 7]]) := ⟨fun w' hb => by
        obtain ⟨A, c, hbk⟩ := S.bookBk (livInv 3)
        have := (hbk.below hb).prices 2 (.inr rfl) ((livInv 3).few.r 2)
        rw [hps, show ((livS 3).1 2).length = 3 by have := congrArg List.length hps; rw [h1] at this; simpa using this, h1] at this
        exact this⟩
      have HL : Aside0 (∀ w', Below wr.heap.size wr w' → Calls Try.prog 68 #[.pointer (some ⟨g, 0, none⟩)] w' fun e w'' => e = .returned (.int .i64 3) ∧ Below w'.heap.size w' w'') := ⟨fun w' hb => by
        obtain ⟨A, c, hbk⟩ := S.bookBk (livInv 3)
        have := (hbk.below hb).len
        rw [h4] at this
        exact this⟩
      have hf3 : (x.f3 == 5) = true := by rw [h2]; rfl
      have HW : Aside0 (Below w.heap.size w wr) := ⟨S.below⟩
      have B0 := St.start wr (fun _ => False)
      clear hps hx h1 h2 h3 h4 S
      go_wp2_with (first
        | (go_at_call 40; refine (HB.out _ B0.below).mono ?_; rintro e w1 ⟨rfl, hb⟩; have B1 := B0.call hb; clear hb B0)
        | (go_at_call 39; have B2 := B1.alloc (cs := #[.int .u64 x.f0, .int .i64 x.f1, .int .i64 x.f2, .int .i64 x.f3, .int .i64 x.f4, .int .u64 x.f5]) (t := 33); refine (HP.out _ B2.below).mono ?_; rintro e w3 ⟨v, rfl, hs⟩; have B3 := B2.join0 hs; clear B1 B2 hs; obtain ⟨Fp, hp⟩ := B3.get 0 rfl; obtain ⟨gp, cp, rfl, hc⟩ := hp.some_ (by omega); have q0 := hc 0 _ rfl; have q1 := hc 1 _ rfl; have q2 := hc 2 _ rfl; have q3 := (blk_cell (B3.blk 1 rfl) 3).trans (show _ = some (.int .i64 x.f3) from rfl); clear hc hp)
        | (go_at_call 68; refine (HL.out _ B3.below).mono ?_; rintro e w4 ⟨rfl, hb⟩; have B4 := B3.call hb; clear hb B3))
      go_ret
      exact ⟨rfl, below_step HW.out B4.below⟩
theorem eqO33 (d : Nat) (w : World) (x0 x1 x2 x3 x4 x5 : Int) :
    (Op.equalIn (d + 2) 33 (.agg #[.int .u64 x0, .int .i64 x1, .int .i64 x2, .int .i64 x3, .int .i64 x4, .int .u64 x5]) (.agg #[.int .u64 x0, .int .i64 x1, .int .i64 x2, .int .i64 x3, .int .i64 x4, .int .u64 x5])).run Try.prog w = .ok true w := by
  have h : (Op.equalIn (d + 2) 33 (.agg #[.int .u64 x0, .int .i64 x1, .int .i64 x2, .int .i64 x3, .int .i64 x4, .int .u64 x5]) (.agg #[.int .u64 x0, .int .i64 x1, .int .i64 x2, .int .i64 x3, .int .i64 x4, .int .u64 x5])).run Try.prog w = .ok (x0 == x0 && (x1 == x1 && (x2 == x2 && (x3 == x3 && (x4 == x4 && (x5 == x5)))))) w := by
    refine eqA_of Try.underlying33 (by kernel_rfl) ?_
    refine eqf_cons (by rfl) (by go_simp; rfl) (by go_simp; rfl) (by go_simp) ?_
    refine eqf_cons (by rfl) (by go_simp; rfl) (by go_simp; rfl) (by go_simp) ?_
    refine eqf_cons (by rfl) (by go_simp; rfl) (by go_simp; rfl) (by go_simp) ?_
    refine eqf_cons (by rfl) (by go_simp; rfl) (by go_simp; rfl) (by go_simp) ?_
    refine eqf_cons (by rfl) (by go_simp; rfl) (by go_simp; rfl) (by go_simp) ?_
    exact eqf_last (by rfl) (by go_simp; rfl) (by go_simp; rfl) (by go_simp)
  rw [h]
  simp
theorem perm3b' {A B C : Part} {R : List Part} : (A :: B :: C :: R).Perm (B :: C :: A :: R) := (List.Perm.swap B A _).trans (List.Perm.cons B (List.Perm.swap C A R))
theorem own_C {w : World} {F : Nat → Prop} {A : Option Addr} {n c : Nat} {xs : List Int} (h : OwP 2 1 (.slice A n c) n (ics xs) w F) (hn : xs.length = n) : (Kd.int .i64).C w A xs.length xs ∧ xs.length ≤ c := by
  subst hn
  have hR : (Kd.int .i64).R 2 w 0 (fun _ => True) (.slice A xs.length c) xs := Kd.R_of_own h.2.1 (fun _ _ => trivial)
  exact ⟨(Kd.R_reads' hR).2.2, (Kd.R_reads' hR).2.1⟩
theorem get_is {a : Option SOr} {z : SOr} (h : a.getD zO = z ∧ a.isSome = true) : a = some z := by
  cases a with
  | none => exact absurd h.2 (by simp)
  | some x => rw [← h.1]; rfl
theorem prices_same (l : List Int) (hl : l.length ≤ 1000) : jobberlaw13_prices.f 2000 l l = some true := by
  rw [jobberlaw13_prices.f, if_pos rfl]
  have key : ∀ (n : Nat) (i : Int) (k : Nat), 0 ≤ i → i + n = l.length → n < k → jobberlaw13_prices.l0 k l l (l.length : Int) i = some true := by
    intro n
    induction n with
    | zero =>
      intro i k h0 h1 hk
      obtain ⟨k, rfl⟩ : ∃ k', k = k' + 1 := ⟨k - 1, by omega⟩
      rw [jobberlaw13_prices.l0, if_neg (by omega)]
    | succ n ih =>
      intro i k h0 h1 hk
      obtain ⟨k, rfl⟩ : ∃ k', k = k' + 1 := ⟨k - 1, by omega⟩
      have hw : wrap64 (i + 1) = i + 1 := by unfold wrap64; omega
      have := ih (i + 1) k (by omega) (by omega) (by omega)
      rw [jobberlaw13_prices.l0]
      simp only [show i < (l.length : Int) by omega, h0, if_true, hw, this]
  exact key l.length 0 2000 (by omega) (by omega) (by omega)
section
attribute [local go_sem high] eqO33
set_option maxHeartbeats 8000000 in
set_option maxRecDepth 100000 in
theorem sides_lives (w : World) (A0 A1 : Option Addr) (n0 c0 n1 c1 : Nat) (sd : Int) (h : 64 < n0 ∨ 60 < n1 ∨ (sd ≠ 1 ∧ sd ≠ 2)) : Calls Try.prog 9 #[.slice A0 n0 c0, .slice A1 n1 c1, .int .i64 sd] w fun e w' => e = .returned (.bool true) ∧ Below w.heap.size w w' := by
  by_cases h0 : 64 < n0
  · have d0 : decide ((64 : Int) < (n0 : Int)) = true := decide_eq_true (by omega)
    clear h h0
    go_enter Try.func9, Try.ntmps9
    go_wp2_with (go_at_call 34; refine (ladder_lives _).mono ?_; rintro e w1 ⟨rfl, hb⟩)
    go_ret
    exact ⟨rfl, hb⟩
  · have d0 : decide ((64 : Int) < (n0 : Int)) = false := decide_eq_false (by omega)
    by_cases h1 : 60 < n1
    · have d1 : decide ((60 : Int) < (n1 : Int)) = true := decide_eq_true (by omega)
      clear h h0 h1
      go_enter Try.func9, Try.ntmps9
      go_wp2_with (go_at_call 34; refine (ladder_lives _).mono ?_; rintro e w1 ⟨rfl, hb⟩)
      go_ret
      exact ⟨rfl, hb⟩
    · have d1 : decide ((60 : Int) < (n1 : Int)) = false := decide_eq_false (by omega)
      have hs : sd ≠ 1 ∧ sd ≠ 2 := by omega
      have d2 : (sd != 1) = true := by simp [hs.1]
      have d3 : (sd != 2) = true := by simp [hs.2]
      clear h h0 h1 hs
      go_enter Try.func9, Try.ntmps9
      go_wp2_with (go_at_call 34; refine (ladder_lives _).mono ?_; rintro e w1 ⟨rfl, hb⟩)
      go_ret
      exact ⟨rfl, hb⟩
set_option maxHeartbeats 16000000 in
set_option maxRecDepth 100000 in
theorem sides_main (w : World) (A0 A1 : Option Addr) (c0 c1 : Nat) (l0 : List S33) (l1 : List S75) (s : Nat) (hs : s = 1 ∨ s = 2) (hr0 : Kd.C k33 w A0 l0.length l0) (hr1 : Kd.C k75 w A1 l1.length l1) (h0 : l0.length ≤ 64) (h1 : l1.length ≤ 60) : Calls Try.prog 9 #[.slice A0 l0.length c0, .slice A1 l1.length c1, .int .i64 (s : Int)] w fun e w' => e = .returned (.bool true) ∧ Below w.heap.size w w' := by
  have hu := Try.underlying33
  have hu2 := Try.underlying75
  obtain ⟨n0, hn0⟩ : ∃ n, l0.length = n := ⟨_, rfl⟩
  obtain ⟨n1, hn1⟩ : ∃ n, l1.length = n := ⟨_, rfl⟩
  have H0 : Aside0 (∀ (i : Nat) (w' : World), Below w.heap.size w w' → i < n0 → ∃ ad, A0 = some ad ∧ w'.cell? (ad.add (i * 6)) = some (.int .u64 (rd_T33 l0 (i : Int)).f0) ∧ w'.cell? ⟨(ad.add (i * 6)).block, (ad.add (i * 6)).off + 1, none⟩ = some (.int .i64 (rd_T33 l0 (i : Int)).f1) ∧ w'.cell? ⟨(ad.add (i * 6)).block, (ad.add (i * 6)).off + 2, none⟩ = some (.int .i64 (rd_T33 l0 (i : Int)).f2) ∧ w'.cell? ⟨(ad.add (i * 6)).block, (ad.add (i * 6)).off + 3, none⟩ = some (.int .i64 (rd_T33 l0 (i : Int)).f3) ∧ w'.cell? ⟨(ad.add (i * 6)).block, (ad.add (i * 6)).off + 4, none⟩ = some (.int .i64 (rd_T33 l0 (i : Int)).f4) ∧ w'.cell? ⟨(ad.add (i * 6)).block, (ad.add (i * 6)).off + 5, none⟩ = some (.int .u64 (rd_T33 l0 (i : Int)).f5)) := ⟨fun i w' hb hi => by
    obtain ⟨ad, ha, x0, x1, x2, x3, x4, x5⟩ := at_T33 hr0 (i : Int) (by omega) (by omega)
    have kp : ∀ {p : Addr} {v : Value}, w.cell? p = some v → w'.cell? p = some v := fun h => cell_kept (fun k hk => hb.block k hk) h
    exact ⟨ad, ha, kp x0, kp x1, kp x2, kp x3, kp x4, kp x5⟩⟩
  have H1 : Aside0 (∀ (i : Nat) (w' : World), Below w.heap.size w w' → i < n1 → ∃ ad, A1 = some ad ∧ w'.cell? (ad.add (i * 9)) = some (.int .i64 (rd_T75 l1 (i : Int)).f0) ∧ w'.cell? ⟨(ad.add (i * 9)).block, (ad.add (i * 9)).off + 1, none⟩ = some (.int .u64 (rd_T75 l1 (i : Int)).f1.f0) ∧ w'.cell? ⟨(ad.add (i * 9)).block, (ad.add (i * 9)).off + 2, none⟩ = some (.int .i64 (rd_T75 l1 (i : Int)).f1.f1) ∧ w'.cell? ⟨(ad.add (i * 9)).block, (ad.add (i * 9)).off + 3, none⟩ = some (.int .i64 (rd_T75 l1 (i : Int)).f1.f2) ∧ w'.cell? ⟨(ad.add (i * 9)).block, (ad.add (i * 9)).off + 4, none⟩ = some (.int .i64 (rd_T75 l1 (i : Int)).f1.f3) ∧ w'.cell? ⟨(ad.add (i * 9)).block, (ad.add (i * 9)).off + 5, none⟩ = some (.int .i64 (rd_T75 l1 (i : Int)).f1.f4) ∧ w'.cell? ⟨(ad.add (i * 9)).block, (ad.add (i * 9)).off + 6, none⟩ = some (.int .u64 (rd_T75 l1 (i : Int)).f1.f5) ∧ w'.cell? ⟨(ad.add (i * 9)).block, (ad.add (i * 9)).off + 7, none⟩ = some (.int .u64 (rd_T75 l1 (i : Int)).f2) ∧ w'.cell? ⟨(ad.add (i * 9)).block, (ad.add (i * 9)).off + 8, none⟩ = some (.int .i64 (rd_T75 l1 (i : Int)).f3)) := ⟨fun i w' hb hi => by
    obtain ⟨ad, ha, x0, x1, x2, x3, x4, x5, x6, x7, x8⟩ := at_T75 hr1 (i : Int) (by omega) (by omega)
    have kp : ∀ {p : Addr} {v : Value}, w.cell? p = some v → w'.cell? p = some v := fun h => cell_kept (fun k hk => hb.block k hk) h
    exact ⟨ad, ha, kp x0, kp x1, kp x2, kp x3, kp x4, kp x5, kp x6, kp x7, kp x8⟩⟩
  rw [hn0, hn1]
  have HN := Aside0.mk (And.intro (hn0 ▸ h0 : n0 ≤ 64) (hn1 ▸ h1 : n1 ≤ 60))
  have d0 : decide ((64 : Int) < (n0 : Int)) = false := decide_eq_false (by omega)
  have d1 : decide ((60 : Int) < (n1 : Int)) = false := decide_eq_false (by omega)
  have d2 : ((s : Int) != 1) = false ∨ (((s : Int) != 1) = true ∧ ((s : Int) != 2) = false) := by rcases hs with rfl | rfl; exact .inl rfl; exact .inr ⟨rfl, rfl⟩
  have HSS := Aside0.mk hs
  clear hr0 hr1 h0 h1 hn0 hn1 hs
  have S0 := St.start w (fun _ => False)
  go_enter Try.func9, Try.ntmps9
  rcases d2 with d2 | ⟨d2, d3⟩
  all_goals
    go_wp2_with (go_at_call 35; refine (ladder_new _).mono ?_; rintro e w1 ⟨g, rfl, hn⟩; have S1 := S0.join0 hn; clear S0 hn)
    clear d0 d1 d2
    try clear d3
    go_loopg [39] n0 (fun kq v39 wr => ∃ i : Nat, v39 = .int .i64 (i : Int) ∧ Aside0 (i + kq = n0) ∧ ∃ (rs : Nat → List RowM) (m : Nat), Aside0 (InvB rs m) ∧ Aside0 (St w (fun _ => False) wr [BookP g (rs 1) (rs 2) m]))
    case atStart => exact ⟨0, rfl, ⟨by omega⟩, fun _ => [], 0, ⟨InvB.nil⟩, ⟨S1⟩⟩
    case round =>
      clear S1
      obtain ⟨i, rfl, HI, rs, m, HV, HS⟩ := hrel
      have S := HS.out
      clear HS
      by_cases hlt : i < n0
      · have hlt' : (i : Int) < (n0 : Int) := by omega
        have hd : decide ((i : Int) < (n0 : Int)) = true := decide_eq_true hlt'
        have hi0 : (0 : Int) ≤ (i : Int) := Int.natCast_nonneg i
        obtain ⟨ad, rfl, x0, x1, x2, x3, x4, x5⟩ := H0.out i wr S.below hlt
        obtain ⟨o, ho⟩ : ∃ o, rd_T33 l0 (i : Int) = o := ⟨_, rfl⟩
        rw [ho] at x0 x1 x2 x3 x4 x5
        have hwu : IntKind.u64.wrap (i : Int) = (i : Int) := by have := HN.out.1; show (i : Int) % 18446744073709551616 = (i : Int); omega
        have hwi : wrap64 ((i : Int) + 1) = ((i + 1 : Nat) : Int) := by have := HN.out.1; unfold wrap64; omega
        clear ho hlt
        go_wp2_with ((go_at_call 36; refine Calls.named ?_; intro w2 hw2; have S2 : St w (fun _ => False) w2 [Pt wr.heap.size #[.int .u64 (i : Int), .int .i64 o.f1, .int .i64 o.f2, .int .i64 o.f3, .int .i64 o.f4, .int .u64 o.f5] 33, BookP g (rs 1) (rs 2) m] := (by rw [hw2]; first | exact S.alloc | exact S.alloc.put 0 _ rfl); clear hw2 S x0 x1 x2 x3 x4 x5; obtain ⟨F, hA, _, hj⟩ := (S2.front 1 rfl).join; refine (book_add hA HV.out.few ⟨(i : Int), o.f1, o.f2, o.f3, o.f4, o.f5⟩).mono ?_; rintro e w3 ⟨rfl, hs⟩; have S3 := hj w3 _ hs; clear hA hj hs S2))
        go_roundg (gk - 1)
        case measure => have := HI.out; omega
        case rel => exact ⟨i + 1, by first | rfl | rw [hwi] | go_num, ⟨by have := HI.out; omega⟩, _, _, ⟨HV.out.add _⟩, ⟨S3.take 1⟩⟩
      · have hlt' : ¬ (i : Int) < (n0 : Int) := by omega
        have hd : decide ((i : Int) < (n0 : Int)) = false := decide_eq_false hlt'
        obtain ⟨ps, hps⟩ : ∃ ps, (rs s).map Prod.fst = ps := ⟨_, rfl⟩
        obtain ⟨xf, hxf⟩ : ∃ x, (bestM (rs s)).getD zO = x := ⟨_, rfl⟩
        obtain ⟨bf, hbf⟩ : ∃ b, (bestM (rs s)).isSome = b := ⟨_, rfl⟩
        obtain ⟨np, hnp⟩ : ∃ n, (rs s).length = n := ⟨_, rfl⟩
        have HX := Aside0.mk (And.intro hps (And.intro hxf (And.intro hbf hnp)))
        have HPR : Aside0 (∀ (rs' : Nat → List RowM) (m' : Nat) (W' : World) (A : Nat → Option Addr) (c : Nat → Nat), InvB rs' m' → rs' s = rs s → BkF g rs' m' A c W' → Calls Try.prog 39 #[.pointer (some ⟨g, 0, none⟩), .int .i64 (s : Int)] W' fun e w' => ∃ v, e = .returned v ∧ St W' (fun _ => False) w' [OwP 2 1 v np (ics ps)]) := ⟨fun rs' m' W' A c hi he hb => by
          have := hb.prices s HSS.out (hi.few.r s)
          rw [he, hnp, hps] at this
          exact this⟩
        have HBE : Aside0 (∀ (rs' : Nat → List RowM) (m' : Nat) (W' : World) (A : Nat → Option Addr) (c : Nat → Nat), InvB rs' m' → rs' s = rs s → BkF g rs' m' A c W' → Calls Try.prog 40 #[.pointer (some ⟨g, 0, none⟩), .int .i64 (s : Int)] W' fun e w' => e = .returned (.tuple #[.agg #[.int .u64 xf.f0, .int .i64 xf.f1, .int .i64 xf.f2, .int .i64 xf.f3, .int .i64 xf.f4, .int .u64 xf.f5], .bool bf]) ∧ Below W'.heap.size W' w') := ⟨fun rs' m' W' A c hi he hb => by
          have := hb.best hi.fullB s HSS.out
          rw [he, hxf, hbf] at this
          exact this⟩
        have HN2 : Aside0 (np ≤ 1000 ∧ ps.length = np) := ⟨by rw [← hnp]; exact HV.out.few.r s, by rw [← hps, List.length_map, hnp]⟩
        clear hps hxf hbf hnp
        go_wp2_with (first
          | (go_at_call 39; obtain ⟨A, c, hbk⟩ := S.bookBk HV.out; refine (HPR.out _ _ _ A c HV.out rfl hbk).mono ?_; rintro e w1 ⟨v, rfl, hs⟩; have S1 := S.join0 hs; clear hbk hs S A c; obtain ⟨Fv, hv⟩ := S1.get 0 rfl; obtain ⟨Ap, cp, hvs⟩ := hv.slice; subst hvs; clear hv)
          | (go_at_call 40; obtain ⟨A, c, hbk⟩ := (S1.front 1 rfl).bookBk HV.out; refine (HBE.out _ _ _ A c HV.out rfl hbk).mono ?_; rintro e w2 ⟨rfl, hb⟩; have S2 := S1.call hb; clear hbk hb S1 A c))
        have S3 := ((S2.front 1 rfl).alloc (cs := #[.int .u64 xf.f0, .int .i64 xf.f1, .int .i64 xf.f2, .int .i64 xf.f3, .int .i64 xf.f4, .int .u64 xf.f5]) (t := 33))
        generalize World.alloc w2 _ = w3 at S3 ⊢
        obtain ⟨gf, hgf⟩ : ∃ gf, w2.heap.size = gf := ⟨_, rfl⟩
        rw [hgf] at S3 ⊢
        have S4 : St w (fun _ => False) w3 [BookP g (rs 1) (rs 2) m, OwP 2 1 (.slice Ap np cp) np (ics ps), Pt gf #[.int .u64 xf.f0, .int .i64 xf.f1, .int .i64 xf.f2, .int .i64 xf.f3, .int .i64 xf.f4, .int .u64 xf.f5] 33] := S3.perm perm3b'
        clear S2 S3 hgf hd HI hlt hlt'
        go_loopg [62] n1 (fun kq v62 wr => ∃ i : Nat, v62 = .int .i64 (i : Int) ∧ Aside0 (i + kq = n1) ∧ ∃ (rs' : Nat → List RowM) (m' : Nat), Aside0 (InvB rs' m') ∧ Aside0 (rs' s = rs s) ∧ Aside0 (St w (fun _ => False) wr [BookP g (rs' 1) (rs' 2) m', OwP 2 1 (.slice Ap np cp) np (ics ps), Pt gf #[.int .u64 xf.f0, .int .i64 xf.f1, .int .i64 xf.f2, .int .i64 xf.f3, .int .i64 xf.f4, .int .u64 xf.f5] 33]))
        case atStart => exact ⟨0, rfl, ⟨by omega⟩, rs, m, HV, ⟨rfl⟩, ⟨S4⟩⟩
        case round =>
          clear S4 HV
          obtain ⟨i, rfl, HI, rs', m', HV, HR, HS⟩ := hrel
          have S := HS.out
          clear HS
          by_cases hlt : i < n1
          · have hlt' : (i : Int) < (n1 : Int) := by omega
            have hd : decide ((i : Int) < (n1 : Int)) = true := decide_eq_true hlt'
            have hi0 : (0 : Int) ≤ (i : Int) := Int.natCast_nonneg i
            obtain ⟨ad, rfl, x0, x1, x2, x3, x4, x5, x6, x7, x8⟩ := H1.out i wr S.below hlt
            obtain ⟨y, hy⟩ : ∃ y, rd_T75 l1 (i : Int) = y := ⟨_, rfl⟩
            rw [hy] at x0 x1 x2 x3 x4 x5 x6 x7 x8
            have hwi : wrap64 ((i : Int) + 1) = ((i + 1 : Nat) : Int) := by have := HN.out.2; unfold wrap64; omega
            obtain ⟨z, hz⟩ : ∃ z, (getM rs' y.f2).getD zO = z := ⟨_, rfl⟩
            obtain ⟨th, hth⟩ : ∃ b, (getM rs' y.f2).isSome = b := ⟨_, rfl⟩
            have HZ := Aside0.mk (And.intro hz hth)
            clear hy hlt hz hth
            by_cases hk : y.f0 = 0
            · have e1 : (y.f0 == 0) = true := by rw [hk]; rfl
              have e2 : (y.f0 != 0) = false := by rw [hk]; rfl
              clear hk
              by_cases hs2 : y.f1.f2 = (s : Int)
              · have e3 : (y.f1.f2 != (s : Int)) = false := by rw [hs2]; simp
                clear hs2
                go_wp2_with (first | (go_at_call 41; refine Calls.named ?_; intro w2 hw2; have S2 : St w (fun _ => False) w2 [Pt wr.heap.size #[.int .i64 y.f0, .int .u64 y.f1.f0, .int .i64 y.f1.f1, .int .i64 y.f1.f2, .int .i64 y.f1.f3, .int .i64 y.f1.f4, .int .u64 y.f1.f5, .int .u64 y.f2, .int .i64 y.f3] 75, BookP g (rs' 1) (rs' 2) m', OwP 2 1 (.slice Ap np cp) np (ics ps), Pt gf #[.int .u64 xf.f0, .int .i64 xf.f1, .int .i64 xf.f2, .int .i64 xf.f3, .int .i64 xf.f4, .int .u64 xf.f5] 33] := (by rw [hw2]; exact S.alloc); clear hw2 S x0 x1 x2 x3 x4 x5 x6 x7 x8; obtain ⟨A, c, hbk⟩ := (S2.front 1 rfl).bookBk HV.out; have hgt := hbk.get y.f2; clear hbk A c; rw [HZ.out.1, HZ.out.2] at hgt; change Calls _ _ _ _ (fun e w' => e = .returned (.tuple #[.agg #[.int .u64 z.f0, .int .i64 z.f1, .int .i64 z.f2, .int .i64 z.f3, .int .i64 z.f4, .int .u64 z.f5], .bool _]) ∧ _) at hgt; refine hgt.mono ?_; rintro e w3 ⟨rfl, hb⟩; have S3 := S2.call hb; clear hb S2 hgt; have hlt3 := blk_lt (S3.blk 0 rfl); have k0 : w3.cell? ⟨wr.heap.size, 0, none⟩ = some (.int .i64 y.f0) := (blk_cell (S3.blk 0 rfl) 0).trans rfl; have k1 : w3.cell? ⟨wr.heap.size, 1, none⟩ = some (.int .u64 y.f1.f0) := (blk_cell (S3.blk 0 rfl) 1).trans rfl; have k2 : w3.cell? ⟨wr.heap.size, 2, none⟩ = some (.int .i64 y.f1.f1) := (blk_cell (S3.blk 0 rfl) 2).trans rfl; have k3 : w3.cell? ⟨wr.heap.size, 3, none⟩ = some (.int .i64 y.f1.f2) := (blk_cell (S3.blk 0 rfl) 3).trans rfl; have k4 : w3.cell? ⟨wr.heap.size, 4, none⟩ = some (.int .i64 y.f1.f3) := (blk_cell (S3.blk 0 rfl) 4).trans rfl; have k5 : w3.cell? ⟨wr.heap.size, 5, none⟩ = some (.int .i64 y.f1.f4) := (blk_cell (S3.blk 0 rfl) 5).trans rfl; have k6 : w3.cell? ⟨wr.heap.size, 6, none⟩ = some (.int .u64 y.f1.f5) := (blk_cell (S3.blk 0 rfl) 6).trans rfl; have k7 : w3.cell? ⟨wr.heap.size, 7, none⟩ = some (.int .u64 y.f2) := (blk_cell (S3.blk 0 rfl) 7).trans rfl; have k8 : w3.cell? ⟨wr.heap.size, 8, none⟩ = some (.int .i64 y.f3) := (blk_cell (S3.blk 0 rfl) 8).trans rfl))
                go_roundg (gk - 1)
                case measure => have := HI.out; omega
                case rel => exact ⟨i + 1, by first | rfl | rw [hwi] | go_num, ⟨by have := HI.out; omega⟩, rs', m', ⟨HV.out⟩, ⟨HR.out⟩, ⟨(S3.alloc.drop).drop⟩⟩
              · have e3 : (y.f1.f2 != (s : Int)) = true := by simp [hs2]
                have HO := Aside0.mk hs2
                clear hs2
                go_wp2_with (first | (go_at_call 41; refine Calls.named ?_; intro w2 hw2; have S2 : St w (fun _ => False) w2 [Pt wr.heap.size #[.int .i64 y.f0, .int .u64 y.f1.f0, .int .i64 y.f1.f1, .int .i64 y.f1.f2, .int .i64 y.f1.f3, .int .i64 y.f1.f4, .int .u64 y.f1.f5, .int .u64 y.f2, .int .i64 y.f3] 75, BookP g (rs' 1) (rs' 2) m', OwP 2 1 (.slice Ap np cp) np (ics ps), Pt gf #[.int .u64 xf.f0, .int .i64 xf.f1, .int .i64 xf.f2, .int .i64 xf.f3, .int .i64 xf.f4, .int .u64 xf.f5] 33] := (by rw [hw2]; exact S.alloc); clear hw2 S x0 x1 x2 x3 x4 x5 x6 x7 x8; obtain ⟨A, c, hbk⟩ := (S2.front 1 rfl).bookBk HV.out; have hgt := hbk.get y.f2; clear hbk A c; rw [HZ.out.1, HZ.out.2] at hgt; change Calls _ _ _ _ (fun e w' => e = .returned (.tuple #[.agg #[.int .u64 z.f0, .int .i64 z.f1, .int .i64 z.f2, .int .i64 z.f3, .int .i64 z.f4, .int .u64 z.f5], .bool _]) ∧ _) at hgt; refine hgt.mono ?_; rintro e w3 ⟨rfl, hb⟩; have S3 := S2.call hb; clear hb S2 hgt; have hlt3 := blk_lt (S3.blk 0 rfl); have k0 : w3.cell? ⟨wr.heap.size, 0, none⟩ = some (.int .i64 y.f0) := (blk_cell (S3.blk 0 rfl) 0).trans rfl; have k1 : w3.cell? ⟨wr.heap.size, 1, none⟩ = some (.int .u64 y.f1.f0) := (blk_cell (S3.blk 0 rfl) 1).trans rfl; have k2 : w3.cell? ⟨wr.heap.size, 2, none⟩ = some (.int .i64 y.f1.f1) := (blk_cell (S3.blk 0 rfl) 2).trans rfl; have k3 : w3.cell? ⟨wr.heap.size, 3, none⟩ = some (.int .i64 y.f1.f2) := (blk_cell (S3.blk 0 rfl) 3).trans rfl; have k4 : w3.cell? ⟨wr.heap.size, 4, none⟩ = some (.int .i64 y.f1.f3) := (blk_cell (S3.blk 0 rfl) 4).trans rfl; have k5 : w3.cell? ⟨wr.heap.size, 5, none⟩ = some (.int .i64 y.f1.f4) := (blk_cell (S3.blk 0 rfl) 5).trans rfl; have k6 : w3.cell? ⟨wr.heap.size, 6, none⟩ = some (.int .u64 y.f1.f5) := (blk_cell (S3.blk 0 rfl) 6).trans rfl; have k7 : w3.cell? ⟨wr.heap.size, 7, none⟩ = some (.int .u64 y.f2) := (blk_cell (S3.blk 0 rfl) 7).trans rfl; have k8 : w3.cell? ⟨wr.heap.size, 8, none⟩ = some (.int .i64 y.f3) := (blk_cell (S3.blk 0 rfl) 8).trans rfl) | (go_at_call 36; refine Calls.named ?_; intro w4 hw4; have S4 := S3.alloc (cs := #[.int .u64 z.f0, .int .i64 z.f1, .int .i64 z.f2, .int .i64 z.f3, .int .i64 z.f4, .int .u64 z.f5]) (t := 33); rw [← hw4] at S4; clear hw4 S3 hlt3 k0 k1 k2 k3 k4 k5 k6 k7 k8; obtain ⟨F, hA, _, hj⟩ := (S4.front 2 rfl).join; refine (book_add hA HV.out.few y.f1).mono ?_; rintro e w5 ⟨rfl, hs⟩; have S5 := hj w5 _ hs; clear hA hj hs; have k0 : w5.cell? ⟨wr.heap.size, 0, none⟩ = some (.int .i64 y.f0) := (blk_cell (S5.blk 2 rfl) 0).trans rfl; have k1 : w5.cell? ⟨wr.heap.size, 1, none⟩ = some (.int .u64 y.f1.f0) := (blk_cell (S5.blk 2 rfl) 1).trans rfl; have k2 : w5.cell? ⟨wr.heap.size, 2, none⟩ = some (.int .i64 y.f1.f1) := (blk_cell (S5.blk 2 rfl) 2).trans rfl; have k3 : w5.cell? ⟨wr.heap.size, 3, none⟩ = some (.int .i64 y.f1.f2) := (blk_cell (S5.blk 2 rfl) 3).trans rfl; have k4 : w5.cell? ⟨wr.heap.size, 4, none⟩ = some (.int .i64 y.f1.f3) := (blk_cell (S5.blk 2 rfl) 4).trans rfl; have k5 : w5.cell? ⟨wr.heap.size, 5, none⟩ = some (.int .i64 y.f1.f4) := (blk_cell (S5.blk 2 rfl) 5).trans rfl; have k6 : w5.cell? ⟨wr.heap.size, 6, none⟩ = some (.int .u64 y.f1.f5) := (blk_cell (S5.blk 2 rfl) 6).trans rfl; have k7 : w5.cell? ⟨wr.heap.size, 7, none⟩ = some (.int .u64 y.f2) := (blk_cell (S5.blk 2 rfl) 7).trans rfl; have k8 : w5.cell? ⟨wr.heap.size, 8, none⟩ = some (.int .i64 y.f3) := (blk_cell (S5.blk 2 rfl) 8).trans rfl))
                go_roundg (gk - 1)
                case measure => have := HI.out; omega
                case rel => exact ⟨i + 1, by first | rfl | rw [hwi] | go_num, ⟨by have := HI.out; omega⟩, _, _, ⟨HV.out.add y.f1⟩, ⟨(add_other HO.out).trans HR.out⟩, ⟨((S5.front 1 rfl).drop.front 1 rfl).drop⟩⟩
            · have e1 : (y.f0 == 0) = false := beq_eq_false_iff_ne.2 hk
              have e2 : (y.f0 != 0) = true := by simp [hk]
              clear hk
              cases th with
              | false =>
                go_wp2_with (first | (go_at_call 41; refine Calls.named ?_; intro w2 hw2; have S2 : St w (fun _ => False) w2 [Pt wr.heap.size #[.int .i64 y.f0, .int .u64 y.f1.f0, .int .i64 y.f1.f1, .int .i64 y.f1.f2, .int .i64 y.f1.f3, .int .i64 y.f1.f4, .int .u64 y.f1.f5, .int .u64 y.f2, .int .i64 y.f3] 75, BookP g (rs' 1) (rs' 2) m', OwP 2 1 (.slice Ap np cp) np (ics ps), Pt gf #[.int .u64 xf.f0, .int .i64 xf.f1, .int .i64 xf.f2, .int .i64 xf.f3, .int .i64 xf.f4, .int .u64 xf.f5] 33] := (by rw [hw2]; exact S.alloc); clear hw2 S x0 x1 x2 x3 x4 x5 x6 x7 x8; obtain ⟨A, c, hbk⟩ := (S2.front 1 rfl).bookBk HV.out; have hgt := hbk.get y.f2; clear hbk A c; rw [HZ.out.1, HZ.out.2] at hgt; change Calls _ _ _ _ (fun e w' => e = .returned (.tuple #[.agg #[.int .u64 z.f0, .int .i64 z.f1, .int .i64 z.f2, .int .i64 z.f3, .int .i64 z.f4, .int .u64 z.f5], .bool _]) ∧ _) at hgt; refine hgt.mono ?_; rintro e w3 ⟨rfl, hb⟩; have S3 := S2.call hb; clear hb S2 hgt; have hlt3 := blk_lt (S3.blk 0 rfl); have k0 : w3.cell? ⟨wr.heap.size, 0, none⟩ = some (.int .i64 y.f0) := (blk_cell (S3.blk 0 rfl) 0).trans rfl; have k1 : w3.cell? ⟨wr.heap.size, 1, none⟩ = some (.int .u64 y.f1.f0) := (blk_cell (S3.blk 0 rfl) 1).trans rfl; have k2 : w3.cell? ⟨wr.heap.size, 2, none⟩ = some (.int .i64 y.f1.f1) := (blk_cell (S3.blk 0 rfl) 2).trans rfl; have k3 : w3.cell? ⟨wr.heap.size, 3, none⟩ = some (.int .i64 y.f1.f2) := (blk_cell (S3.blk 0 rfl) 3).trans rfl; have k4 : w3.cell? ⟨wr.heap.size, 4, none⟩ = some (.int .i64 y.f1.f3) := (blk_cell (S3.blk 0 rfl) 4).trans rfl; have k5 : w3.cell? ⟨wr.heap.size, 5, none⟩ = some (.int .i64 y.f1.f4) := (blk_cell (S3.blk 0 rfl) 5).trans rfl; have k6 : w3.cell? ⟨wr.heap.size, 6, none⟩ = some (.int .u64 y.f1.f5) := (blk_cell (S3.blk 0 rfl) 6).trans rfl; have k7 : w3.cell? ⟨wr.heap.size, 7, none⟩ = some (.int .u64 y.f2) := (blk_cell (S3.blk 0 rfl) 7).trans rfl; have k8 : w3.cell? ⟨wr.heap.size, 8, none⟩ = some (.int .i64 y.f3) := (blk_cell (S3.blk 0 rfl) 8).trans rfl))
                go_roundg (gk - 1)
                case measure => have := HI.out; omega
                case rel => exact ⟨i + 1, by first | rfl | rw [hwi] | go_num, ⟨by have := HI.out; omega⟩, rs', m', ⟨HV.out⟩, ⟨HR.out⟩, ⟨(S3.alloc.drop).drop⟩⟩
              | true =>
                by_cases hs2 : z.f2 = (s : Int)
                · have e3 : (z.f2 != (s : Int)) = false := by rw [hs2]; simp
                  clear hs2
                  go_wp2_with (first | (go_at_call 41; refine Calls.named ?_; intro w2 hw2; have S2 : St w (fun _ => False) w2 [Pt wr.heap.size #[.int .i64 y.f0, .int .u64 y.f1.f0, .int .i64 y.f1.f1, .int .i64 y.f1.f2, .int .i64 y.f1.f3, .int .i64 y.f1.f4, .int .u64 y.f1.f5, .int .u64 y.f2, .int .i64 y.f3] 75, BookP g (rs' 1) (rs' 2) m', OwP 2 1 (.slice Ap np cp) np (ics ps), Pt gf #[.int .u64 xf.f0, .int .i64 xf.f1, .int .i64 xf.f2, .int .i64 xf.f3, .int .i64 xf.f4, .int .u64 xf.f5] 33] := (by rw [hw2]; exact S.alloc); clear hw2 S x0 x1 x2 x3 x4 x5 x6 x7 x8; obtain ⟨A, c, hbk⟩ := (S2.front 1 rfl).bookBk HV.out; have hgt := hbk.get y.f2; clear hbk A c; rw [HZ.out.1, HZ.out.2] at hgt; change Calls _ _ _ _ (fun e w' => e = .returned (.tuple #[.agg #[.int .u64 z.f0, .int .i64 z.f1, .int .i64 z.f2, .int .i64 z.f3, .int .i64 z.f4, .int .u64 z.f5], .bool _]) ∧ _) at hgt; refine hgt.mono ?_; rintro e w3 ⟨rfl, hb⟩; have S3 := S2.call hb; clear hb S2 hgt; have hlt3 := blk_lt (S3.blk 0 rfl); have k0 : w3.cell? ⟨wr.heap.size, 0, none⟩ = some (.int .i64 y.f0) := (blk_cell (S3.blk 0 rfl) 0).trans rfl; have k1 : w3.cell? ⟨wr.heap.size, 1, none⟩ = some (.int .u64 y.f1.f0) := (blk_cell (S3.blk 0 rfl) 1).trans rfl; have k2 : w3.cell? ⟨wr.heap.size, 2, none⟩ = some (.int .i64 y.f1.f1) := (blk_cell (S3.blk 0 rfl) 2).trans rfl; have k3 : w3.cell? ⟨wr.heap.size, 3, none⟩ = some (.int .i64 y.f1.f2) := (blk_cell (S3.blk 0 rfl) 3).trans rfl; have k4 : w3.cell? ⟨wr.heap.size, 4, none⟩ = some (.int .i64 y.f1.f3) := (blk_cell (S3.blk 0 rfl) 4).trans rfl; have k5 : w3.cell? ⟨wr.heap.size, 5, none⟩ = some (.int .i64 y.f1.f4) := (blk_cell (S3.blk 0 rfl) 5).trans rfl; have k6 : w3.cell? ⟨wr.heap.size, 6, none⟩ = some (.int .u64 y.f1.f5) := (blk_cell (S3.blk 0 rfl) 6).trans rfl; have k7 : w3.cell? ⟨wr.heap.size, 7, none⟩ = some (.int .u64 y.f2) := (blk_cell (S3.blk 0 rfl) 7).trans rfl; have k8 : w3.cell? ⟨wr.heap.size, 8, none⟩ = some (.int .i64 y.f3) := (blk_cell (S3.blk 0 rfl) 8).trans rfl))
                  go_roundg (gk - 1)
                  case measure => have := HI.out; omega
                  case rel => exact ⟨i + 1, by first | rfl | rw [hwi] | go_num, ⟨by have := HI.out; omega⟩, rs', m', ⟨HV.out⟩, ⟨HR.out⟩, ⟨(S3.alloc.drop).drop⟩⟩
                · have e3 : (z.f2 != (s : Int)) = true := by simp [hs2]
                  have HO := Aside0.mk hs2
                  clear hs2
                  go_wp2_with (first | (go_at_call 41; refine Calls.named ?_; intro w2 hw2; have S2 : St w (fun _ => False) w2 [Pt wr.heap.size #[.int .i64 y.f0, .int .u64 y.f1.f0, .int .i64 y.f1.f1, .int .i64 y.f1.f2, .int .i64 y.f1.f3, .int .i64 y.f1.f4, .int .u64 y.f1.f5, .int .u64 y.f2, .int .i64 y.f3] 75, BookP g (rs' 1) (rs' 2) m', OwP 2 1 (.slice Ap np cp) np (ics ps), Pt gf #[.int .u64 xf.f0, .int .i64 xf.f1, .int .i64 xf.f2, .int .i64 xf.f3, .int .i64 xf.f4, .int .u64 xf.f5] 33] := (by rw [hw2]; exact S.alloc); clear hw2 S x0 x1 x2 x3 x4 x5 x6 x7 x8; obtain ⟨A, c, hbk⟩ := (S2.front 1 rfl).bookBk HV.out; have hgt := hbk.get y.f2; clear hbk A c; rw [HZ.out.1, HZ.out.2] at hgt; change Calls _ _ _ _ (fun e w' => e = .returned (.tuple #[.agg #[.int .u64 z.f0, .int .i64 z.f1, .int .i64 z.f2, .int .i64 z.f3, .int .i64 z.f4, .int .u64 z.f5], .bool _]) ∧ _) at hgt; refine hgt.mono ?_; rintro e w3 ⟨rfl, hb⟩; have S3 := S2.call hb; clear hb S2 hgt; have hlt3 := blk_lt (S3.blk 0 rfl); have k0 : w3.cell? ⟨wr.heap.size, 0, none⟩ = some (.int .i64 y.f0) := (blk_cell (S3.blk 0 rfl) 0).trans rfl; have k1 : w3.cell? ⟨wr.heap.size, 1, none⟩ = some (.int .u64 y.f1.f0) := (blk_cell (S3.blk 0 rfl) 1).trans rfl; have k2 : w3.cell? ⟨wr.heap.size, 2, none⟩ = some (.int .i64 y.f1.f1) := (blk_cell (S3.blk 0 rfl) 2).trans rfl; have k3 : w3.cell? ⟨wr.heap.size, 3, none⟩ = some (.int .i64 y.f1.f2) := (blk_cell (S3.blk 0 rfl) 3).trans rfl; have k4 : w3.cell? ⟨wr.heap.size, 4, none⟩ = some (.int .i64 y.f1.f3) := (blk_cell (S3.blk 0 rfl) 4).trans rfl; have k5 : w3.cell? ⟨wr.heap.size, 5, none⟩ = some (.int .i64 y.f1.f4) := (blk_cell (S3.blk 0 rfl) 5).trans rfl; have k6 : w3.cell? ⟨wr.heap.size, 6, none⟩ = some (.int .u64 y.f1.f5) := (blk_cell (S3.blk 0 rfl) 6).trans rfl; have k7 : w3.cell? ⟨wr.heap.size, 7, none⟩ = some (.int .u64 y.f2) := (blk_cell (S3.blk 0 rfl) 7).trans rfl; have k8 : w3.cell? ⟨wr.heap.size, 8, none⟩ = some (.int .i64 y.f3) := (blk_cell (S3.blk 0 rfl) 8).trans rfl) | (go_at_call 42; refine Calls.named ?_; intro w4 hw4; have S4 := S3.alloc (cs := #[.int .u64 z.f0, .int .i64 z.f1, .int .i64 z.f2, .int .i64 z.f3, .int .i64 z.f4, .int .u64 z.f5]) (t := 33); rw [← hw4] at S4; clear hw4 S3 hlt3 k0 k1 k2 k3 k4 k5 k6 k7 k8; obtain ⟨F, hA, _, hj⟩ := (S4.front 2 rfl).join; refine (book_cut hA HV.out.few y.f2 y.f3).mono ?_; rintro e w5 ⟨rfl, hs⟩; have S5 := hj w5 _ hs; clear hA hj hs))
                  go_roundg (gk - 1)
                  case measure => have := HI.out; omega
                  case rel => exact ⟨i + 1, by first | rfl | rw [hwi] | go_num, ⟨by have := HI.out; omega⟩, _, _, ⟨HV.out.cut y.f2 y.f3⟩, ⟨(cut_other HV.out (get_is HZ.out) HO.out).trans HR.out⟩, ⟨((S5.front 1 rfl).drop.front 1 rfl).drop⟩⟩
          · have hlt' : ¬ (i : Int) < (n1 : Int) := by omega
            have hd : decide ((i : Int) < (n1 : Int)) = false := decide_eq_false hlt'
            go_wp2_with (first
              | (go_at_call 40; obtain ⟨A, c, hbk⟩ := S.bookBk HV.out; refine (HBE.out _ _ _ A c HV.out HR.out hbk).mono ?_; rintro e w2 ⟨rfl, hb⟩; have S1 := S.call hb; clear hbk hb S A c)
              | (go_at_call 39; refine Calls.named ?_; intro w4 hw4; have S2 := S1.alloc (cs := #[.int .u64 xf.f0, .int .i64 xf.f1, .int .i64 xf.f2, .int .i64 xf.f3, .int .i64 xf.f4, .int .u64 xf.f5]) (t := 33); rw [← hw4] at S2; obtain ⟨gl, hgl⟩ : ∃ gl, w2.heap.size = gl := ⟨_, rfl⟩; rw [hgl] at S2 ⊢; clear hw4 S1 hgl; obtain ⟨A, c, hbk⟩ := (S2.front 1 rfl).bookBk HV.out; refine (HPR.out _ _ _ A c HV.out HR.out hbk).mono ?_; rintro e w5 ⟨v, rfl, hs⟩; have S3 := S2.join0 hs; clear hbk hs S2 A c; obtain ⟨Fv, hv⟩ := S3.get 0 rfl; obtain ⟨Aq, cq, hvs⟩ := hv.slice; subst hvs; clear hv)
              | (go_at_call 43; obtain ⟨F1, p1⟩ := S3.get 0 rfl; obtain ⟨F2, p2⟩ := S3.get 3 rfl; have q1 := own_C p1 HN2.out.2; have q2 := own_C p2 HN2.out.2; have hpc := jobberlaw13_prices.calls 2000 _ _ ps _ _ ps true _ q1.1 q1.2 q2.1 q2.2 (prices_same ps (by have := HN2.out; omega)); rw [HN2.out.2] at hpc; refine hpc.mono ?_; rintro e w6 ⟨rfl, hb⟩; obtain ⟨dn, hdn⟩ := hb.out; have S4 := S3.drew dn; rw [← hdn] at S4; clear S3 hb hdn hpc q1 q2 p1 p2; have u0 : w6.cell? ⟨gl, 0, none⟩ = some (.int .u64 xf.f0) := (blk_cell (S4.blk 1 rfl) 0).trans rfl; have u1 : w6.cell? ⟨gl, 1, none⟩ = some (.int .i64 xf.f1) := (blk_cell (S4.blk 1 rfl) 1).trans rfl; have u2 : w6.cell? ⟨gl, 2, none⟩ = some (.int .i64 xf.f2) := (blk_cell (S4.blk 1 rfl) 2).trans rfl; have u3 : w6.cell? ⟨gl, 3, none⟩ = some (.int .i64 xf.f3) := (blk_cell (S4.blk 1 rfl) 3).trans rfl; have u4 : w6.cell? ⟨gl, 4, none⟩ = some (.int .i64 xf.f4) := (blk_cell (S4.blk 1 rfl) 4).trans rfl; have u5 : w6.cell? ⟨gl, 5, none⟩ = some (.int .u64 xf.f5) := (blk_cell (S4.blk 1 rfl) 5).trans rfl; have v0 : w6.cell? ⟨gf, 0, none⟩ = some (.int .u64 xf.f0) := (blk_cell (S4.blk 4 rfl) 0).trans rfl; have v1 : w6.cell? ⟨gf, 1, none⟩ = some (.int .i64 xf.f1) := (blk_cell (S4.blk 4 rfl) 1).trans rfl; have v2 : w6.cell? ⟨gf, 2, none⟩ = some (.int .i64 xf.f2) := (blk_cell (S4.blk 4 rfl) 2).trans rfl; have v3 : w6.cell? ⟨gf, 3, none⟩ = some (.int .i64 xf.f3) := (blk_cell (S4.blk 4 rfl) 3).trans rfl; have v4 : w6.cell? ⟨gf, 4, none⟩ = some (.int .i64 xf.f4) := (blk_cell (S4.blk 4 rfl) 4).trans rfl; have v5 : w6.cell? ⟨gf, 5, none⟩ = some (.int .u64 xf.f5) := (blk_cell (S4.blk 4 rfl) 5).trans rfl)
              | (go_at_call 34; refine (ladder_lives _).mono ?_; rintro e w7 ⟨rfl, hb⟩; have S5 := S4.call hb; clear hb S4))
            go_ret
            exact ⟨rfl, S5.below⟩
end
def jobberlaw13_LadderSides.f (l0 : List S33) (l1 : List S75) (a2 : Int) : Option Bool := some true
theorem jobberlaw13_LadderSides.calls (A0 : Option Addr) (c0 : Nat) (l0 : List S33) (A1 : Option Addr) (c1 : Nat) (l1 : List S75) (a2 : Int) (r : Bool) (w : World) (hr0 : Kd.C k33 w A0 l0.length l0) (hc0 : l0.length ≤ c0) (hr1 : Kd.C k75 w A1 l1.length l1) (hc1 : l1.length ≤ c1) (h : jobberlaw13_LadderSides.f l0 l1 a2 = some r) :
    Calls Try.prog 9 #[.slice A0 l0.length c0, .slice A1 l1.length c1, .int .i64 a2] w fun e w' => e = .returned (.bool r) ∧ Below w.heap.size w w' := by
  obtain rfl := Option.some.inj h
  by_cases c : 64 < l0.length ∨ 60 < l1.length ∨ (a2 ≠ 1 ∧ a2 ≠ 2)
  · exact sides_lives w A0 A1 _ c0 _ c1 a2 c
  · obtain ⟨s, hs, rfl⟩ : ∃ s : Nat, (s = 1 ∨ s = 2) ∧ a2 = (s : Int) := by
      by_cases e : a2 = 1
      · exact ⟨1, .inl rfl, e⟩
      · exact ⟨2, .inr rfl, by omega⟩
    exact sides_main w A0 A1 c0 c1 l0 l1 s hs hr0 hr1 (by omega) (by omega)
end Go.Proofs.Ytlihfiajbhpokaa.Lds
