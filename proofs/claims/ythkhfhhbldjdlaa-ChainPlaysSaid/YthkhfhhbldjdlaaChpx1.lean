/- Printed by this session's wip/drive.py over the translation; some functions by hand. -/
import Derived.Test.YthkhfhhbldjdlaaChpx0
namespace Go.Proofs.Ythkhfhhbldjdlaa.Chp
open Go.RowKit Go.Proofs.YthkhfhhbldjdlaaW.PrintWords Go.Proofs.YthkhfhhbldjdlaaW.PrintLast Go.Proofs.YthkhfhhbldjdlaaW.PrintMore
attribute [local go_sem] max2_int min2_int max_two min_two max_three min_three max_four min_four   -- for this text's walks alone
set_option linter.unusedVariables false
set_option linter.unusedSimpArgs false

theorem ret_int {k : IntKind} {a b : Int} (h : a = b) : Ending.returned (.int k a) = .returned (.int k b) := by rw [h]
def ixB {α : Type} (P : α → Bool) (l : List α) : Int := if l.findIdx P < l.length then ((l.findIdx P : Nat) : Int) else -1
theorem ixB_hit {α : Type} {l : List α} {P : α → Bool} (z : α) {i : Int} (h0 : 0 ≤ i) (h1 : i < (l.length : Int)) (ha : ∀ j : Nat, j < i.toNat → P (l.getD j z) = false) (hp : P (l.getD i.toNat z) = true) : ixB P l = i := by
  have hl : i.toNat < l.length := by omega
  have e : l.findIdx P = i.toNat := by
    refine (List.findIdx_eq hl).2 ⟨?_, fun j hj => ?_⟩
    · rw [List.getD_eq_getElem?_getD, List.getElem?_eq_getElem hl] at hp
      exact hp
    · have := ha j hj
      rw [List.getD_eq_getElem?_getD, List.getElem?_eq_getElem (by omega)] at this
      exact this
  unfold ixB
  rw [e, if_pos hl]
  omega
theorem ixB_none {α : Type} {l : List α} {P : α → Bool} (z : α) (ha : ∀ j : Nat, j < l.length → P (l.getD j z) = false) : ixB P l = -1 := by
  have e : l.findIdx P = l.length := by
    refine List.findIdx_eq_length.2 (fun x hx => ?_)
    obtain ⟨j, hj, rfl⟩ := List.mem_iff_getElem.1 hx
    have := ha j hj
    rw [List.getD_eq_getElem?_getD, List.getElem?_eq_getElem hj] at this
    exact this
  unfold ixB
  rw [e, if_neg (by omega)]


/-! ### jobberlaw38_Run_light: function 24 -/
def jobberlaw38_Run_light.f (a0_0 : Int) (a0_1 : Int) (l0_2 : List Int) (a0_3 : Int) : Option (Bool) := some (decide ((l0_2.length : Int) ≤ 60))
set_option maxHeartbeats 8000000 in
set_option maxRecDepth 100000 in
theorem jobberlaw38_Run_light.calls (a0_0 : Int) (a0_1 : Int) (A0_2 : Option Addr) (c0_2 : Nat) (l0_2 : List Int) (a0_3 : Int) (r : Bool) (w : World) (hr0_2 : Kd.C (Kd.int .u8) w A0_2 l0_2.length l0_2) (hc0_2 : l0_2.length ≤ c0_2) (h : jobberlaw38_Run_light.f a0_0 a0_1 l0_2 a0_3 = some r) :
    Calls Try.prog 24 #[.agg #[.int .u64 a0_0, .int .u64 a0_1, .slice A0_2 l0_2.length c0_2, .int .u8 a0_3]] w fun e w' => e = .returned (.bool r) ∧ Below w.heap.size w w' := by
  have hu60 := Try.underlying60
  have HR0_2 := Aside0.mk hr0_2
  have HC0_2 := Aside0.mk hc0_2
  clear hr0_2 hc0_2
  have HB := Aside0.mk (Below.refl w.heap.size w)
  have H : (some (decide ((l0_2.length : Int) ≤ 60))) = some r := h
  clear h
  obtain rfl := Option.some.inj H
  go_enter Try.func24, Try.ntmps24
  go_wp2_with (first | ((with_reducible refine gate_dst (N := 1) rfl ?_); refine box_event ?hg (N := 1) ?hd (cs := #[.int .u64 a0_0, .int .u64 a0_1, .slice A0_2 l0_2.length c0_2, .int .u8 a0_3]) (t := 60) ?hr ?_; (case hd => rfl); (case hg => rfl); (case hr => first | (go_simp; done) | (go_simp; rfl)); intro gb101 hg w2 hbox hb; have n0_ := Aside0.mk (below_step (by repeat (first | (with_reducible first | exact HB.out | apply below_alloc | apply pw_below_drewN | apply below_drew1) | exact HB.out)) hb); have n1_ := Aside0.mk (hbox); have n2_ := Aside0.mk ((by rw [hg]; exact (below_size (by repeat (first | (with_reducible first | exact HB.out | apply below_alloc | apply pw_below_drewN | apply below_drew1) | exact HB.out))) : w.heap.size ≤ gb101)); have n3_ := Aside0.mk ((by rw [hg]; exact (below_size (by repeat (first | (with_reducible first | exact HB.out | apply below_alloc | apply pw_below_drewN | apply below_drew1) | exact HB.out))) : w.heap.size ≤ gb101)); clear HB; have HB := n0_; have BK101 := n1_; have GW101 := n2_; have GE101 := n3_; clear n0_ n1_ n2_ n3_; clear hb hbox hg; have hcz3_0 : w2.cell? ⟨gb101, 0, none⟩ = some (.int .u64 a0_0) := (blk_cell BK101.out 0).trans rfl; have hcz3_1 : w2.cell? ⟨gb101, 1, none⟩ = some (.int .u64 a0_1) := (blk_cell BK101.out 1).trans rfl; have hcz3_2 : w2.cell? ⟨gb101, 2, none⟩ = some (.slice A0_2 l0_2.length c0_2) := (blk_cell BK101.out 2).trans rfl; have hcz3_3 : w2.cell? ⟨gb101, 3, none⟩ = some (.int .u8 a0_3) := (blk_cell BK101.out 3).trans rfl; have hfz3_0 := blk_frozen BK101.out 0; have hfz3_1 := blk_frozen BK101.out 1; have hfz3_2 := blk_frozen BK101.out 2; have hfz3_3 := blk_frozen BK101.out 3))
  go_ret
  exact ⟨by first | rfl | (simp [errW_none, errW_some] <;> rfl) | (simp [*, errW_none, errW_some] <;> rfl), by repeat (first | (with_reducible first | exact HB.out | apply below_alloc | apply pw_below_drewN | apply below_drew1 | refine below_set ?_ GE101.out) | exact HB.out)⟩

/-! ### bytes_Clone: function 51 (by hand) -/
theorem clone_calls (A : Option Addr) (c : Nat) (xs : List Int) (w : World) (hC : Kd.C (Kd.int .u8) w A xs.length xs) (hb : xs.length ≤ 140737488355328) :
    Calls Try.prog 51 #[.slice A xs.length c] w fun e w' => ∃ v, e = .returned v ∧ (Kd.int .u8).R 5 w' w.heap.size (fun _ => True) v xs ∧ Below w.heap.size w w' := by
  cases A with
  | none =>
    have hz : xs = [] := by
      rcases Nat.eq_zero_or_pos xs.length with h | h
      · exact List.eq_nil_of_length_eq_zero h
      · obtain ⟨ad, e, _⟩ := hC.2.2 h
        cases e
    subst hz
    refine (Try.bytes_Clone_nil _ c w).mono ?_
    rintro e w' ⟨rfl, rfl⟩
    exact ⟨_, rfl, Kd.R_nil _ _ _ _ _, Below.refl _ _⟩
  | some ad =>
    refine (Try.bytes_Clone_at ad xs.length c xs w rfl hb ?_).mono ?_
    · intro i hi
      obtain ⟨ad', e, hc⟩ := hC.2.2 (by omega)
      cases e
      obtain ⟨cs, h1, h2, h3⟩ := hc i xs[i] (List.getElem?_eq_getElem hi)
      have h2' : cs = [.int .u8 xs[i]] := h2
      have h4 := h3 0 (.int .u8 xs[i]) (by rw [h2']; rfl)
      rw [List.getD_eq_getElem?_getD, List.getElem?_eq_getElem hi]
      have e0 : i * (Kd.int .u8).sz + 0 = i := by show i * 1 + 0 = i; omega
      rw [e0] at h4
      exact h4
    · rintro e w' ⟨v, rfl, ho, _, hb⟩
      refine ⟨v, rfl, ⟨fun _ _ => trivial, xs.map (Value.int .u8), ho, by simp [Kd.int, Kd.scalar], fun j p hj => ?_⟩, hb⟩
      show ((xs.map (Value.int .u8)).drop (j * 1)).take 1 = [.int .u8 p]
      obtain ⟨hj1, hj2⟩ := List.getElem?_eq_some_iff.1 hj
      rw [Nat.mul_one, List.drop_eq_getElem_cons (by simpa using hj1), List.take_succ_cons, List.take_zero, List.getElem_map, hj2]

/-! ### chain_copied: function 66 (by hand) -/
theorem run_copyN {P : Program} (w : World) (dT sT ty elem : TypeId) (z g dLen dCap : Nat) (A : Option Addr) (sLen sCap : Nat) (cur : Array Value) (t : TypeId) (cs : List Value)
    (hu : P.underlying dT = some (.slice elem)) (hs : (P.info? elem).map (·.size) = some z) (hg : w.heap[g]? = some (.cells cur t (0, 0))) (hn : Nat.min sLen dLen * z = cs.length) (hA : A = none → cs = [])
    (hsrc : ∀ a, A = some a → ∀ (j : Nat) v, cs[j]? = some v → w.cell? (a.add j) = some v) (hfit : cs.length ≤ cur.size) (h1 : ∀ v ∈ cs, v.oneCell' = true) :
    (Builtin.copy_ #[dT, sT] ty #[.slice (some ⟨g, 0, none⟩) dLen dCap, .slice A sLen sCap]).run P w = .ok (goInt (Nat.min sLen dLen)) (w.setRow g (cs ++ cur.toList.drop cs.length).toArray) := by
  cases hq : P.info? elem with
  | none => simp [hq] at hs
  | some i =>
    have hi : i.size = z := by simpa [hq] using hs
    cases A with
    | none =>
      obtain rfl := hA rfl
      have e : w.setRow g (([] : List Value) ++ cur.toList.drop ([] : List Value).length).toArray = w := by
        simp only [List.nil_append, List.length_nil, List.drop_zero, Array.toArray_toList]
        exact setRow_self w g cur t (0, 0) hg
      rw [e]
      simp [Builtin.copy_, run_underlying hu, Builtin.lenOf, Builtin.firstCells, sizeOf, typeInfo, hq, storeCells]
    | some a =>
      have hl := run_loadCells_list (P := P) w a cs (hsrc a rfl)
      have hst := run_storeCells_at P g 0 t cs 0 cur w hg (by simpa using hfit) h1
      simp only [Nat.add_zero, Nat.zero_add, List.take_zero, List.nil_append] at hst
      simp [Builtin.copy_, run_underlying hu, Builtin.lenOf, Builtin.firstCells, sizeOf, typeInfo, hq, hi, hn, hl, hst]
abbrev KE := k78
abbrev SE := S78
/-- Three cells an entry: those that stand ahead of i have bodies of their own. -/
def CpS (w0 W : World) (g cap : Nat) (l : List SE) (i : Nat) : Prop := ∃ cur : Array Value, W.heap[g]? = some (.cells cur 78 (0, 0)) ∧ cur.size = cap * 3 ∧ l.length ≤ cap ∧ cap ≤ maxLen ∧ w0.heap.size ≤ g ∧
  ∀ j x, l[j]? = some x → cur[3 * j]? = some (.int .u64 x.f0) ∧ cur[3 * j + 1]? = some (.int .u64 x.f1) ∧ ∃ v, cur[3 * j + 2]? = some v ∧ (j < i → (Kd.int .u8).R 5 W w0.heap.size (fun k => k ≠ g) v x.f2)
theorem three_of_reps {w : World} {l : List SE} {cs : List Value} (h : Reps (KE.K w) 3 l cs) : ∀ j x, l[j]? = some x → cs[3 * j]? = some (.int .u64 x.f0) ∧ cs[3 * j + 1]? = some (.int .u64 x.f1) ∧ ∃ v, cs[3 * j + 2]? = some v := by
  intro j x hj
  obtain ⟨A2, c2, e, _⟩ := k78_open (h.2 j x hj)
  have z : ∀ i, i < 3 → cs[3 * j + i]? = ((cs.drop (j * 3)).take 3)[i]? := fun i hi => by rw [List.getElem?_take, if_pos hi, List.getElem?_drop, Nat.mul_comm]
  refine ⟨?_, ?_, ?_⟩
  · have := z 0 (by omega); rw [e] at this; exact this
  · have := z 1 (by omega); rw [e] at this; exact this
  · have := z 2 (by omega); rw [e] at this; exact ⟨_, this⟩
theorem copied_step {W w0 : World} {ops : Array Oper} {rest : List Oper} {o : Oper} {a : Act} {Q : Exit → Act → World → Prop} (hgd : o.guard = none) (dO sO : Operand)
    (ho : o.op = .call { callee := .builtin .copy, args := #[dO, sO], argTypes := #[72, 72] })
    {g cap c1 : Nat} {A : Option Addr} {l : List SE} {cur : Array Value} (hd : a.eval dO = .slice (some ⟨g, 0, none⟩) l.length cap) (hs : a.eval sO = .slice A l.length c1) (hg : W.heap[g]? = some (.cells cur 78 (0, 0))) (hsz : cur.size = cap * 3) (hcap : l.length ≤ cap) (hmax : cap ≤ maxLen) (hw : w0.heap.size ≤ g)
    (hC : KE.C W A l.length l) (HB : Below w0.heap.size w0 W)
    (h : ∀ w1, CpS w0 w1 g cap l 0 → Below w0.heap.size w0 w1 → wpList Try.prog ops Q rest (a.put o.dst (goInt l.length)) w1) : wpList Try.prog ops Q (o :: rest) a W := by
  obtain ⟨cs, hrep, hnone, hrd⟩ : ∃ cs, Reps (KE.K W) 3 l cs ∧ (A = none → cs = []) ∧ ∀ a, A = some a → ∀ (j : Nat) v, cs[j]? = some v → W.cell? (a.add j) = some v := by
    cases A with
    | none =>
      have hz : l = [] := by
        rcases Nat.eq_zero_or_pos l.length with hz | hz
        · exact List.eq_nil_of_length_eq_zero hz
        · obtain ⟨ad, e1, _⟩ := hC.2.2 hz
          cases e1
      subst hz
      exact ⟨[], Reps.none _ _, fun _ => rfl, fun a e1 => (by cases e1)⟩
    | some ad =>
      obtain ⟨cs, h1, h2⟩ := ReadsRow.inner_ hC
      exact ⟨cs, h1, fun e1 => (by cases e1), fun a e1 => (by cases e1; exact h2)⟩
  have hcl : cs.length = l.length * 3 := hrep.1
  have hle : l.length * 3 ≤ cap * 3 := Nat.mul_le_mul_right _ hcap
  have hone : ∀ u ∈ cs, u.oneCell' = true := by
    intro u hu2
    obtain ⟨i, hi, rfl⟩ := List.getElem_of_mem hu2
    have hj2 : i / 3 < l.length := by omega
    have hk := hrep.2 (i / 3) _ (List.getElem?_eq_getElem hj2)
    refine KE.K_one hk _ (List.mem_of_getElem? (i := i % 3) ?_)
    rw [List.getElem?_take, if_pos (by omega), List.getElem?_drop, show i / 3 * 3 + i % 3 = i by omega, List.getElem?_eq_getElem hi]
  have hrun := run_copyN (P := Try.prog) W 72 72 o.type 78 3 g l.length cap A l.length c1 cur 78 cs Try.underlying72 (show (Try.prog.info? 78).map (·.size) = some 3 by kernel_rfl) hg (by rw [hcl]; simp) hnone hrd (by rw [hsz, hcl]; exact hle) hone
  rw [show Nat.min l.length l.length = l.length from Nat.min_self _] at hrun
  refine wpList_plain hgd fun K hK => ?_
  unfold Oper.wp
  simp [execOp, ho, resolve, invoke, builtin, hd, hs, hrun, Result.andThen]
  have h3 := three_of_reps hrep
  refine hK _ _ (h _ ⟨_, setRow_heap W g cur _ 78 _ hg, by simp [hsz, hcl]; omega, hcap, hmax, hw, fun j x hj => ?_⟩ (HB.trans ⟨rfl, rfl, rfl, by simp [World.setRow], fun k hk => setRow_other W g k _ (by omega)⟩))
  have hjl := (List.getElem?_eq_some_iff.1 hj).1
  have zz : ∀ q, q < cs.length → ((cs ++ cur.toList.drop cs.length).toArray)[q]? = cs[q]? := fun q hq => by rw [List.getElem?_toArray, List.getElem?_append_left hq]
  obtain ⟨a1, a2, v, a3⟩ := h3 j x hj
  exact ⟨by rw [zz _ (by omega)]; exact a1, by rw [zz _ (by omega)]; exact a2, v, by rw [zz _ (by omega)]; exact a3, fun hh => by omega⟩
theorem CpS.next {w0 w w1 : World} {g cap i : Nat} {l : List SE} {x : SE} {v : Value} (h : CpS w0 w g cap l i) (hx : l[i]? = some x) (hB : Below w0.heap.size w0 w) (hb : Below w.heap.size w w1) (hR : (Kd.int .u8).R 5 w1 w.heap.size (fun _ => True) v x.f2) :
    CpS w0 (w1.setCell ⟨g, 3 * i + 2, none⟩ v) g cap l (i + 1) := by
  obtain ⟨cur, h1, h2, h3, h4, h5, h6⟩ := h
  have hil := (List.getElem?_eq_some_iff.1 hx).1
  have hgl := blk_lt h1
  refine ⟨_, blk_set (blk_below h1 hb) _ _, by rw [Array.size_setIfInBounds]; exact h2, h3, h4, h5, fun j y hj => ?_⟩
  obtain ⟨a1, a2, u, a3, a4⟩ := h6 j y hj
  refine ⟨by rw [Array.getElem?_setIfInBounds_ne (by omega)]; exact a1, by rw [Array.getElem?_setIfInBounds_ne (by omega)]; exact a2, ?_⟩
  by_cases e : j = i
  · subst e
    rw [hx] at hj
    cases hj
    refine ⟨v, by rw [Array.getElem?_setIfInBounds_self_of_lt (by omega)], fun _ => ?_⟩
    exact Kd.R_far (Kd.R_lower (Kd.R_mono (Kd.R_bound hR) (fun k hk => (show k ≠ g by have := hk.2.1; omega))) hB.size) (fun k hk => hk) _
  · exact ⟨u, by rw [Array.getElem?_setIfInBounds_ne (by omega)]; exact a3, fun hh => Kd.R_far (Kd.R_below (a4 (by omega)) hb) (fun k hk => hk) _⟩
theorem CpS_old {w0 w : World} {g cap i : Nat} {l : List SE} (h : CpS w0 w g cap l i) : w0.heap.size ≤ g := by
  obtain ⟨_, _, _, _, _, h5, _⟩ := h
  exact h5
theorem CpS.done {w0 W : World} {g cap : Nat} {l : List SE} (h : CpS w0 W g cap l l.length) : KE.R 78 W w0.heap.size (fun _ => True) (.slice (some ⟨g, 0, none⟩) l.length cap) l := by
  obtain ⟨cur, h1, h2, h3, h4, h5, h6⟩ := h
  have hcl : cur.toList.length = cap * 3 := by simpa using h2
  have hlen : (cur.toList.take (l.length * 3)).length = l.length * 3 := by rw [List.length_take, hcl]; omega
  refine ⟨fun _ _ => trivial, cur.toList.take (l.length * 3), ⟨hlen, .inr ⟨g, cap, cur, rfl, h5, h1, h3, h4, h2, rfl⟩⟩, hlen, fun j x hj => ?_⟩
  have hjl := (List.getElem?_eq_some_iff.1 hj).1
  obtain ⟨a1, a2, v, a3, a4⟩ := h6 j x hj
  have e : ((cur.toList.take (l.length * 3)).drop (j * 3)).take 3 = [.int .u64 x.f0, .int .u64 x.f1, v] := by
    apply List.ext_getElem?
    intro q
    rw [List.getElem?_take]
    by_cases hq : q < 3
    · rw [if_pos hq, List.getElem?_drop, List.getElem?_take, if_pos (by omega), Array.getElem?_toList, Nat.mul_comm j 3]
      match q, hq with
      | 0, _ => exact a1
      | 1, _ => exact a2
      | 2, _ => exact a3
    · rw [if_neg hq, List.getElem?_eq_none (by simp; omega)]
  show KE.M W w0.heap.size _ x (((cur.toList.take (l.length * 3)).drop (j * 3)).take 3)
  rw [e]
  exact k78_mkM W w0.heap.size _ x (Kd.R_mono (a4 hjl) (fun k hk => ⟨trivial, fun e => hk (by simp [Value.ownBlock] at e; exact e)⟩))
set_option maxHeartbeats 8000000 in
set_option maxRecDepth 100000 in
theorem chain_copied.calls (A0 : Option Addr) (c0 : Nat) (l0 : List SE) (w : World) (hr0 : KE.C w A0 l0.length l0) (hc0 : l0.length ≤ c0) (hn : l0.length ≤ 100000) (hbd : ∀ x ∈ l0, x.f2.length ≤ 1000000) :
    Calls Try.prog 66 #[.slice A0 l0.length c0] w fun e w' => ∃ v, e = .returned v ∧ KE.R 78 w' w.heap.size (fun _ => True) v l0 ∧ Below w.heap.size w w' := by
  have hu := Try.underlying78
  have inf := Aside0.mk (show (Try.prog.info? 78).map (fun i => (i.zero, i.size, i.bytes)) = some (some (.agg #[.int .u64 0, .int .u64 0, .slice none 0 0]), 3, 40) by kernel_rfl)
  have HR := Aside0.mk hr0
  have HC := Aside0.mk hc0
  have HN := Aside0.mk hn
  have HD := Aside0.mk hbd
  have HB := Aside0.mk (Below.refl w.heap.size w)
  clear hr0 hc0 hn hbd
  go_enter Try.func66, Try.ntmps66
  go_wp2_with (first
    | ((with_reducible refine gate_dst (N := 7) rfl ?_); refine Kd.R_make KE _ 78 rfl (N := 7) rfl 72 _ _ rfl (l0.length : Int) rfl rfl Try.underlying72 (.agg #[.int .u64 0, .int .u64 0, .slice none 0 0]) 40 inf.out rfl (by decide) (by omega) z78 (ok := fun _ => True) (okp := fun _ => True) (k78_mkM _ _ _ z78 (Kd.R_nil _ _ _ _ _)) (fun _ hk => hk) trivial (by omega) (by have := HN.out; omega) (Below.refl _ _) (Nat.le_refl _) ?_; intro v7 w7 ho8 hb hg_ hnew_; clear hg_; have HO := Aside0.mk ho8; have HB7 := Aside0.mk (below_step HB.out hb); have HV := Aside0.mk hnew_; clear hb ho8 hnew_
       have HG : Aside0 (∃ g cap cur, v7 = .slice (some ⟨g, 0, none⟩) l0.length cap ∧ w.heap.size ≤ g ∧ w7.heap[g]? = some (.cells cur 78 (0, 0)) ∧ l0.length ≤ cap ∧ cap ≤ maxLen ∧ cur.size = cap * 3) := ⟨by
         obtain ⟨inner, how⟩ := Kd.R_own HO.out
         obtain ⟨b, hb1, hb2⟩ := HV.out
         rw [List.length_replicate, Int.toNat_natCast] at how
         rcases how.2 with ⟨rfl, _⟩ | ⟨g, cap, cur, rfl, h1, h2, h3, h4, h5, _⟩
         · simp [Value.ownBlock] at hb1
         · exact ⟨g, cap, cur, rfl, h1, h2, h3, h4, h5⟩⟩
       obtain ⟨g, cap, cur, rfl, hg1, hg2, hg3, hg4, hg5⟩ := HG.out
       have HG1 := Aside0.mk hg1
       have HG2 := Aside0.mk hg2
       have HG3 := Aside0.mk hg3
       have HG4 := Aside0.mk hg4
       have HG5 := Aside0.mk hg5
       clear hg1 hg2 hg3 hg4 hg5 HG HO HV)
    | ((with_reducible refine gate_builtin (b := .copy) (xs := #[.tmp 8, .tmp 9]) rfl ?_); refine copied_step (w0 := w) rfl (.tmp 8) (.tmp 9) rfl (g := g) (cap := cap) (c1 := c0) (A := A0) (l := l0) (cur := cur) rfl rfl HG2.out HG5.out HG3.out HG4.out HG1.out (Kd.C_below HR.out HB7.out) HB7.out ?_; intro w8 hcp hb8; have HCP := Aside0.mk hcp; have HB8 := Aside0.mk hb8; clear hcp hb8))
  go_loopg [13] l0.length (fun kq v13 wr => ∃ i : Int, v13 = .int .i64 i ∧ Aside0 (0 ≤ i ∧ i + kq = l0.length) ∧ Aside0 (CpS w wr g cap l0 i.toNat) ∧ Aside0 (Below w.heap.size w wr))
  case atStart => exact ⟨0, rfl, ⟨by omega⟩, HCP, HB8⟩
  case round =>
    clear HB HB7 HB8 HCP HG1 HG2 HG5
    obtain ⟨i, rfl, HI, HCP, HB⟩ := hrel
    by_cases hlt : i < (l0.length : Int)
    · have hd : decide (i < (l0.length : Int)) = true := decide_eq_true hlt
      have hi0 : 0 ≤ i := HI.out.1
      obtain ⟨x, hx⟩ : ∃ x, l0[i.toNat]? = some x := ⟨l0[i.toNat]'(by omega), List.getElem?_eq_getElem (by omega)⟩
      have HX := Aside0.mk hx
      have hrd : rd_T78 l0 i = x := by unfold rd_T78; rw [List.getD_eq_getElem?_getD, hx]; rfl
      obtain ⟨ad, A2, c2, e1, _, _, hx2, hl2, hC2⟩ := at_T78 HR.out i hi0 hlt
      subst e1
      rw [hrd] at hx2 hl2 hC2
      replace hx2 := (HB.out.cell (World.block_lt_of_cell? w _ hx2)).trans hx2
      have HCL := Aside0.mk (clone_calls A2 c2 x.f2 wr (Kd.C_below hC2 HB.out) (by have := HD.out x (List.mem_of_getElem? hx); omega))
      have HLT := Aside0.mk hlt
      clear hC2 hl2 hx hrd
      have p1 := eq_true hi0
      have p2 := eq_true hlt
      clear hi0 hlt
      go_wp2_with (go_at_call 51; refine HCL.out.mono ?_; rintro e w1 ⟨vB, rfl, hRB, hbB⟩; have HRB := Aside0.mk hRB; have HBB := Aside0.mk hbB; clear hRB hbB; obtain ⟨AB, cB, eB⟩ := Kd.R_slice HRB.out; subst eB; obtain ⟨cu, hcu1, hcu2⟩ : ∃ cu : Array Value, w1.heap[g]? = some (.cells cu 78 (0, 0)) ∧ cu.size = cap * 3 := (by obtain ⟨cu, h1, h2, _⟩ := HCP.out; exact ⟨cu, blk_below h1 HBB.out, h2⟩); have zf := blk_frozen hcu1 (i.toNat * 3 + 2); obtain ⟨old, hold⟩ : ∃ old, w1.cell? ⟨g, i.toNat * 3 + 2, none⟩ = some old := (by rw [blk_cell hcu1]; exact ⟨_, Array.getElem?_eq_getElem (by have := HI.out; have := HG3.out; have := HLT.out; omega)⟩); clear hcu1 hcu2)
      go_roundg (gk - 1)
      case measure => have := HI.out; have := HLT.out; omega
      case rel =>
        have hw : wrap64 (i + 1) = i + 1 := by have := HN.out; have := HI.out; have := HLT.out; unfold wrap64; omega
        refine ⟨wrap64 (i + 1), by first | rfl | (simp; done), ⟨by have := HI.out; have := HLT.out; omega⟩, ⟨?_⟩, ⟨below_set (below_step HB.out HBB.out) (CpS_old HCP.out)⟩⟩
        rw [hw, show (i + 1).toNat = i.toNat + 1 by have := HI.out; omega, Nat.mul_comm]
        exact CpS.next HCP.out HX.out HB.out HBB.out HRB.out
    · have hd : decide (i < (l0.length : Int)) = false := decide_eq_false hlt
      have HE : Aside0 (i.toNat = l0.length) := ⟨by have := HI.out; omega⟩
      clear hlt
      go_wp2
      go_ret
      exact ⟨_, rfl, by have := HCP.out; rw [HE.out] at this; exact this.done, HB.out⟩

/-! ### chain_Chain_Floor: function 44 (by hand) -/
/-- What a chain in order has: its entries' indexes are in a row, and in bounds. -/
structure Row (ix : Int) (xs : List SE) : Prop where
  at_ : ∀ (j : Nat) x, xs[j]? = some x → x.f0 = ix + 1 + j
  lo : 0 ≤ ix
  hi : ix + xs.length < 18446744073709551616
  few : xs.length ≤ 100000
  small : ∀ x ∈ xs, x.f2.length ≤ 1000000
/-- A chain in block g. -/
def Ch (W : World) (g : Nat) (ix tm : Int) (xs : List SE) : Prop := Row ix xs ∧ ∃ A c, W.heap[g]? = some (.cells #[.int .u64 ix, .int .u64 tm, .slice A xs.length c] 121 (0, 0)) ∧ xs.length ≤ c ∧ KE.C W A xs.length xs
theorem Ch.below {W W' : World} {g : Nat} {ix tm : Int} {xs : List SE} (h : Ch W g ix tm xs) (hb : Below W.heap.size W W') : Ch W' g ix tm xs := by
  obtain ⟨h0, A, c, h1, h2, h3⟩ := h
  exact ⟨h0, A, c, blk_below h1 hb, h2, Kd.C_below h3 hb⟩
def lastT (tm : Int) (xs : List SE) : Int := if xs.length = 0 then tm else (rd_T78 xs (xs.length - 1)).f1
theorem rd_some {xs : List SE} {i : Int} (h0 : 0 ≤ i) (h1 : i < (xs.length : Int)) : xs[i.toNat]? = some (rd_T78 xs i) := by
  unfold rd_T78
  rw [List.getD_eq_getElem?_getD, List.getElem?_eq_getElem (by omega)]
  rfl
theorem rd_f0 {ix : Int} {xs : List SE} (h : Row ix xs) {i : Int} (h0 : 0 ≤ i) (h1 : i < (xs.length : Int)) : (rd_T78 xs i).f0 = ix + 1 + i := by
  have := h.at_ i.toNat _ (rd_some h0 h1)
  omega
set_option maxHeartbeats 8000000 in
set_option maxRecDepth 100000 in
theorem chain_floor (W : World) (g : Nat) (ix tm : Int) (xs : List SE) (h : Ch W g ix tm xs) : Calls Try.prog 44 #[.pointer (some ⟨g, 0, none⟩)] W fun e w' => e = .returned (.tuple #[.int .u64 ix, .int .u64 tm]) ∧ Below W.heap.size W w' := by
  have hu := Try.underlying121
  obtain ⟨_, A, c, h1, _, _⟩ := h
  have z0 : W.cell? ⟨g, 0, none⟩ = some (.int .u64 ix) := (blk_cell h1 0).trans rfl
  have z1 : W.cell? ⟨g, 1, none⟩ = some (.int .u64 tm) := (blk_cell h1 1).trans rfl
  have HB := Aside0.mk (Below.refl W.heap.size W)
  clear h1
  go_enter Try.func44, Try.ntmps44
  go_wp2
  repeat (go_quiet (fail); try go_wp2)
  go_ret2
  exact ⟨rfl, by repeat (first | (with_reducible first | exact HB.out | apply below_alloc | apply pw_below_drewN | apply below_drew1) | exact HB.out)⟩
set_option maxHeartbeats 8000000 in
set_option maxRecDepth 100000 in
theorem chain_len (W : World) (g : Nat) (ix tm : Int) (xs : List SE) (h : Ch W g ix tm xs) : Calls Try.prog 48 #[.pointer (some ⟨g, 0, none⟩)] W fun e w' => e = .returned (.int .i64 xs.length) ∧ Below W.heap.size W w' := by
  have hu := Try.underlying121
  obtain ⟨_, A, c, h1, _, _⟩ := h
  have z0 : W.cell? ⟨g, 2, none⟩ = some (.slice A xs.length c) := (blk_cell h1 2).trans rfl
  have HB := Aside0.mk (Below.refl W.heap.size W)
  clear h1
  go_enter Try.func48, Try.ntmps48
  go_wp2
  go_ret
  exact ⟨rfl, HB.out⟩

/-! ### chain_Chain_Len: function 48 (by hand) -/
/-! Its contract stands in the text of (*jobber/chain.Chain).Floor. -/

/-! ### chain_Chain_Last: function 45 (by hand) -/
/-- What is read of an entry, wherever the world went. -/
theorem Ch.facts {W : World} {g : Nat} {ix tm : Int} {xs : List SE} (h : Ch W g ix tm xs) {i : Int} (h0 : 0 ≤ i) (h1 : i < (xs.length : Int)) : ∃ ad c A2 c2, W.cell? ⟨g, 2, none⟩ = some (.slice (some ad) xs.length c) ∧ W.cell? (ad.add (i.toNat * 3)) = some (.int .u64 (ix + 1 + i)) ∧ W.cell? ⟨(ad.add (i.toNat * 3)).block, (ad.add (i.toNat * 3)).off + 1, none⟩ = some (.int .u64 (rd_T78 xs i).f1) ∧ W.cell? ⟨(ad.add (i.toNat * 3)).block, (ad.add (i.toNat * 3)).off + 2, none⟩ = some (.slice A2 (rd_T78 xs i).f2.length c2) ∧ (rd_T78 xs i).f2.length ≤ c2 ∧ (Kd.int .u8).C W A2 (rd_T78 xs i).f2.length (rd_T78 xs i).f2 := by
  obtain ⟨hr, A, c, hb, hc, hC⟩ := h
  obtain ⟨ad, A2, c2, e1, x0, x1, x2, hl, hC2⟩ := at_T78 hC i h0 h1
  subst e1
  rw [rd_f0 hr h0 h1] at x0
  exact ⟨ad, c, A2, c2, (blk_cell hb 2).trans rfl, x0, x1, x2, hl, hC2⟩
theorem Ch.row {W : World} {g : Nat} {ix tm : Int} {xs : List SE} (h : Ch W g ix tm xs) : Row ix xs := h.1
set_option maxHeartbeats 8000000 in
set_option maxRecDepth 100000 in
theorem chain_last (W : World) (g : Nat) (ix tm : Int) (xs : List SE) (h : Ch W g ix tm xs) : Calls Try.prog 45 #[.pointer (some ⟨g, 0, none⟩)] W fun e w' => e = .returned (.tuple #[.int .u64 (ix + xs.length), .int .u64 (lastT tm xs)]) ∧ Below W.heap.size W w' := by
  have hu := Try.underlying121
  have hu2 := Try.underlying78
  have HL := Aside0.mk (chain_len W g ix tm xs h)
  have H := Aside0.mk h
  clear h
  by_cases hz : xs.length = 0
  · have hd : ((xs.length : Int) == 0) = true := by simp [hz]
    have HZ := Aside0.mk hz
    clear hz
    go_enter Try.func45, Try.ntmps45
    go_wp2_with (first | (go_at_call 48; refine HL.out.mono ?_; rintro e w1 ⟨rfl, hb⟩; have HB1 := Aside0.mk hb; clear hb) | (go_at_call 44; refine (chain_floor _ g ix tm xs (H.out.below HB1.out)).mono ?_; rintro e w2 ⟨rfl, hb⟩; have HB2 := Aside0.mk (below_step HB1.out hb); clear hb))
    go_ret2
    exact ⟨by unfold lastT; rw [if_pos HZ.out, HZ.out]; simp, HB2.out⟩
  · have hd : ((xs.length : Int) == 0) = false := beq_eq_false_iff_ne.mpr (by omega)
    have HZ := Aside0.mk hz
    have HN := Aside0.mk H.out.row.few
    obtain ⟨n, hn⟩ : ∃ n : Int, (xs.length : Int) - 1 = n := ⟨_, rfl⟩
    have HE := Aside0.mk hn
    have hw : wrap64 ((xs.length : Int) - 1) = n := by have := HN.out; unfold wrap64; omega
    have hw' : IntKind.i64.wrap ((xs.length : Int) - 1) = n := by rw [IntKind.wrap_i64]; have := HN.out; omega
    have p1 : (0 ≤ n) = True := eq_true (by omega)
    have p2 : (n < (xs.length : Int)) = True := eq_true (by omega)
    clear hz hn
    go_enter Try.func45, Try.ntmps45
    go_wp2_with (go_at_call 48; refine HL.out.mono ?_; rintro e w1 ⟨rfl, hb⟩; have HB1 := Aside0.mk hb; obtain ⟨ad, c, A2, c2, z2, x0, x1, x2, _, _⟩ := (H.out.below hb).facts (of_eq_true p1) (of_eq_true p2); clear hb x2)
    repeat (go_quiet (fail); try go_wp2)
    go_ret2
    exact ⟨by unfold lastT; rw [if_neg HZ.out, HE.out, show ix + xs.length = ix + 1 + n by have := HE.out; omega]; rfl, by repeat (first | (with_reducible first | exact HB1.out | apply below_alloc | apply pw_below_drewN | apply below_drew1) | exact HB1.out)⟩

/-! ### chain_Chain_at: function 67 (by hand) -/
/-- Has a chain an entry of that index? -/
def hasE (ix : Int) (xs : List SE) (i : Int) : Prop := ix < i ∧ i ≤ ix + xs.length
instance (ix : Int) (xs : List SE) (i : Int) : Decidable (hasE ix xs i) := by unfold hasE; infer_instance
set_option maxHeartbeats 8000000 in
set_option maxRecDepth 100000 in
theorem chain_at (W : World) (g : Nat) (ix tm : Int) (xs : List SE) (h : Ch W g ix tm xs) (i : Int) (hi : 0 ≤ i ∧ i < 18446744073709551616) : Calls Try.prog 67 #[.pointer (some ⟨g, 0, none⟩), .int .u64 i] W fun e w' => e = .returned (.tuple #[.int .i64 (if hasE ix xs i then i - ix - 1 else 0), .bool (decide (hasE ix xs i))]) ∧ Below W.heap.size W w' := by
  have hu := Try.underlying121
  have HL := Aside0.mk (chain_last W g ix tm xs h)
  have H := Aside0.mk h
  have HR := Aside0.mk h.row
  have HI := Aside0.mk hi
  generalize hrr : (if hasE ix xs i then i - ix - 1 else 0) = r
  generalize hbb : decide (hasE ix xs i) = b
  clear h hi
  by_cases c1 : i ≤ ix
  · have d1 : decide (i ≤ ix) = true := decide_eq_true c1
    have HN : Aside0 (¬ hasE ix xs i) := ⟨fun h => by unfold hasE at h; omega⟩
    rw [if_neg HN.out] at hrr; rw [decide_eq_false HN.out] at hbb; subst hrr; subst hbb
    clear c1
    go_enter Try.func67, Try.ntmps67
    go_wp2_with (go_at_call 45; refine HL.out.mono ?_; rintro e w1 ⟨rfl, hb⟩; have HB1 := Aside0.mk hb; obtain ⟨A, c, hblk, _, _⟩ := (H.out.below hb).2; have z0 : w1.cell? ⟨g, 0, none⟩ = some (.int .u64 ix) := (blk_cell hblk 0).trans rfl; clear hb hblk)
    repeat (go_quiet (fail); try go_wp2)
    go_ret2
    exact ⟨rfl, by repeat (first | (with_reducible first | exact HB1.out | apply below_alloc | apply pw_below_drewN | apply below_drew1) | exact HB1.out)⟩
  · have d1 : decide (i ≤ ix) = false := decide_eq_false c1
    by_cases c2 : i > ix + xs.length
    · have d2 : decide (i > ix + xs.length) = true := decide_eq_true c2
      have HN : Aside0 (¬ hasE ix xs i) := ⟨fun h => by unfold hasE at h; omega⟩
      rw [if_neg HN.out] at hrr; rw [decide_eq_false HN.out] at hbb; subst hrr; subst hbb
      clear c1 c2
      go_enter Try.func67, Try.ntmps67
      go_wp2_with (go_at_call 45; refine HL.out.mono ?_; rintro e w1 ⟨rfl, hb⟩; have HB1 := Aside0.mk hb; obtain ⟨A, c, hblk, _, _⟩ := (H.out.below hb).2; have z0 : w1.cell? ⟨g, 0, none⟩ = some (.int .u64 ix) := (blk_cell hblk 0).trans rfl; clear hb hblk)
      repeat (go_quiet (fail); try go_wp2)
      go_ret2
      exact ⟨rfl, by repeat (first | (with_reducible first | exact HB1.out | apply below_alloc | apply pw_below_drewN | apply below_drew1) | exact HB1.out)⟩
    · have d2 : decide (i > ix + xs.length) = false := decide_eq_false c2
      have HN : Aside0 (hasE ix xs i) := ⟨by unfold hasE; omega⟩
      rw [if_pos HN.out] at hrr; rw [decide_eq_true HN.out] at hbb; subst hrr; subst hbb
      have e1 : IntKind.u64.wrap (i - ix) = i - ix := by rw [IntKind.wrap_u64]; have := HI.out; have := HR.out.lo; omega
      have e2 : IntKind.u64.wrap (i - ix - 1) = i - ix - 1 := by rw [IntKind.wrap_u64]; have := HI.out; have := HR.out.lo; omega
      have e3 : IntKind.i64.wrap (i - ix - 1) = i - ix - 1 := by rw [IntKind.wrap_i64]; have := HR.out.few; omega
      have e4 : wrap64 (i - ix - 1) = i - ix - 1 := by have := HR.out.few; unfold wrap64; omega
      clear c1 c2
      go_enter Try.func67, Try.ntmps67
      go_wp2_with (go_at_call 45; refine HL.out.mono ?_; rintro e w1 ⟨rfl, hb⟩; have HB1 := Aside0.mk hb; obtain ⟨A, c, hblk, _, _⟩ := (H.out.below hb).2; have z0 : w1.cell? ⟨g, 0, none⟩ = some (.int .u64 ix) := (blk_cell hblk 0).trans rfl; clear hb hblk)
      repeat (go_quiet (fail); try go_wp2)
      go_ret2
      exact ⟨rfl, by repeat (first | (with_reducible first | exact HB1.out | apply below_alloc | apply pw_below_drewN | apply below_drew1) | exact HB1.out)⟩

/-! ### chain_Chain_Term: function 46 (by hand) -/
def termF (ix tm : Int) (xs : List SE) (i : Int) : Int × Bool := if i = ix then (tm, true) else if hasE ix xs i then ((rd_T78 xs (i - ix - 1)).f1, true) else (0, false)
theorem Ch.blk {W : World} {g : Nat} {ix tm : Int} {xs : List SE} (h : Ch W g ix tm xs) : ∃ A c, W.cell? ⟨g, 0, none⟩ = some (.int .u64 ix) ∧ W.cell? ⟨g, 1, none⟩ = some (.int .u64 tm) ∧ W.cell? ⟨g, 2, none⟩ = some (.slice A xs.length c) ∧ xs.length ≤ c ∧ KE.C W A xs.length xs := by
  obtain ⟨_, A, c, hb, hc, hC⟩ := h
  exact ⟨A, c, (blk_cell hb 0).trans rfl, (blk_cell hb 1).trans rfl, (blk_cell hb 2).trans rfl, hc, hC⟩
set_option maxHeartbeats 8000000 in
set_option maxRecDepth 100000 in
theorem chain_term (W : World) (g : Nat) (ix tm : Int) (xs : List SE) (h : Ch W g ix tm xs) (i : Int) (hi : 0 ≤ i ∧ i < 18446744073709551616) (r : Int) (b : Bool) (hr : termF ix tm xs i = (r, b)) : Calls Try.prog 46 #[.pointer (some ⟨g, 0, none⟩), .int .u64 i] W fun e w' => e = .returned (.tuple #[.int .u64 r, .bool b]) ∧ Below W.heap.size W w' := by
  have hu := Try.underlying121
  have hu2 := Try.underlying78
  have HA := Aside0.mk (chain_at W g ix tm xs h i hi)
  have H := Aside0.mk h
  have HB := Aside0.mk (Below.refl W.heap.size W)
  obtain ⟨A, c, z0, z1, _, _, _⟩ := h.blk
  clear h hi
  unfold termF at hr
  by_cases c1 : i = ix
  · rw [if_pos c1] at hr
    injection hr with hr hb
    subst hr
    subst hb
    have d1 : (i == ix) = true := beq_iff_eq.mpr c1
    clear c1
    go_enter Try.func46, Try.ntmps46
    go_wp2
    repeat (go_quiet (fail); try go_wp2)
    go_ret2
    exact ⟨rfl, by repeat (first | (with_reducible first | exact HB.out | apply below_alloc | apply pw_below_drewN | apply below_drew1) | exact HB.out)⟩
  · rw [if_neg c1] at hr
    have d1 : (i == ix) = false := beq_eq_false_iff_ne.mpr c1
    clear c1
    by_cases c2 : hasE ix xs i
    · rw [if_pos c2] at hr
      rw [if_pos c2, decide_eq_true c2] at HA
      injection hr with hr hb
      subst hr
      subst hb
      obtain ⟨n, hn⟩ : ∃ n : Int, i - ix - 1 = n := ⟨_, rfl⟩
      rw [hn] at HA ⊢
      have p1 : (0 ≤ n) = True := eq_true (by unfold hasE at c2; omega)
      have p2 : (n < (xs.length : Int)) = True := eq_true (by unfold hasE at c2; omega)
      clear c2 hn
      go_enter Try.func46, Try.ntmps46
      go_wp2_with (go_at_call 67; refine HA.out.mono ?_; rintro e w1 ⟨rfl, hb⟩; have HB1 := Aside0.mk hb; obtain ⟨ad, c, A2, c2, z2, x0, x1, x2, _, _⟩ := (H.out.below hb).facts (of_eq_true p1) (of_eq_true p2); clear hb x2)
      repeat (go_quiet (fail); try go_wp2)
      go_ret2
      exact ⟨rfl, by repeat (first | (with_reducible first | exact HB1.out | apply below_alloc | apply pw_below_drewN | apply below_drew1) | exact HB1.out)⟩
    · rw [if_neg c2] at hr
      rw [if_neg c2, decide_eq_false c2] at HA
      injection hr with hr hb
      subst hr
      subst hb
      clear c2
      go_enter Try.func46, Try.ntmps46
      go_wp2_with (go_at_call 67; refine HA.out.mono ?_; rintro e w1 ⟨rfl, hb⟩; have HB1 := Aside0.mk hb; clear hb)
      repeat (go_quiet (fail); try go_wp2)
      go_ret2
      exact ⟨rfl, by repeat (first | (with_reducible first | exact HB1.out | apply below_alloc | apply pw_below_drewN | apply below_drew1) | exact HB1.out)⟩

/-! ### chain_Chain_Newer: function 28 (by hand) -/
def newerF (ix tm : Int) (xs : List SE) (i t : Int) : Bool := if t > lastT tm xs then true else if t = lastT tm xs then decide (i ≥ ix + xs.length) else false
set_option maxHeartbeats 8000000 in
set_option maxRecDepth 100000 in
theorem chain_newer (W : World) (g : Nat) (ix tm : Int) (xs : List SE) (h : Ch W g ix tm xs) (i t : Int) (b : Bool) (hr : newerF ix tm xs i t = b) : Calls Try.prog 28 #[.pointer (some ⟨g, 0, none⟩), .int .u64 i, .int .u64 t] W fun e w' => e = .returned (.bool b) ∧ Below W.heap.size W w' := by
  have HL := Aside0.mk (chain_last W g ix tm xs h)
  clear h
  unfold newerF at hr
  by_cases c1 : t > lastT tm xs
  · rw [if_pos c1] at hr
    subst hr
    have d1 : decide (t > lastT tm xs) = true := decide_eq_true c1
    clear c1
    go_enter Try.func28, Try.ntmps28
    go_wp2_with (go_at_call 45; refine HL.out.mono ?_; rintro e w1 ⟨rfl, hb⟩; have HB1 := Aside0.mk hb; clear hb)
    repeat (go_quiet (fail); try go_wp2)
    go_ret
    exact ⟨rfl, by repeat (first | (with_reducible first | exact HB1.out | apply below_alloc | apply pw_below_drewN | apply below_drew1) | exact HB1.out)⟩
  · rw [if_neg c1] at hr
    have d1 : decide (t > lastT tm xs) = false := decide_eq_false c1
    clear c1
    by_cases c2 : t = lastT tm xs
    · rw [if_pos c2] at hr
      have d2 : (t == lastT tm xs) = true := beq_iff_eq.mpr c2
      clear c2
      go_enter Try.func28, Try.ntmps28
      go_wp2_with (go_at_call 45; refine HL.out.mono ?_; rintro e w1 ⟨rfl, hb⟩; have HB1 := Aside0.mk hb; clear hb)
      repeat (go_quiet (fail); try go_wp2)
      go_ret
      exact ⟨by first | rfl | (rw [← hr]; rfl), by repeat (first | (with_reducible first | exact HB1.out | apply below_alloc | apply pw_below_drewN | apply below_drew1) | exact HB1.out)⟩
    · rw [if_neg c2] at hr
      subst hr
      have d2 : (t == lastT tm xs) = false := beq_eq_false_iff_ne.mpr c2
      clear c2
      go_enter Try.func28, Try.ntmps28
      go_wp2_with (go_at_call 45; refine HL.out.mono ?_; rintro e w1 ⟨rfl, hb⟩; have HB1 := Aside0.mk hb; clear hb)
      repeat (go_quiet (fail); try go_wp2)
      go_ret
      exact ⟨rfl, by repeat (first | (with_reducible first | exact HB1.out | apply below_alloc | apply pw_below_drewN | apply below_drew1) | exact HB1.out)⟩

/-! ### chain_Chain_Entry: function 34 (by hand) -/
theorem Ch.facts2 {W W' : World} {g : Nat} {ix tm : Int} {xs : List SE} (h : Ch W g ix tm xs) (hb : Below W.heap.size W W') {n : Int} (p1 : (0 ≤ n) = True) (p2 : (n < (xs.length : Int)) = True) : ∃ ad c A2 c2, W'.cell? ⟨g, 2, none⟩ = some (.slice (some ad) xs.length c) ∧ W'.cell? (ad.add (n.toNat * 3)) = some (.int .u64 (rd_T78 xs n).f0) ∧ W'.cell? ⟨(ad.add (n.toNat * 3)).block, (ad.add (n.toNat * 3)).off + 1, none⟩ = some (.int .u64 (rd_T78 xs n).f1) ∧ W'.cell? ⟨(ad.add (n.toNat * 3)).block, (ad.add (n.toNat * 3)).off + 2, none⟩ = some (.slice A2 (rd_T78 xs n).f2.length c2) ∧ (rd_T78 xs n).f2.length ≤ c2 ∧ (Kd.int .u8).C W' A2 (rd_T78 xs n).f2.length (rd_T78 xs n).f2 := by
  obtain ⟨ad, c, A2, c2, z2, x0, x1, x2, l, C⟩ := (h.below hb).facts (of_eq_true p1) (of_eq_true p2)
  rw [← rd_f0 h.row (of_eq_true p1) (of_eq_true p2)] at x0
  exact ⟨ad, c, A2, c2, z2, x0, x1, x2, l, C⟩
def entryF (ix : Int) (xs : List SE) (i : Int) : SE × Bool := if hasE ix xs i then (rd_T78 xs (i - ix - 1), true) else (z78, false)
set_option maxHeartbeats 8000000 in
set_option maxRecDepth 100000 in
theorem chain_entry (W : World) (g : Nat) (ix tm : Int) (xs : List SE) (h : Ch W g ix tm xs) (i : Int) (hi : 0 ≤ i ∧ i < 18446744073709551616) (r : SE) (b : Bool) (hr : entryF ix xs i = (r, b)) : Calls Try.prog 34 #[.pointer (some ⟨g, 0, none⟩), .int .u64 i] W fun e w' => ∃ v, e = .returned (.tuple #[.agg #[.int .u64 r.f0, .int .u64 r.f1, v], .bool b]) ∧ (Kd.int .u8).R 5 w' W.heap.size (fun _ => True) v r.f2 ∧ Below W.heap.size W w' := by
  have hu := Try.underlying121
  have hu2 := Try.underlying78
  have H := Aside0.mk h
  have HA : Aside0 (∀ W', Below W.heap.size W W' → Calls Try.prog 67 #[.pointer (some ⟨g, 0, none⟩), .int .u64 i] W' fun e w' => e = .returned (.tuple #[.int .i64 (if hasE ix xs i then i - ix - 1 else 0), .bool (decide (hasE ix xs i))]) ∧ Below W'.heap.size W' w') := ⟨fun W' hb => chain_at W' g ix tm xs (h.below hb) i hi⟩
  clear h hi
  unfold entryF at hr
  by_cases c2 : hasE ix xs i
  · rw [if_pos c2] at hr
    rw [if_pos c2, decide_eq_true c2] at HA
    obtain ⟨n, hn⟩ : ∃ n : Int, i - ix - 1 = n := ⟨_, rfl⟩
    rw [hn] at HA hr
    injection hr with hr hb
    subst hr
    subst hb
    have p1 : (0 ≤ n) = True := eq_true (by unfold hasE at c2; omega)
    have p2 : (n < (xs.length : Int)) = True := eq_true (by unfold hasE at c2; omega)
    have HS : Aside0 ((rd_T78 xs n).f2.length ≤ 1000000) := ⟨H.out.row.small _ (List.mem_of_getElem? (rd_some (of_eq_true p1) (of_eq_true p2)))⟩
    clear c2 hn
    go_enter Try.func34, Try.ntmps34
    go_wp2_with (first
      | ((with_reducible refine gate_dst (N := 4) rfl ?_); refine box_event ?hg (N := 4) ?hd (cs := #[.int .u64 0, .int .u64 0, .slice none 0 0]) (t := 78) ?hr ?_; (case hd => rfl); (case hg => rfl); (case hr => first | (go_simp; done) | (go_simp; rfl)); intro gR hgR w1 hbR hb; have BR := Aside0.mk hbR; have GR := Aside0.mk (Nat.le_of_eq hgR.symm); have HB1 := Aside0.mk hb; clear hbR hgR hb)
      | (go_at_call 67; refine (HA.out _ HB1.out).mono ?_; rintro e w2 ⟨rfl, hb⟩; have HB2 := Aside0.mk (below_step HB1.out hb); have BR2 := Aside0.mk (blk_below BR.out hb); obtain ⟨ad, c, A2, c2, z2, x0, x1, x2, _, hC⟩ := H.out.facts2 HB2.out p1 p2; have HC := Aside0.mk hC; clear hb hC)
      | ((with_reducible refine gate_dst (N := 8) rfl ?_); refine box_event ?hg (N := 8) ?hd (cs := #[.int .u64 0, .int .u64 0, .slice none 0 0]) (t := 78) ?hr ?_; (case hd => rfl); (case hg => rfl); (case hr => first | (go_simp; done) | (go_simp; rfl)); intro gX hgX w3 hbX hb; have BX := Aside0.mk hbX; have GX : Aside0 (w2.heap.size ≤ gX) := ⟨Nat.le_of_eq hgX.symm⟩; have HBX := Aside0.mk hb; have HGX : Aside0 (W.heap.size ≤ gX) := ⟨Nat.le_trans (below_size HB2.out) GX.out⟩; have HNX : Aside0 (gR ≠ gX) := ⟨by have := blk_lt BR2.out; have := GX.out; omega⟩; have HB3 := Aside0.mk (below_step HB2.out hb); have BR3 := Aside0.mk (blk_below BR2.out hb); have HC3 := Aside0.mk (Kd.C_below HC.out hb); have f0 := blk_frozen hbX 0; have f1 := blk_frozen hbX 1; have f2 := blk_frozen hbX 2; have y0 : w3.cell? ⟨gX, 0, none⟩ = some (.int .u64 0) := (blk_cell hbX 0).trans rfl; have y1 : w3.cell? ⟨gX, 1, none⟩ = some (.int .u64 0) := (blk_cell hbX 1).trans rfl; have y2 : w3.cell? ⟨gX, 2, none⟩ = some (.slice none 0 0) := (blk_cell hbX 2).trans rfl; clear hbX hgX hb)
      | (go_at_call 51; refine (clone_calls A2 c2 _ _ (Kd.C_below HC.out (below_set (below_set (below_set HBX.out GX.out) GX.out) GX.out)) (by have := HS.out; omega)).mono ?_; rintro e w6 ⟨vB, rfl, hRB, hbB⟩
         have HRB := Aside0.mk hRB; have HB6 := Aside0.mk (below_step (below_set (below_set (below_set HB3.out HGX.out) HGX.out) HGX.out) hbB)
         have hbX6 : w6.heap[gX]? = some (.cells #[.int .u64 (rd_T78 xs n).f0, .int .u64 (rd_T78 xs n).f1, .slice A2 (rd_T78 xs n).f2.length c2] 78 (0, 0)) := blk_below (blk_put (blk_put (blk_put BX.out 0 _ rfl) 1 _ rfl) 2 _ rfl) hbB
         have hbR6 : w6.heap[gR]? = some (.cells #[.int .u64 0, .int .u64 0, .slice none 0 0] 78 (0, 0)) := blk_below (blk_far (blk_far (blk_far BR3.out HNX.out _) HNX.out _) HNX.out _) hbB
         have BX6 := Aside0.mk hbX6; have BR6 := Aside0.mk hbR6
         have HRX : Aside0 ((Kd.int .u8).R 5 w6 W.heap.size (fun k => k ≠ gX ∧ k ≠ gR) vB (rd_T78 xs n).f2) := ⟨Kd.R_lower (Kd.R_mono (Kd.R_bound hRB) (fun k hk => (show k ≠ gX ∧ k ≠ gR by have h1 := hk.2.1; simp at h1; have h2 := blk_lt BX.out; have h3 := blk_lt BR3.out; omega))) (by simp; exact below_size HB3.out)⟩
         obtain ⟨AB, cB, eB⟩ := Kd.R_slice HRB.out; subst eB
         clear f0 f1 f2 y0 y1 y2 hRB hbB HRB
         have f0 := blk_frozen hbX6 0; have f1 := blk_frozen hbX6 1; have f2 := blk_frozen hbX6 2; have y0 : w6.cell? ⟨gX, 0, none⟩ = some (.int .u64 (rd_T78 xs n).f0) := (blk_cell hbX6 0).trans rfl; have y1 : w6.cell? ⟨gX, 1, none⟩ = some (.int .u64 (rd_T78 xs n).f1) := (blk_cell hbX6 1).trans rfl; have y2 : w6.cell? ⟨gX, 2, none⟩ = some (.slice A2 (rd_T78 xs n).f2.length c2) := (blk_cell hbX6 2).trans rfl
         have e0 := blk_frozen hbR6 0; have e1 := blk_frozen hbR6 1; have e2 := blk_frozen hbR6 2; have q0 : w6.cell? ⟨gR, 0, none⟩ = some (.int .u64 0) := (blk_cell hbR6 0).trans rfl; have q1 : w6.cell? ⟨gR, 1, none⟩ = some (.int .u64 0) := (blk_cell hbR6 1).trans rfl; have q2 : w6.cell? ⟨gR, 2, none⟩ = some (.slice none 0 0) := (blk_cell hbR6 2).trans rfl
         have n1 : gR ≠ gX := HNX.out; have n2 : gX ≠ gR := Ne.symm HNX.out; clear hbX6 hbR6))
    refine bodyPost_ret (results_ct rfl _ _ gR 78 #[.int .u64 (rd_T78 xs n).f0, .int .u64 (rd_T78 xs n).f1, .slice AB (rd_T78 xs n).f2.length cB] (0, 0) _ rfl (blk_put (cs := #[.int .u64 (rd_T78 xs n).f0, .int .u64 (rd_T78 xs n).f1, .slice none 0 0]) (blk_put (cs := #[.int .u64 (rd_T78 xs n).f0, .int .u64 0, .slice none 0 0]) (blk_put (blk_far BR6.out HNX.out _) 0 _ rfl) 1 _ rfl) 2 _ rfl) Try.underlying78 rfl (by kernel_rfl)) rfl ?_
    refine ⟨_, rfl, Kd.R_mono (Kd.R_far (Kd.R_far (Kd.R_far (Kd.R_far HRX.out (fun k hk => hk.1) _) (fun k hk => hk.2) _) (fun k hk => hk.2) _) (fun k hk => hk.2) _) (fun _ _ => trivial), below_set (below_set (below_set (below_set HB6.out HGX.out) GR.out) GR.out) GR.out⟩
  · rw [if_neg c2] at hr
    rw [if_neg c2, decide_eq_false c2] at HA
    injection hr with hr hb
    subst hr
    subst hb
    clear c2
    go_enter Try.func34, Try.ntmps34
    go_wp2_with (first
      | ((with_reducible refine gate_dst (N := 4) rfl ?_); refine box_event ?hg (N := 4) ?hd (cs := #[.int .u64 0, .int .u64 0, .slice none 0 0]) (t := 78) ?hr ?_; (case hd => rfl); (case hg => rfl); (case hr => first | (go_simp; done) | (go_simp; rfl)); intro gR hgR w1 hbR hb; have BR := Aside0.mk hbR; have GR := Aside0.mk (Nat.le_of_eq hgR.symm); have HB1 := Aside0.mk hb; clear hbR hgR hb)
      | (go_at_call 67; refine (HA.out _ HB1.out).mono ?_; rintro e w2 ⟨rfl, hb⟩; have HB2 := Aside0.mk (below_step HB1.out hb); have hbR2 := blk_below BR.out hb; have BR2 := Aside0.mk hbR2; have e0 := blk_frozen hbR2 0; have e1 := blk_frozen hbR2 1; have e2 := blk_frozen hbR2 2; have q0 : w2.cell? ⟨gR, 0, none⟩ = some (.int .u64 0) := (blk_cell hbR2 0).trans rfl; have q1 : w2.cell? ⟨gR, 1, none⟩ = some (.int .u64 0) := (blk_cell hbR2 1).trans rfl; have q2 : w2.cell? ⟨gR, 2, none⟩ = some (.slice none 0 0) := (blk_cell hbR2 2).trans rfl; clear hb hbR2))
    refine bodyPost_ret (results_ct rfl _ _ gR 78 #[.int .u64 0, .int .u64 0, .slice none 0 0] (0, 0) _ rfl (blk_put (cs := #[.int .u64 0, .int .u64 0, .slice none 0 0]) (blk_put (cs := #[.int .u64 0, .int .u64 0, .slice none 0 0]) (blk_put BR2.out 0 _ rfl) 1 _ rfl) 2 _ rfl) Try.underlying78 rfl (by kernel_rfl)) rfl ?_
    exact ⟨_, rfl, Kd.R_nil _ _ _ _ _, below_set (below_set (below_set HB2.out GR.out) GR.out) GR.out⟩

/-! ### chain_stands: function 64 -/
def chain_stands.l0 : Nat → Int → Int → List (S78) → Int → Int → Option (Bool)
  | 0, _, _, _, _, _ => none
  | k + 1, x0, x1, x9, x10, x11 => if x11 < x10 then (if 0 ≤ x11 then (if x11 < (x9.length : Int) then (if ((rd_T78 x9 x11).f0) = 0 then (some false) else (if (IntKind.u64.wrap (((rd_T78 x9 x11).f0) - 1)) = x0 then (if ((rd_T78 x9 x11).f1) < x1 then (some false) else (chain_stands.l0 k ((rd_T78 x9 x11).f0) ((rd_T78 x9 x11).f1) x9 x10 (wrap64 (x11 + 1)))) else (some false))) else (none)) else (none)) else (some true)
def chain_stands.f (k : Nat) (a0 : Int) (a1 : Int) (l2 : List (S78)) : Option (Bool) := chain_stands.l0 k a0 a1 l2 (l2.length : Int) 0
theorem chain_stands.mono_l : ∀ k, (∀ y0 y1 y2 y3 y4, LeO (chain_stands.l0 k y0 y1 y2 y3 y4) (chain_stands.l0 (k + 1) y0 y1 y2 y3 y4))
  | 0 => fun _ _ _ _ _ r h => by simp [chain_stands.l0] at h
  | k + 1 => by
    have ih0 := chain_stands.mono_l k
    · intro y0 y1 y2 y3 y4
      unfold chain_stands.l0
      repeat' first
      | (with_reducible exact ih0 _ _ _ _ _)
      | (with_reducible exact LeO.refl _)
      | (with_reducible exact LeO.none _)
      | (with_reducible refine LeO.ite ?_ ?_)
      | (with_reducible refine LeO.bind ?_ (fun _ => ?_))
      | exact ih0 _ _ _ _ _
      | exact LeO.none _
      | refine LeO.ite ?_ ?_
      | refine LeO.bind ?_ (fun _ => ?_)
theorem chain_stands.mono : ∀ a0 a1 a2 k, LeO (chain_stands.f k a0 a1 a2) (chain_stands.f (k + 1) a0 a1 a2) := by
  intro a0 a1 a2 k
  have ih0 := chain_stands.mono_l k
  unfold chain_stands.f
  repeat' first
      | (with_reducible exact ih0 _ _ _ _ _)
      | (with_reducible exact LeO.refl _)
      | (with_reducible exact LeO.none _)
      | (with_reducible refine LeO.ite ?_ ?_)
      | (with_reducible refine LeO.bind ?_ (fun _ => ?_))
      | exact ih0 _ _ _ _ _
      | exact LeO.none _
      | refine LeO.ite ?_ ?_
      | refine LeO.bind ?_ (fun _ => ?_)
set_option maxHeartbeats 8000000 in
set_option maxRecDepth 100000 in
theorem chain_stands.calls (k : Nat) (a0 : Int) (a1 : Int) (A2 : Option Addr) (c2 : Nat) (l2 : List (S78)) (r : Bool) (w : World) (hr2 : Kd.C k78 w A2 l2.length l2) (hc2 : l2.length ≤ c2) (h : chain_stands.f k a0 a1 l2 = some r) :
    Calls Try.prog 64 #[.int .u64 a0, .int .u64 a1, .slice A2 l2.length c2] w fun e w' => e = .returned (.bool r) ∧ Below w.heap.size w w' := by
  have hu78 := Try.underlying78
  have HR2 := Aside0.mk hr2
  have HC2 := Aside0.mk hc2
  clear hr2 hc2
  have HB := Aside0.mk (Below.refl w.heap.size w)
  have H : (chain_stands.l0 k a0 a1 l2 (l2.length : Int) 0) = some r := h
  clear h
  have H' := Aside0.mk H
  clear H
  go_enter Try.func64, Try.ntmps64
  go_wp2
  repeat (go_quiet (fail); try go_wp2)
  go_loopg [0, 1, 11] k (fun kq v0 v1 v11 w' => ∃ (x0_1 : Int) (x1_1 : Int) (x11_1 : Int), v0 = .int .u64 x0_1 ∧ v1 = .int .u64 x1_1 ∧ v11 = .int .i64 x11_1 ∧ Aside0 (chain_stands.l0 kq x0_1 x1_1 l2 (l2.length : Int) x11_1 = some r) ∧ Aside0 (kq ≤ k) ∧ Aside0 (Below w.heap.size w w'))
  case atStart => exact ⟨(a0), (a1), (0), (by first | rfl | (simp; done) | (simp [*]; done)), (by first | rfl | (simp; done) | (simp [*]; done)), (by first | rfl | (simp; done) | (simp [*]; done)), H', ⟨Nat.le_refl _⟩, ⟨by repeat (first | (with_reducible first | exact HB.out | apply below_alloc | apply pw_below_drewN | apply below_drew1) | exact HB.out)⟩⟩
  case round =>
    clear H'
    try clear c2
    try clear p2
    obtain ⟨x0_1, x1_1, x11_1, rfl, rfl, rfl, HA, HK1, HB⟩ := hrel
    cases gk with
    | zero => exact absurd HA.out (by simp [chain_stands.l0])
    | succ k1 =>
      have H := HA.out
      clear HA
      simp only [chain_stands.l0] at H
      by_cases c4 : x11_1 < (l2.length : Int)
      · rw [if_pos c4] at H
        have c4b0 : decide (x11_1 < (l2.length : Int)) = true := decide_eq_true c4
        clear c4
        by_cases c5 : 0 ≤ x11_1
        · rw [if_pos c5] at H
          have c5b0 : decide (0 ≤ x11_1) = true := decide_eq_true c5
          clear c5
          by_cases c6 : x11_1 < (l2.length : Int)
          · rw [if_pos c6] at H
            have c6b0 : decide (x11_1 < (l2.length : Int)) = true := decide_eq_true c6
            clear c6
            by_cases c7 : ((rd_T78 l2 x11_1).f0) = 0
            · rw [if_pos c7] at H
              have c7b0 : (((rd_T78 l2 x11_1).f0) == 0) = true := beq_iff_eq.mpr c7
              have c7b1 : (((rd_T78 l2 x11_1).f0) != 0) = false := bne_eq_false_iff_eq.mpr c7
              clear c7
              obtain rfl := Option.some.inj H
              have p102 : 0 ≤ (x11_1 : Int) := of_decide_eq_true (by first | (with_reducible assumption) | assumption)
              have q102 : x11_1 < (l2.length : Int) := of_decide_eq_true (by first | (with_reducible assumption) | assumption)
              obtain ⟨ad102, A102_2, c102_2, e102, hx102_0, hx102_1, hx102_2, hl102_2, hi102_2⟩ := at_T78 HR2.out x11_1 p102 q102
              cases e102
              replace hx102_0 := (HB.out.cell (World.block_lt_of_cell? w _ hx102_0)).trans hx102_0
              replace hx102_1 := (HB.out.cell (World.block_lt_of_cell? w _ hx102_1)).trans hx102_1
              replace hx102_2 := (HB.out.cell (World.block_lt_of_cell? w _ hx102_2)).trans hx102_2
              have HR102_2 := Aside0.mk hi102_2
              have HC102_2 := Aside0.mk hl102_2
              clear hi102_2 hl102_2
              replace p102 := eq_true p102
              replace q102 := eq_true q102
              go_wp2_with (first | ((with_reducible refine gate_dst (N := 8) rfl ?_); refine box_event ?hg (N := 8) ?hd (cs := #[.int .u64 0, .int .u64 0, .slice none 0 0]) (t := 78) ?hr ?_; (case hd => rfl); (case hg => rfl); (case hr => first | (go_simp; done) | (go_simp; rfl)); intro gb103 hg w8 hbox hb; have n0_ := Aside0.mk (below_step (by repeat (first | (with_reducible first | exact HB.out | apply below_alloc | apply pw_below_drewN | apply below_drew1) | exact HB.out)) hb); have n1_ := Aside0.mk (hbox); have n2_ := Aside0.mk ((by rw [hg]; exact (below_size (by repeat (first | (with_reducible first | exact HB.out | apply below_alloc | apply pw_below_drewN | apply below_drew1) | exact HB.out))) : w.heap.size ≤ gb103)); have n3_ := Aside0.mk ((by rw [hg]; exact (below_size (by repeat (first | (with_reducible first | exact HB.out | apply below_alloc | apply pw_below_drewN | apply below_drew1) | exact HB.out))) : w.heap.size ≤ gb103)); clear HB; have HB := n0_; have BK103 := n1_; have GW103 := n2_; have GE103 := n3_; clear n0_ n1_ n2_ n3_; clear hb hbox hg; have hcz9_0 : w8.cell? ⟨gb103, 0, none⟩ = some (.int .u64 0) := (blk_cell BK103.out 0).trans rfl; have hcz9_1 : w8.cell? ⟨gb103, 1, none⟩ = some (.int .u64 0) := (blk_cell BK103.out 1).trans rfl; have hcz9_2 : w8.cell? ⟨gb103, 2, none⟩ = some (.slice none 0 0) := (blk_cell BK103.out 2).trans rfl; have hfz9_0 := blk_frozen BK103.out 0; have hfz9_1 := blk_frozen BK103.out 1; have hfz9_2 := blk_frozen BK103.out 2))
              repeat (go_quiet (first | ((with_reducible refine gate_dst (N := 8) rfl ?_); refine box_event ?hg (N := 8) ?hd (cs := #[.int .u64 0, .int .u64 0, .slice none 0 0]) (t := 78) ?hr ?_; (case hd => rfl); (case hg => rfl); (case hr => first | (go_simp; done) | (go_simp; rfl)); intro gb103 hg w8 hbox hb; have n0_ := Aside0.mk (below_step (by repeat (first | (with_reducible first | exact HB.out | apply below_alloc | apply pw_below_drewN | apply below_drew1) | exact HB.out)) hb); have n1_ := Aside0.mk (hbox); have n2_ := Aside0.mk ((by rw [hg]; exact (below_size (by repeat (first | (with_reducible first | exact HB.out | apply below_alloc | apply pw_below_drewN | apply below_drew1) | exact HB.out))) : w.heap.size ≤ gb103)); have n3_ := Aside0.mk ((by rw [hg]; exact (below_size (by repeat (first | (with_reducible first | exact HB.out | apply below_alloc | apply pw_below_drewN | apply below_drew1) | exact HB.out))) : w.heap.size ≤ gb103)); clear HB; have HB := n0_; have BK103 := n1_; have GW103 := n2_; have GE103 := n3_; clear n0_ n1_ n2_ n3_; clear hb hbox hg; have hcz9_0 : w8.cell? ⟨gb103, 0, none⟩ = some (.int .u64 0) := (blk_cell BK103.out 0).trans rfl; have hcz9_1 : w8.cell? ⟨gb103, 1, none⟩ = some (.int .u64 0) := (blk_cell BK103.out 1).trans rfl; have hcz9_2 : w8.cell? ⟨gb103, 2, none⟩ = some (.slice none 0 0) := (blk_cell BK103.out 2).trans rfl; have hfz9_0 := blk_frozen BK103.out 0; have hfz9_1 := blk_frozen BK103.out 1; have hfz9_2 := blk_frozen BK103.out 2)); try go_wp2_with (first | ((with_reducible refine gate_dst (N := 8) rfl ?_); refine box_event ?hg (N := 8) ?hd (cs := #[.int .u64 0, .int .u64 0, .slice none 0 0]) (t := 78) ?hr ?_; (case hd => rfl); (case hg => rfl); (case hr => first | (go_simp; done) | (go_simp; rfl)); intro gb103 hg w8 hbox hb; have n0_ := Aside0.mk (below_step (by repeat (first | (with_reducible first | exact HB.out | apply below_alloc | apply pw_below_drewN | apply below_drew1) | exact HB.out)) hb); have n1_ := Aside0.mk (hbox); have n2_ := Aside0.mk ((by rw [hg]; exact (below_size (by repeat (first | (with_reducible first | exact HB.out | apply below_alloc | apply pw_below_drewN | apply below_drew1) | exact HB.out))) : w.heap.size ≤ gb103)); have n3_ := Aside0.mk ((by rw [hg]; exact (below_size (by repeat (first | (with_reducible first | exact HB.out | apply below_alloc | apply pw_below_drewN | apply below_drew1) | exact HB.out))) : w.heap.size ≤ gb103)); clear HB; have HB := n0_; have BK103 := n1_; have GW103 := n2_; have GE103 := n3_; clear n0_ n1_ n2_ n3_; clear hb hbox hg; have hcz9_0 : w8.cell? ⟨gb103, 0, none⟩ = some (.int .u64 0) := (blk_cell BK103.out 0).trans rfl; have hcz9_1 : w8.cell? ⟨gb103, 1, none⟩ = some (.int .u64 0) := (blk_cell BK103.out 1).trans rfl; have hcz9_2 : w8.cell? ⟨gb103, 2, none⟩ = some (.slice none 0 0) := (blk_cell BK103.out 2).trans rfl; have hfz9_0 := blk_frozen BK103.out 0; have hfz9_1 := blk_frozen BK103.out 1; have hfz9_2 := blk_frozen BK103.out 2)))
              go_ret
              exact ⟨by first | rfl | (simp [errW_none, errW_some] <;> rfl) | (simp [*, errW_none, errW_some] <;> rfl), by repeat (first | (with_reducible first | exact HB.out | apply below_alloc | apply pw_below_drewN | apply below_drew1 | refine below_set ?_ GE103.out) | exact HB.out)⟩
            · rw [if_neg c7] at H
              have c7b0 : (((rd_T78 l2 x11_1).f0) == 0) = false := beq_eq_false_iff_ne.mpr c7
              have c7b1 : (((rd_T78 l2 x11_1).f0) != 0) = true := bne_iff_ne.mpr c7
              by_cases c10 : (IntKind.u64.wrap (((rd_T78 l2 x11_1).f0) - 1)) = x0_1
              · rw [if_pos c10] at H
                have c10b0 : ((IntKind.u64.wrap (((rd_T78 l2 x11_1).f0) - 1)) == x0_1) = true := beq_iff_eq.mpr c10
                have c10b1 : ((IntKind.u64.wrap (((rd_T78 l2 x11_1).f0) - 1)) != x0_1) = false := bne_eq_false_iff_eq.mpr c10
                clear c10
                by_cases c11 : ((rd_T78 l2 x11_1).f1) < x1_1
                · rw [if_pos c11] at H
                  have c11b0 : decide (((rd_T78 l2 x11_1).f1) < x1_1) = true := decide_eq_true c11
                  clear c11
                  obtain rfl := Option.some.inj H
                  have p102 : 0 ≤ (x11_1 : Int) := of_decide_eq_true (by first | (with_reducible assumption) | assumption)
                  have q102 : x11_1 < (l2.length : Int) := of_decide_eq_true (by first | (with_reducible assumption) | assumption)
                  obtain ⟨ad102, A102_2, c102_2, e102, hx102_0, hx102_1, hx102_2, hl102_2, hi102_2⟩ := at_T78 HR2.out x11_1 p102 q102
                  cases e102
                  replace hx102_0 := (HB.out.cell (World.block_lt_of_cell? w _ hx102_0)).trans hx102_0
                  replace hx102_1 := (HB.out.cell (World.block_lt_of_cell? w _ hx102_1)).trans hx102_1
                  replace hx102_2 := (HB.out.cell (World.block_lt_of_cell? w _ hx102_2)).trans hx102_2
                  have HR102_2 := Aside0.mk hi102_2
                  have HC102_2 := Aside0.mk hl102_2
                  clear hi102_2 hl102_2
                  replace p102 := eq_true p102
                  replace q102 := eq_true q102
                  go_wp2_with (first | ((with_reducible refine gate_dst (N := 8) rfl ?_); refine box_event ?hg (N := 8) ?hd (cs := #[.int .u64 0, .int .u64 0, .slice none 0 0]) (t := 78) ?hr ?_; (case hd => rfl); (case hg => rfl); (case hr => first | (go_simp; done) | (go_simp; rfl)); intro gb103 hg w12 hbox hb; have n0_ := Aside0.mk (below_step (by repeat (first | (with_reducible first | exact HB.out | apply below_alloc | apply pw_below_drewN | apply below_drew1) | exact HB.out)) hb); have n1_ := Aside0.mk (hbox); have n2_ := Aside0.mk ((by rw [hg]; exact (below_size (by repeat (first | (with_reducible first | exact HB.out | apply below_alloc | apply pw_below_drewN | apply below_drew1) | exact HB.out))) : w.heap.size ≤ gb103)); have n3_ := Aside0.mk ((by rw [hg]; exact (below_size (by repeat (first | (with_reducible first | exact HB.out | apply below_alloc | apply pw_below_drewN | apply below_drew1) | exact HB.out))) : w.heap.size ≤ gb103)); clear HB; have HB := n0_; have BK103 := n1_; have GW103 := n2_; have GE103 := n3_; clear n0_ n1_ n2_ n3_; clear hb hbox hg; have hcz13_0 : w12.cell? ⟨gb103, 0, none⟩ = some (.int .u64 0) := (blk_cell BK103.out 0).trans rfl; have hcz13_1 : w12.cell? ⟨gb103, 1, none⟩ = some (.int .u64 0) := (blk_cell BK103.out 1).trans rfl; have hcz13_2 : w12.cell? ⟨gb103, 2, none⟩ = some (.slice none 0 0) := (blk_cell BK103.out 2).trans rfl; have hfz13_0 := blk_frozen BK103.out 0; have hfz13_1 := blk_frozen BK103.out 1; have hfz13_2 := blk_frozen BK103.out 2))
                  repeat (go_quiet (first | ((with_reducible refine gate_dst (N := 8) rfl ?_); refine box_event ?hg (N := 8) ?hd (cs := #[.int .u64 0, .int .u64 0, .slice none 0 0]) (t := 78) ?hr ?_; (case hd => rfl); (case hg => rfl); (case hr => first | (go_simp; done) | (go_simp; rfl)); intro gb103 hg w12 hbox hb; have n0_ := Aside0.mk (below_step (by repeat (first | (with_reducible first | exact HB.out | apply below_alloc | apply pw_below_drewN | apply below_drew1) | exact HB.out)) hb); have n1_ := Aside0.mk (hbox); have n2_ := Aside0.mk ((by rw [hg]; exact (below_size (by repeat (first | (with_reducible first | exact HB.out | apply below_alloc | apply pw_below_drewN | apply below_drew1) | exact HB.out))) : w.heap.size ≤ gb103)); have n3_ := Aside0.mk ((by rw [hg]; exact (below_size (by repeat (first | (with_reducible first | exact HB.out | apply below_alloc | apply pw_below_drewN | apply below_drew1) | exact HB.out))) : w.heap.size ≤ gb103)); clear HB; have HB := n0_; have BK103 := n1_; have GW103 := n2_; have GE103 := n3_; clear n0_ n1_ n2_ n3_; clear hb hbox hg; have hcz13_0 : w12.cell? ⟨gb103, 0, none⟩ = some (.int .u64 0) := (blk_cell BK103.out 0).trans rfl; have hcz13_1 : w12.cell? ⟨gb103, 1, none⟩ = some (.int .u64 0) := (blk_cell BK103.out 1).trans rfl; have hcz13_2 : w12.cell? ⟨gb103, 2, none⟩ = some (.slice none 0 0) := (blk_cell BK103.out 2).trans rfl; have hfz13_0 := blk_frozen BK103.out 0; have hfz13_1 := blk_frozen BK103.out 1; have hfz13_2 := blk_frozen BK103.out 2)); try go_wp2_with (first | ((with_reducible refine gate_dst (N := 8) rfl ?_); refine box_event ?hg (N := 8) ?hd (cs := #[.int .u64 0, .int .u64 0, .slice none 0 0]) (t := 78) ?hr ?_; (case hd => rfl); (case hg => rfl); (case hr => first | (go_simp; done) | (go_simp; rfl)); intro gb103 hg w12 hbox hb; have n0_ := Aside0.mk (below_step (by repeat (first | (with_reducible first | exact HB.out | apply below_alloc | apply pw_below_drewN | apply below_drew1) | exact HB.out)) hb); have n1_ := Aside0.mk (hbox); have n2_ := Aside0.mk ((by rw [hg]; exact (below_size (by repeat (first | (with_reducible first | exact HB.out | apply below_alloc | apply pw_below_drewN | apply below_drew1) | exact HB.out))) : w.heap.size ≤ gb103)); have n3_ := Aside0.mk ((by rw [hg]; exact (below_size (by repeat (first | (with_reducible first | exact HB.out | apply below_alloc | apply pw_below_drewN | apply below_drew1) | exact HB.out))) : w.heap.size ≤ gb103)); clear HB; have HB := n0_; have BK103 := n1_; have GW103 := n2_; have GE103 := n3_; clear n0_ n1_ n2_ n3_; clear hb hbox hg; have hcz13_0 : w12.cell? ⟨gb103, 0, none⟩ = some (.int .u64 0) := (blk_cell BK103.out 0).trans rfl; have hcz13_1 : w12.cell? ⟨gb103, 1, none⟩ = some (.int .u64 0) := (blk_cell BK103.out 1).trans rfl; have hcz13_2 : w12.cell? ⟨gb103, 2, none⟩ = some (.slice none 0 0) := (blk_cell BK103.out 2).trans rfl; have hfz13_0 := blk_frozen BK103.out 0; have hfz13_1 := blk_frozen BK103.out 1; have hfz13_2 := blk_frozen BK103.out 2)))
                  go_ret
                  exact ⟨by first | rfl | (simp [errW_none, errW_some] <;> rfl) | (simp [*, errW_none, errW_some] <;> rfl), by repeat (first | (with_reducible first | exact HB.out | apply below_alloc | apply pw_below_drewN | apply below_drew1 | refine below_set ?_ GE103.out) | exact HB.out)⟩
                · rw [if_neg c11] at H
                  have c11b0 : decide (((rd_T78 l2 x11_1).f1) < x1_1) = false := decide_eq_false c11
                  clear c11
                  have H' := Aside0.mk H
                  clear H
                  have p102 : 0 ≤ (x11_1 : Int) := of_decide_eq_true (by first | (with_reducible assumption) | assumption)
                  have q102 : x11_1 < (l2.length : Int) := of_decide_eq_true (by first | (with_reducible assumption) | assumption)
                  obtain ⟨ad102, A102_2, c102_2, e102, hx102_0, hx102_1, hx102_2, hl102_2, hi102_2⟩ := at_T78 HR2.out x11_1 p102 q102
                  cases e102
                  replace hx102_0 := (HB.out.cell (World.block_lt_of_cell? w _ hx102_0)).trans hx102_0
                  replace hx102_1 := (HB.out.cell (World.block_lt_of_cell? w _ hx102_1)).trans hx102_1
                  replace hx102_2 := (HB.out.cell (World.block_lt_of_cell? w _ hx102_2)).trans hx102_2
                  have HR102_2 := Aside0.mk hi102_2
                  have HC102_2 := Aside0.mk hl102_2
                  clear hi102_2 hl102_2
                  replace p102 := eq_true p102
                  replace q102 := eq_true q102
                  go_wp2_with (first | ((with_reducible refine gate_dst (N := 8) rfl ?_); refine box_event ?hg (N := 8) ?hd (cs := #[.int .u64 0, .int .u64 0, .slice none 0 0]) (t := 78) ?hr ?_; (case hd => rfl); (case hg => rfl); (case hr => first | (go_simp; done) | (go_simp; rfl)); intro gb103 hg w14 hbox hb; have n0_ := Aside0.mk (below_step (by repeat (first | (with_reducible first | exact HB.out | apply below_alloc | apply pw_below_drewN | apply below_drew1) | exact HB.out)) hb); have n1_ := Aside0.mk (hbox); have n2_ := Aside0.mk ((by rw [hg]; exact (below_size (by repeat (first | (with_reducible first | exact HB.out | apply below_alloc | apply pw_below_drewN | apply below_drew1) | exact HB.out))) : w.heap.size ≤ gb103)); have n3_ := Aside0.mk ((by rw [hg]; exact (below_size (by repeat (first | (with_reducible first | exact HB.out | apply below_alloc | apply pw_below_drewN | apply below_drew1) | exact HB.out))) : w.heap.size ≤ gb103)); clear HB; have HB := n0_; have BK103 := n1_; have GW103 := n2_; have GE103 := n3_; clear n0_ n1_ n2_ n3_; clear hb hbox hg; have hcz15_0 : w14.cell? ⟨gb103, 0, none⟩ = some (.int .u64 0) := (blk_cell BK103.out 0).trans rfl; have hcz15_1 : w14.cell? ⟨gb103, 1, none⟩ = some (.int .u64 0) := (blk_cell BK103.out 1).trans rfl; have hcz15_2 : w14.cell? ⟨gb103, 2, none⟩ = some (.slice none 0 0) := (blk_cell BK103.out 2).trans rfl; have hfz15_0 := blk_frozen BK103.out 0; have hfz15_1 := blk_frozen BK103.out 1; have hfz15_2 := blk_frozen BK103.out 2))
                  repeat (go_quiet (first | ((with_reducible refine gate_dst (N := 8) rfl ?_); refine box_event ?hg (N := 8) ?hd (cs := #[.int .u64 0, .int .u64 0, .slice none 0 0]) (t := 78) ?hr ?_; (case hd => rfl); (case hg => rfl); (case hr => first | (go_simp; done) | (go_simp; rfl)); intro gb103 hg w14 hbox hb; have n0_ := Aside0.mk (below_step (by repeat (first | (with_reducible first | exact HB.out | apply below_alloc | apply pw_below_drewN | apply below_drew1) | exact HB.out)) hb); have n1_ := Aside0.mk (hbox); have n2_ := Aside0.mk ((by rw [hg]; exact (below_size (by repeat (first | (with_reducible first | exact HB.out | apply below_alloc | apply pw_below_drewN | apply below_drew1) | exact HB.out))) : w.heap.size ≤ gb103)); have n3_ := Aside0.mk ((by rw [hg]; exact (below_size (by repeat (first | (with_reducible first | exact HB.out | apply below_alloc | apply pw_below_drewN | apply below_drew1) | exact HB.out))) : w.heap.size ≤ gb103)); clear HB; have HB := n0_; have BK103 := n1_; have GW103 := n2_; have GE103 := n3_; clear n0_ n1_ n2_ n3_; clear hb hbox hg; have hcz15_0 : w14.cell? ⟨gb103, 0, none⟩ = some (.int .u64 0) := (blk_cell BK103.out 0).trans rfl; have hcz15_1 : w14.cell? ⟨gb103, 1, none⟩ = some (.int .u64 0) := (blk_cell BK103.out 1).trans rfl; have hcz15_2 : w14.cell? ⟨gb103, 2, none⟩ = some (.slice none 0 0) := (blk_cell BK103.out 2).trans rfl; have hfz15_0 := blk_frozen BK103.out 0; have hfz15_1 := blk_frozen BK103.out 1; have hfz15_2 := blk_frozen BK103.out 2)); try go_wp2_with (first | ((with_reducible refine gate_dst (N := 8) rfl ?_); refine box_event ?hg (N := 8) ?hd (cs := #[.int .u64 0, .int .u64 0, .slice none 0 0]) (t := 78) ?hr ?_; (case hd => rfl); (case hg => rfl); (case hr => first | (go_simp; done) | (go_simp; rfl)); intro gb103 hg w14 hbox hb; have n0_ := Aside0.mk (below_step (by repeat (first | (with_reducible first | exact HB.out | apply below_alloc | apply pw_below_drewN | apply below_drew1) | exact HB.out)) hb); have n1_ := Aside0.mk (hbox); have n2_ := Aside0.mk ((by rw [hg]; exact (below_size (by repeat (first | (with_reducible first | exact HB.out | apply below_alloc | apply pw_below_drewN | apply below_drew1) | exact HB.out))) : w.heap.size ≤ gb103)); have n3_ := Aside0.mk ((by rw [hg]; exact (below_size (by repeat (first | (with_reducible first | exact HB.out | apply below_alloc | apply pw_below_drewN | apply below_drew1) | exact HB.out))) : w.heap.size ≤ gb103)); clear HB; have HB := n0_; have BK103 := n1_; have GW103 := n2_; have GE103 := n3_; clear n0_ n1_ n2_ n3_; clear hb hbox hg; have hcz15_0 : w14.cell? ⟨gb103, 0, none⟩ = some (.int .u64 0) := (blk_cell BK103.out 0).trans rfl; have hcz15_1 : w14.cell? ⟨gb103, 1, none⟩ = some (.int .u64 0) := (blk_cell BK103.out 1).trans rfl; have hcz15_2 : w14.cell? ⟨gb103, 2, none⟩ = some (.slice none 0 0) := (blk_cell BK103.out 2).trans rfl; have hfz15_0 := blk_frozen BK103.out 0; have hfz15_1 := blk_frozen BK103.out 1; have hfz15_2 := blk_frozen BK103.out 2)))
                  go_roundg k1
                  case measure => have := HK1.out; omega
                  case rel => exact ⟨((rd_T78 l2 x11_1).f0), ((rd_T78 l2 x11_1).f1), (wrap64 (x11_1 + 1)), (by first | rfl | (simp; done) | (simp [*]; done)), (by first | rfl | (simp; done) | (simp [*]; done)), (by first | rfl | (simp; done) | (simp [*]; done)), H', ⟨by have := HK1.out; omega⟩, ⟨by repeat (first | (with_reducible first | exact HB.out | apply below_alloc | apply pw_below_drewN | apply below_drew1 | refine below_set ?_ GE103.out) | exact HB.out)⟩⟩
              · rw [if_neg c10] at H
                have c10b0 : ((IntKind.u64.wrap (((rd_T78 l2 x11_1).f0) - 1)) == x0_1) = false := beq_eq_false_iff_ne.mpr c10
                have c10b1 : ((IntKind.u64.wrap (((rd_T78 l2 x11_1).f0) - 1)) != x0_1) = true := bne_iff_ne.mpr c10
                obtain rfl := Option.some.inj H
                have p102 : 0 ≤ (x11_1 : Int) := of_decide_eq_true (by first | (with_reducible assumption) | assumption)
                have q102 : x11_1 < (l2.length : Int) := of_decide_eq_true (by first | (with_reducible assumption) | assumption)
                obtain ⟨ad102, A102_2, c102_2, e102, hx102_0, hx102_1, hx102_2, hl102_2, hi102_2⟩ := at_T78 HR2.out x11_1 p102 q102
                cases e102
                replace hx102_0 := (HB.out.cell (World.block_lt_of_cell? w _ hx102_0)).trans hx102_0
                replace hx102_1 := (HB.out.cell (World.block_lt_of_cell? w _ hx102_1)).trans hx102_1
                replace hx102_2 := (HB.out.cell (World.block_lt_of_cell? w _ hx102_2)).trans hx102_2
                have HR102_2 := Aside0.mk hi102_2
                have HC102_2 := Aside0.mk hl102_2
                clear hi102_2 hl102_2
                replace p102 := eq_true p102
                replace q102 := eq_true q102
                go_wp2_with (first | ((with_reducible refine gate_dst (N := 8) rfl ?_); refine box_event ?hg (N := 8) ?hd (cs := #[.int .u64 0, .int .u64 0, .slice none 0 0]) (t := 78) ?hr ?_; (case hd => rfl); (case hg => rfl); (case hr => first | (go_simp; done) | (go_simp; rfl)); intro gb103 hg w16 hbox hb; have n0_ := Aside0.mk (below_step (by repeat (first | (with_reducible first | exact HB.out | apply below_alloc | apply pw_below_drewN | apply below_drew1) | exact HB.out)) hb); have n1_ := Aside0.mk (hbox); have n2_ := Aside0.mk ((by rw [hg]; exact (below_size (by repeat (first | (with_reducible first | exact HB.out | apply below_alloc | apply pw_below_drewN | apply below_drew1) | exact HB.out))) : w.heap.size ≤ gb103)); have n3_ := Aside0.mk ((by rw [hg]; exact (below_size (by repeat (first | (with_reducible first | exact HB.out | apply below_alloc | apply pw_below_drewN | apply below_drew1) | exact HB.out))) : w.heap.size ≤ gb103)); clear HB; have HB := n0_; have BK103 := n1_; have GW103 := n2_; have GE103 := n3_; clear n0_ n1_ n2_ n3_; clear hb hbox hg; have hcz17_0 : w16.cell? ⟨gb103, 0, none⟩ = some (.int .u64 0) := (blk_cell BK103.out 0).trans rfl; have hcz17_1 : w16.cell? ⟨gb103, 1, none⟩ = some (.int .u64 0) := (blk_cell BK103.out 1).trans rfl; have hcz17_2 : w16.cell? ⟨gb103, 2, none⟩ = some (.slice none 0 0) := (blk_cell BK103.out 2).trans rfl; have hfz17_0 := blk_frozen BK103.out 0; have hfz17_1 := blk_frozen BK103.out 1; have hfz17_2 := blk_frozen BK103.out 2))
                repeat (go_quiet (first | ((with_reducible refine gate_dst (N := 8) rfl ?_); refine box_event ?hg (N := 8) ?hd (cs := #[.int .u64 0, .int .u64 0, .slice none 0 0]) (t := 78) ?hr ?_; (case hd => rfl); (case hg => rfl); (case hr => first | (go_simp; done) | (go_simp; rfl)); intro gb103 hg w16 hbox hb; have n0_ := Aside0.mk (below_step (by repeat (first | (with_reducible first | exact HB.out | apply below_alloc | apply pw_below_drewN | apply below_drew1) | exact HB.out)) hb); have n1_ := Aside0.mk (hbox); have n2_ := Aside0.mk ((by rw [hg]; exact (below_size (by repeat (first | (with_reducible first | exact HB.out | apply below_alloc | apply pw_below_drewN | apply below_drew1) | exact HB.out))) : w.heap.size ≤ gb103)); have n3_ := Aside0.mk ((by rw [hg]; exact (below_size (by repeat (first | (with_reducible first | exact HB.out | apply below_alloc | apply pw_below_drewN | apply below_drew1) | exact HB.out))) : w.heap.size ≤ gb103)); clear HB; have HB := n0_; have BK103 := n1_; have GW103 := n2_; have GE103 := n3_; clear n0_ n1_ n2_ n3_; clear hb hbox hg; have hcz17_0 : w16.cell? ⟨gb103, 0, none⟩ = some (.int .u64 0) := (blk_cell BK103.out 0).trans rfl; have hcz17_1 : w16.cell? ⟨gb103, 1, none⟩ = some (.int .u64 0) := (blk_cell BK103.out 1).trans rfl; have hcz17_2 : w16.cell? ⟨gb103, 2, none⟩ = some (.slice none 0 0) := (blk_cell BK103.out 2).trans rfl; have hfz17_0 := blk_frozen BK103.out 0; have hfz17_1 := blk_frozen BK103.out 1; have hfz17_2 := blk_frozen BK103.out 2)); try go_wp2_with (first | ((with_reducible refine gate_dst (N := 8) rfl ?_); refine box_event ?hg (N := 8) ?hd (cs := #[.int .u64 0, .int .u64 0, .slice none 0 0]) (t := 78) ?hr ?_; (case hd => rfl); (case hg => rfl); (case hr => first | (go_simp; done) | (go_simp; rfl)); intro gb103 hg w16 hbox hb; have n0_ := Aside0.mk (below_step (by repeat (first | (with_reducible first | exact HB.out | apply below_alloc | apply pw_below_drewN | apply below_drew1) | exact HB.out)) hb); have n1_ := Aside0.mk (hbox); have n2_ := Aside0.mk ((by rw [hg]; exact (below_size (by repeat (first | (with_reducible first | exact HB.out | apply below_alloc | apply pw_below_drewN | apply below_drew1) | exact HB.out))) : w.heap.size ≤ gb103)); have n3_ := Aside0.mk ((by rw [hg]; exact (below_size (by repeat (first | (with_reducible first | exact HB.out | apply below_alloc | apply pw_below_drewN | apply below_drew1) | exact HB.out))) : w.heap.size ≤ gb103)); clear HB; have HB := n0_; have BK103 := n1_; have GW103 := n2_; have GE103 := n3_; clear n0_ n1_ n2_ n3_; clear hb hbox hg; have hcz17_0 : w16.cell? ⟨gb103, 0, none⟩ = some (.int .u64 0) := (blk_cell BK103.out 0).trans rfl; have hcz17_1 : w16.cell? ⟨gb103, 1, none⟩ = some (.int .u64 0) := (blk_cell BK103.out 1).trans rfl; have hcz17_2 : w16.cell? ⟨gb103, 2, none⟩ = some (.slice none 0 0) := (blk_cell BK103.out 2).trans rfl; have hfz17_0 := blk_frozen BK103.out 0; have hfz17_1 := blk_frozen BK103.out 1; have hfz17_2 := blk_frozen BK103.out 2)))
                go_ret
                exact ⟨by first | rfl | (simp [errW_none, errW_some] <;> rfl) | (simp [*, errW_none, errW_some] <;> rfl), by repeat (first | (with_reducible first | exact HB.out | apply below_alloc | apply pw_below_drewN | apply below_drew1 | refine below_set ?_ GE103.out) | exact HB.out)⟩
          · rw [if_neg c6] at H
            exact absurd H (by simp)
        · rw [if_neg c5] at H
          exact absurd H (by simp)
      · rw [if_neg c4] at H
        have c4b0 : decide (x11_1 < (l2.length : Int)) = false := decide_eq_false c4
        clear c4
        obtain rfl := Option.some.inj H
        go_wp2
        repeat (go_quiet (fail); try go_wp2)
        go_ret
        exact ⟨by first | rfl | (simp [errW_none, errW_some] <;> rfl) | (simp [*, errW_none, errW_some] <;> rfl), by repeat (first | (with_reducible first | exact HB.out | apply below_alloc | apply pw_below_drewN | apply below_drew1) | exact HB.out)⟩

/-! ### chain_New: function 61 (by hand) -/
set_option maxHeartbeats 8000000 in
set_option maxRecDepth 100000 in
theorem chain_new_bad (W : World) (ix tm : Int) (A : Option Addr) (c : Nat) (xs : List SE) (hC : KE.C W A xs.length xs) (hc : xs.length ≤ c) (k : Nat) (hst : chain_stands.f k ix tm xs = some false) :
    Calls Try.prog 61 #[.int .u64 ix, .int .u64 tm, .slice A xs.length c] W fun e w' => e = .returned (.tuple #[.pointer none, .int .i64 2]) ∧ Below W.heap.size W w' := by
  have HS := Aside0.mk (chain_stands.calls k ix tm A c xs false W hC hc hst)
  clear hC hc hst
  go_enter Try.func61, Try.ntmps61
  go_wp2_with (go_at_call 64; refine HS.out.mono ?_; rintro e w1 ⟨rfl, hb⟩; have HB1 := Aside0.mk hb; clear hb)
  go_ret2
  exact ⟨rfl, HB1.out⟩
set_option maxHeartbeats 8000000 in
set_option maxRecDepth 100000 in
theorem chain_new (W : World) (ix tm : Int) (A : Option Addr) (c : Nat) (xs : List SE) (hC : KE.C W A xs.length xs) (hc : xs.length ≤ c) (k : Nat) (hst : chain_stands.f k ix tm xs = some true) (hrow : Row ix xs) :
    Calls Try.prog 61 #[.int .u64 ix, .int .u64 tm, .slice A xs.length c] W fun e w' => ∃ g, e = .returned (.tuple #[.pointer (some ⟨g, 0, none⟩), .int .i64 0]) ∧ W.heap.size ≤ g ∧ Ch w' g ix tm xs ∧ Below W.heap.size W w' := by
  have hu := Try.underlying121
  have HS := Aside0.mk (chain_stands.calls k ix tm A c xs true W hC hc hst)
  have H := Aside0.mk hC
  have HC := Aside0.mk hc
  have HRR := Aside0.mk hrow
  have HP := Aside0.mk hrow.small
  have HF := Aside0.mk hrow.few
  clear hC hc hst hrow
  go_enter Try.func61, Try.ntmps61
  go_wp2_with (first
    | (go_at_call 64; refine HS.out.mono ?_; rintro e w1 ⟨rfl, hb⟩; have HB1 := Aside0.mk hb; clear hb)
    | (go_at_call 66; refine (chain_copied.calls A c xs w1 (Kd.C_below H.out HB1.out) HC.out HF.out HP.out).mono ?_; rintro e w2 ⟨v, rfl, hR, hb⟩; have HB2 := Aside0.mk (below_step HB1.out hb); obtain ⟨A2, c2, eB⟩ := Kd.R_slice hR; subst eB; have HR2 := Aside0.mk hR; clear hR hb)
    | ((with_reducible refine gate_dst (N := 18) rfl ?_); refine box_event ?hg (N := 18) ?hd (cs := #[.int .u64 ix, .int .u64 tm, .slice A2 xs.length c2]) (t := 121) ?hr ?_; (case hd => rfl); (case hg => rfl); (case hr => first | (go_simp; done) | (go_simp; rfl)); intro g hg w3 hbX hb; have BX := Aside0.mk hbX; have GX : Aside0 (w2.heap.size ≤ g) := ⟨Nat.le_of_eq hg.symm⟩; have HB3 := Aside0.mk (below_step HB2.out hb); have HR3 := Aside0.mk (Kd.R_below HR2.out hb); clear hbX hg hb))
  go_ret2
  have z := Kd.R_reads' HR3.out
  exact ⟨g, rfl, Nat.le_trans (below_size HB2.out) GX.out, ⟨HRR.out, A2, c2, BX.out, z.2.1, z.2.2⟩, HB3.out⟩

/-! ### chain_Chain_From: function 47 (by hand) -/
theorem cut_lh {P : Program} (t e : TypeId) (z : Nat) (ht : P.underlying t = some (.slice e)) (hs : (P.info? e).map (·.size) = some z) (A : Option Addr) (n c : Nat) (l h : Int) (h0 : 0 ≤ l) (h1 : l ≤ h) (hc : h ≤ c) (W : World) :
    (Instr.slice t (.slice A n c) (some (.int .i64 l)) (some (.int .i64 h)) none).run P W = .ok (.slice (if c = l.toNat then A else A.map (·.add (l.toNat * z))) (h.toNat - l.toNat) (c - l.toNat)) W := by
  cases hq : P.info? e with
  | none => simp [hq] at hs
  | some i =>
    have hi : i.size = z := by simpa [hq] using hs
    have hel : P.elem t = e := by simp [Program.elem, ht]
    have hu : P.underlying t = some (.slice (P.elem t)) := by rw [hel]; exact ht
    rw [run_slice_lh W t A n c hu .i64 .i64 l h h0 h1 hc, hel]
    simp [sizeOf, typeInfo, hq, hi, sliced, Result.andThen]
theorem C_cut {w : World} {A : Option Addr} {xs : List SE} {c l h : Nat} (hC : KE.C w A xs.length xs) (hc : xs.length ≤ c) (h1 : l ≤ h) (h2 : h ≤ xs.length) : KE.C w (if c = l then A else A.map (·.add (l * 3))) ((xs.take h).drop l).length ((xs.take h).drop l) := by
  have := Kd.C_take hC h2
  exact Kd.C_drop (c := c) this (by rw [List.length_take]; omega) (by rw [List.length_take]; omega)
def fromF (ix : Int) (xs : List SE) (i most : Int) : List SE := if xs.length = 0 ∨ most < 1 then [] else if hasE ix xs (mx i (ix + 1)) then (xs.take (mn xs.length (mx i (ix + 1) - ix - 1 + mn most xs.length)).toNat).drop (mx i (ix + 1) - ix - 1).toNat else []
set_option maxHeartbeats 8000000 in
set_option maxRecDepth 100000 in
theorem chain_from (W : World) (g : Nat) (ix tm : Int) (xs : List SE) (h : Ch W g ix tm xs) (i most : Int) (hi : 0 ≤ i ∧ i < 18446744073709551616) (ys : List SE) (hr : fromF ix xs i most = ys) : Calls Try.prog 47 #[.pointer (some ⟨g, 0, none⟩), .int .u64 i, .int .i64 most] W fun e w' => ∃ v, e = .returned v ∧ KE.R 78 w' W.heap.size (fun _ => True) v ys ∧ Below W.heap.size W w' := by
  have hu := Try.underlying121
  have hu2 := Try.underlying78
  have H := Aside0.mk h
  have HL := Aside0.mk (chain_len W g ix tm xs h)
  have HI := Aside0.mk hi
  clear h hi
  unfold fromF at hr
  by_cases c0 : xs.length = 0
  · rw [if_pos (Or.inl c0)] at hr
    subst hr
    have hd : ((xs.length : Int) == 0) = true := beq_iff_eq.mpr (by omega)
    clear c0
    go_enter Try.func47, Try.ntmps47
    go_wp2_with (go_at_call 48; refine HL.out.mono ?_; rintro e w1 ⟨rfl, hb⟩; have HB1 := Aside0.mk hb; clear hb)
    go_ret
    exact ⟨_, rfl, Kd.R_nil _ _ _ _ _, HB1.out⟩
  have hd : ((xs.length : Int) == 0) = false := beq_eq_false_iff_ne.mpr (by omega)
  by_cases c1 : most < 1
  · rw [if_pos (Or.inr c1)] at hr
    subst hr
    have d1 : decide (most < 1) = true := decide_eq_true c1
    clear c0 c1
    go_enter Try.func47, Try.ntmps47
    go_wp2_with (go_at_call 48; refine HL.out.mono ?_; rintro e w1 ⟨rfl, hb⟩; have HB1 := Aside0.mk hb; clear hb)
    go_ret
    exact ⟨_, rfl, Kd.R_nil _ _ _ _ _, HB1.out⟩
  have d1 : decide (most < 1) = false := decide_eq_false c1
  rw [if_neg (by omega)] at hr
  have HRow := Aside0.mk H.out.row
  have e1 : IntKind.u64.wrap (ix + 1) = ix + 1 := by rw [IntKind.wrap_u64]; have := HRow.out.lo; have := HRow.out.hi; omega
  obtain ⟨m, hm⟩ : ∃ m, mx i (ix + 1) = m := ⟨_, rfl⟩
  have hm_ : (if i < ix + 1 then ix + 1 else i) = m := hm
  rw [hm] at hr
  have HM : Aside0 (0 ≤ m ∧ m < 18446744073709551616) := ⟨by have := HI.out; have := HRow.out.lo; have := HRow.out.hi; rw [← hm]; unfold mx; split <;> omega⟩
  have HA : Aside0 (∀ W', Below W.heap.size W W' → Calls Try.prog 67 #[.pointer (some ⟨g, 0, none⟩), .int .u64 m] W' fun e w' => e = .returned (.tuple #[.int .i64 (if hasE ix xs m then m - ix - 1 else 0), .bool (decide (hasE ix xs m))]) ∧ Below W'.heap.size W' w') := ⟨fun W' hb => chain_at W' g ix tm xs (H.out.below hb) m HM.out⟩
  by_cases c2 : hasE ix xs m
  · rw [if_pos c2] at hr
    rw [if_pos c2, decide_eq_true c2] at HA
    obtain ⟨n, hn⟩ : ∃ n : Int, m - ix - 1 = n := ⟨_, rfl⟩
    rw [hn] at HA hr
    obtain ⟨m1, hm1⟩ : ∃ m1, mn most xs.length = m1 := ⟨_, rfl⟩
    have hm1_ : (if (xs.length : Int) < most then (xs.length : Int) else most) = m1 := hm1
    rw [hm1] at hr
    obtain ⟨m2, hm2⟩ : ∃ m2, mn xs.length (n + m1) = m2 := ⟨_, rfl⟩
    have hm2_ : (if n + m1 < (xs.length : Int) then n + m1 else (xs.length : Int)) = m2 := hm2
    rw [hm2] at hr
    have HN : Aside0 (0 ≤ n ∧ n < xs.length) := ⟨by unfold hasE at c2; omega⟩
    have HM1 : Aside0 (1 ≤ m1 ∧ m1 ≤ xs.length) := ⟨by rw [← hm1]; unfold mn; split <;> omega⟩
    have HM2 : Aside0 (n ≤ m2 ∧ m2 ≤ xs.length) := ⟨by have := HN.out; have := HM1.out; rw [← hm2]; unfold mn; split <;> omega⟩
    have ew : wrap64 (n + m1) = n + m1 := by have := HN.out; have := HM1.out; have := HRow.out.few; unfold wrap64; omega
    have ew' : IntKind.i64.wrap (n + m1) = n + m1 := by rw [IntKind.wrap_i64]; have := HN.out; have := HM1.out; have := HRow.out.few; omega
    have HY : Aside0 (ys.length = m2.toNat - n.toNat ∧ (∀ x ∈ ys, x.f2.length ≤ 1000000) ∧ ys.length ≤ 100000) := ⟨by
      have := HM2.out; have := HN.out; have := HRow.out.few
      rw [← hr, List.length_drop, List.length_take]
      exact ⟨by omega, fun x hx => HRow.out.small x (List.mem_of_mem_take (List.mem_of_mem_drop hx)), by omega⟩⟩
    have HYS := Aside0.mk hr
    clear c0 c1 c2 hn hm hm1 hm2 hr
    go_enter Try.func47, Try.ntmps47
    go_wp2_with (first
      | (go_at_call 48; refine HL.out.mono ?_; rintro e w1 ⟨rfl, hb⟩; have HB1 := Aside0.mk hb; obtain ⟨A0, c0, z0, _, _, _, _⟩ := (H.out.below hb).blk; clear hb)
      | (go_at_call 67; refine (HA.out _ HB1.out).mono ?_; rintro e w2 ⟨rfl, hb⟩; have HB2 := Aside0.mk (below_step HB1.out hb); obtain ⟨A, c, _, _, z2, hc_, hC_⟩ := (H.out.below HB2.out).blk; have HCc := Aside0.mk hc_; have HC := Aside0.mk hC_; obtain ⟨A', hA'⟩ : ∃ A', (if c = n.toNat then A else A.map (·.add (n.toNat * 3))) = A' := ⟨_, rfl⟩; have HCY : Aside0 (KE.C w2 A' ys.length ys ∧ ys.length ≤ c - n.toNat) := ⟨by rw [← hA', ← HYS.out]; exact ⟨C_cut HC.out HCc.out (by have := HM2.out; omega) (by have := HM2.out; omega), by have h1 := HY.out.1; rw [← HYS.out] at h1; rw [h1]; have := HM2.out; have := HCc.out; omega⟩⟩; have hcut : ∀ W : World, (Instr.slice 72 (.slice A xs.length c) (some (.int .i64 n)) (some (.int .i64 m2)) none).run Try.prog W = .ok (.slice A' ys.length (c - n.toNat)) W := (fun W => by rw [cut_lh 72 78 3 Try.underlying72 (by kernel_rfl) A xs.length c n m2 HN.out.1 HM2.out.1 (by have := HM2.out; have := HCc.out; omega) W, hA', HY.out.1]); clear hb hA' hc_ hC_))
    have Z2 := Aside0.mk z2
    clear z0
    go_region_held3 (fun w' => w'.cell? ⟨g, 2, none⟩ = some (.slice A xs.length c)) (first | exact Y5 | go_keep) (first | (go_at_call 66; (with_reducible refine (chain_copied.calls A' (c - n.toNat) ys w2.drew (show KE.C w2.drew A' ys.length ys from Kd.C_below HCY.out.1 (below_drew1 (Below.refl _ _))) HCY.out.2 HY.out.2.2 HY.out.2.1).mono ?_); rintro e w5 ⟨v, rfl, hR, hb⟩; have HR5 := Aside0.mk hR; have HB5 := Aside0.mk hb; have Y5 : w5.cell? ⟨g, 2, none⟩ = some (.slice A xs.length c) := (hb.cell (World.block_lt_of_cell? _ _ Z2.out)).trans Z2.out; clear hR hb))
    go_wp2
    go_ret
    exact ⟨_, rfl, Kd.R_lower HR5.out (by show W.heap.size ≤ w2.drew.heap.size; exact below_size (below_drew1 HB2.out)), below_step (below_drew1 HB2.out) HB5.out⟩
  · rw [if_neg c2] at hr
    rw [if_neg c2, decide_eq_false c2] at HA
    subst hr
    clear c0 c1 c2 hm
    go_enter Try.func47, Try.ntmps47
    go_wp2_with (first
      | (go_at_call 48; refine HL.out.mono ?_; rintro e w1 ⟨rfl, hb⟩; have HB1 := Aside0.mk hb; obtain ⟨A0, c0, z0, _, _, _, _⟩ := (H.out.below hb).blk; clear hb)
      | (go_at_call 67; refine (HA.out _ HB1.out).mono ?_; rintro e w2 ⟨rfl, hb⟩; have HB2 := Aside0.mk (below_step HB1.out hb); clear hb))
    go_ret
    exact ⟨_, rfl, Kd.R_nil _ _ _ _ _, HB2.out⟩

end Go.Proofs.Ythkhfhhbldjdlaa.Chp
