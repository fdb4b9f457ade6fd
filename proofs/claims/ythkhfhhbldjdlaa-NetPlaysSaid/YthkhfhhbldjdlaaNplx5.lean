/- Printed by this session's wip/drive.py over the translation; some functions by hand. -/
import Derived.Test.YthkhfhhbldjdlaaNplx0
import Derived.Test.YthkhfhhbldjdlaaNplx2
import Derived.Test.YthkhfhhbldjdlaaNplx3
namespace Go.Proofs.Ythkhfhhbldjdlaa.Npl
open Go.RowKit Go.Proofs.YthkhfhhbldjdlaaW.PrintWords Go.Proofs.YthkhfhhbldjdlaaW.PrintLast Go.Proofs.YthkhfhhbldjdlaaW.PrintMore
attribute [local go_sem] max2_int min2_int max_two min_two max_three min_three max_four min_four   -- for this text's walks alone
set_option linter.unusedVariables false
set_option linter.unusedSimpArgs false

/-! ### jobberlaw37_do: function 20 (by hand; for other hand texts alone) -/
section
/-! ### The document's net: a block of 256 rows of strings and 256 bools -/
def refCells (V : Nat → Value) (G : Nat → Bool) : Array Value := Array.ofFn (n := 512) fun k => if k.1 < 256 then V k.1 else .bool (G (k.1 - 256))
theorem refCells_row (V : Nat → Value) (G : Nat → Bool) {p : Nat} (h : p < 256) : (refCells V G)[p]? = some (V p) := by
  unfold refCells; rw [Array.getElem?_ofFn, dif_pos (by omega)]; simp [h]
theorem refCells_bool (V : Nat → Value) (G : Nat → Bool) {p : Nat} (h : p < 256) : (refCells V G)[256 + p]? = some (.bool (G p)) := by
  unfold refCells; rw [Array.getElem?_ofFn, dif_pos (by omega)]; simp only [if_neg (show ¬ 256 + p < 256 by omega), Nat.add_sub_cancel_left]
def updN {α : Type} (f : Nat → α) (p : Nat) (v : α) : Nat → α := fun k => if k = p then v else f k
theorem updN_same {α : Type} (f : Nat → α) (p : Nat) (v : α) : updN f p v p = v := if_pos rfl
theorem updN_ne {α : Type} (f : Nat → α) {p k : Nat} (v : α) (h : k ≠ p) : updN f p v k = f k := if_neg h
theorem refCells_get (V : Nat → Value) (G : Nat → Bool) (i : Nat) : (refCells V G)[i]? = if i < 512 then some (if i < 256 then V i else .bool (G (i - 256))) else none := by
  unfold refCells
  rw [Array.getElem?_ofFn]
  by_cases c : i < 512
  · rw [dif_pos c, if_pos c]
  · rw [dif_neg c, if_neg c]
theorem refCells_size (V : Nat → Value) (G : Nat → Bool) : (refCells V G).size = 512 := by unfold refCells; exact Array.size_ofFn
theorem refCells_setRow (V : Nat → Value) (G : Nat → Bool) {p : Nat} (h : p < 256) (v : Value) : (refCells V G).setIfInBounds p v = refCells (updN V p v) G := by
  refine Array.ext_getElem? fun i => ?_
  rw [Array.getElem?_setIfInBounds, refCells_get, refCells_get, refCells_size]
  by_cases c : p = i
  · subst c
    rw [if_pos rfl, if_pos (show p < 512 by omega), if_pos (show p < 512 by omega), if_pos h, updN_same]
  · rw [if_neg c]
    by_cases d : i < 512
    · rw [if_pos d, if_pos d, updN_ne _ _ (Ne.symm c)]
    · rw [if_neg d, if_neg d]
theorem refCells_setBool (V : Nat → Value) (G : Nat → Bool) {p : Nat} (h : p < 256) (v : Bool) : (refCells V G).setIfInBounds (256 + p) (.bool v) = refCells V (updN G p v) := by
  refine Array.ext_getElem? fun i => ?_
  rw [Array.getElem?_setIfInBounds, refCells_get, refCells_get, refCells_size]
  by_cases c : 256 + p = i
  · subst c
    rw [if_pos rfl, if_pos (show 256 + p < 512 by omega), if_pos (show 256 + p < 512 by omega), if_neg (show ¬ 256 + p < 256 by omega), Nat.add_sub_cancel_left, updN_same]
  · rw [if_neg c]
    by_cases d : i < 512
    · rw [if_pos d, if_pos d]
      by_cases e : i < 256
      · rw [if_pos e, if_pos e]
      · rw [if_neg e, if_neg e, updN_ne _ _ (by omega)]
    · rw [if_neg d, if_neg d]
def RefP (g : Nat) (Q : Nat → List ByteArray) (G : Nat → Bool) : Part := fun w F => F g ∧ ∃ V : Nat → Value, w.heap[g]? = some (.cells (refCells V G) 44 (0, 0)) ∧
  ∀ p, p < 256 → ∃ A c, V p = .slice A (Q p).length c ∧ (Q p).length ≤ c ∧ Kd.F Kd.string w (fun k => F k ∧ k ≠ g) A (Q p).length (Q p)
theorem RefP.loc {g : Nat} {Q : Nat → List ByteArray} {G : Nat → Bool} : Loc (RefP g Q G) :=
  ⟨fun ⟨h1, V, h2, h3⟩ _ hh => ⟨h1, V, (hh g h1 (blk_lt h2)).trans h2, fun p hp => by obtain ⟨A, c, q1, q2, q3⟩ := h3 p hp; exact ⟨A, c, q1, q2, Kd.F_step q3 (fun k hk hl => hh k hk.1 hl)⟩⟩,
   fun ⟨h1, V, h2, h3⟩ => ⟨⟨h1, blk_lt h2⟩, V, h2, fun p hp => by obtain ⟨A, c, q1, q2, q3⟩ := h3 p hp; exact ⟨A, c, q1, q2, Kd.F_mono (Kd.F_bound q3) (fun k hk => ⟨⟨hk.1.1, hk.2⟩, hk.1.2⟩)⟩⟩,
   fun ⟨h1, V, h2, h3⟩ hh => ⟨hh g h1, V, h2, fun p hp => by obtain ⟨A, c, q1, q2, q3⟩ := h3 p hp; exact ⟨A, c, q1, q2, Kd.F_mono q3 (fun k hk => ⟨hh k hk.1, hk.2⟩)⟩⟩⟩
theorem St.refRow {W w : World} {F0 : Nat → Prop} {l : List Part} {g : Nat} {Q : Nat → List ByteArray} {G : Nat → Bool} (h : St W F0 w l) (i : Nat) (e : l[i]? = some (RefP g Q G)) {p : Nat} (hp : p < 256) :
    ∃ A c, w.cell? ⟨g, p, none⟩ = some (.slice A (Q p).length c) ∧ (Q p).length ≤ c ∧ Kd.C Kd.string w A (Q p).length (Q p) ∧ w.cell? ⟨g, 256 + p, none⟩ = some (.bool (G p)) ∧ w.frozen? ⟨g, p, none⟩ = false ∧ w.frozen? ⟨g, 256 + p, none⟩ = false := by
  obtain ⟨F, _, V, h2, h3⟩ := h.get i e
  obtain ⟨A, c, q1, q2, q3⟩ := h3 p hp
  exact ⟨A, c, (blk_cell h2 p).trans (by rw [refCells_row V G hp, q1]), q2, Kd.F_now q3, (blk_cell h2 (256 + p)).trans (refCells_bool V G hp), blk_frozen h2 p, blk_frozen h2 (256 + p)⟩
set_option maxHeartbeats 8000000 in
set_option maxRecDepth 100000 in
theorem ref_is (w : World) (a b : Int) :
    Calls Try.prog 69 #[.int .i64 a, .int .i64 b] w fun e w' => e = .returned (.bool (isB a b)) ∧ w' = w := by
  by_cases h1 : 0 ≤ a
  · have d1 : decide (0 ≤ a) = true := decide_eq_true h1
    by_cases h2 : a < 16
    · have d2 : decide (a < 16) = true := decide_eq_true h2
      by_cases h3 : 0 ≤ b
      · have d3 : decide (0 ≤ b) = true := decide_eq_true h3
        by_cases h4 : b < 16
        · have d4 : decide (b < 16) = true := decide_eq_true h4
          rw [show isB a b = true from isB_iff.2 ⟨h1, h2, h3, h4⟩]
          go_enter Try.func69, Try.ntmps69
          go_wp2
          go_ret
          exact ⟨rfl, rfl⟩
        · have d4 : decide (b < 16) = false := decide_eq_false h4
          rw [show isB a b = false from decide_eq_false (fun q => h4 q.2.2.2)]
          go_enter Try.func69, Try.ntmps69
          go_wp2
          go_ret
          exact ⟨rfl, rfl⟩
      · have d3 : decide (0 ≤ b) = false := decide_eq_false h3
        rw [show isB a b = false from decide_eq_false (fun q => h3 q.2.2.1)]
        go_enter Try.func69, Try.ntmps69
        go_wp2
        go_ret
        exact ⟨rfl, rfl⟩
    · have d2 : decide (a < 16) = false := decide_eq_false h2
      rw [show isB a b = false from decide_eq_false (fun q => h2 q.2.1)]
      go_enter Try.func69, Try.ntmps69
      go_wp2
      go_ret
      exact ⟨rfl, rfl⟩
  · have d1 : decide (0 ≤ a) = false := decide_eq_false h1
    rw [show isB a b = false from decide_eq_false (fun q => h1 q.1)]
    go_enter Try.func69, Try.ntmps69
    go_wp2
    go_ret
    exact ⟨rfl, rfl⟩
variable {w : World} {F : Nat → Prop} {g : Nat} {Q : Nat → List ByteArray} {G : Nat → Bool} {i j : Nat}
theorem isB_nat (hi : i < 16) (hj : j < 16) : isB (i : Int) (j : Int) = true := isB_iff.2 (by omega)
set_option maxHeartbeats 8000000 in
set_option maxRecDepth 100000 in
theorem ref_place1 (h : RefP g Q G w F) (hi : i < 16) (hj : j < 16) (n : Nat) (hn : (Q (i * 16 + j)).length = n) (h0 : 0 < n) (hm : n ≤ 1000000) (k : Int) :
    Calls Try.prog 68 #[.pointer (some ⟨g, 0, none⟩), .int .i64 (i : Int), .int .i64 (j : Int), .int .i64 k] w fun e w' => e = .returned (.tuple #[.int .i64 (placeI k n), .bool true]) ∧ w' = w := by
  obtain ⟨A, c, q1, q2, q3, _, f1, _⟩ := (St.start1 RefP.loc h).refRow 0 rfl (p := i * 16 + j) (by omega)
  rw [hn] at q1
  have HI := Aside0.mk (isB_nat hi hj)
  have hp := placeI_lt (which := k) (show (0 : Int) < n by omega)
  obtain ⟨p, hpp⟩ : ∃ p, placeI k n = p := ⟨_, rfl⟩
  rw [hpp] at hp ⊢
  unfold placeI at hpp
  obtain ⟨u, hu⟩ : ∃ u, IntKind.u64.wrap k = u := ⟨_, rfl⟩
  rw [hu] at hpp
  have hu0 : 0 ≤ u ∧ u < 18446744073709551616 := by rw [← hu, IntKind.wrap_u64]; omega
  obtain ⟨hu1, hu2⟩ := hu0
  obtain ⟨hp1, hp2⟩ := hp
  have e1 : ((n : Int) == 0) = false := by rw [beq_eq_false_iff_ne]; omega
  have e2 : IntKind.u64.wrap (n : Int) = n := by rw [IntKind.wrap_u64]; omega
  have e3 : IntKind.i64.wrap p = p := by rw [IntKind.wrap_i64]; omega
  have h0' : (0 : Int) < n := by omega
  have hm' : (n : Int) < 18446744073709551616 := by omega
  have i1 : (i : Int) < 16 := by omega
  have j1 : (j : Int) < 16 := by omega
  clear h q2 q3 hn
  go_enter Try.func68, Try.ntmps68
  go_wp2_with (go_at_call 69; refine (ref_is _ i j).mono ?_; rw [HI.out]; rintro e w1 ⟨rfl, rfl⟩)
  go_ret2
  exact ⟨rfl, rfl⟩
set_option maxHeartbeats 8000000 in
set_option maxRecDepth 100000 in
theorem ref_place0 (h : RefP g Q G w F) (a b : Int) (hq : isB a b = true → ∃ i j : Nat, a = i ∧ b = j ∧ i < 16 ∧ j < 16 ∧ Q (i * 16 + j) = []) (k : Int) :
    Calls Try.prog 68 #[.pointer (some ⟨g, 0, none⟩), .int .i64 a, .int .i64 b, .int .i64 k] w fun e w' => e = .returned (.tuple #[.int .i64 0, .bool false]) ∧ w' = w := by
  cases hi : isB a b with
  | false =>
    have HI := Aside0.mk hi
    clear hq hi h
    go_enter Try.func68, Try.ntmps68
    go_wp2_with (go_at_call 69; refine (ref_is _ a b).mono ?_; rw [HI.out]; rintro e w1 ⟨rfl, rfl⟩)
    go_ret2
    exact ⟨rfl, rfl⟩
  | true =>
    obtain ⟨i, j, rfl, rfl, h1, h2, h3⟩ := hq hi
    obtain ⟨A, c, q1, q2, q3, _, f1, _⟩ := (St.start1 RefP.loc h).refRow 0 rfl (p := i * 16 + j) (by omega)
    rw [h3] at q1
    have q1' : w.cell? ⟨g, i * 16 + j, none⟩ = some (.slice A 0 c) := q1
    have HI := Aside0.mk hi
    have i1 : (i : Int) < 16 := by omega
    have j1 : (j : Int) < 16 := by omega
    clear hq hi h q1 q2 q3 h3
    go_enter Try.func68, Try.ntmps68
    go_wp2_with (go_at_call 69; refine (ref_is _ i j).mono ?_; rw [HI.out]; rintro e w1 ⟨rfl, rfl⟩)
    go_ret2
    exact ⟨rfl, rfl⟩
set_option maxHeartbeats 8000000 in
set_option maxRecDepth 100000 in
theorem ref_peek0 (h : RefP g Q G w F) (a b : Int) (hq : isB a b = true → ∃ i j : Nat, a = i ∧ b = j ∧ i < 16 ∧ j < 16 ∧ Q (i * 16 + j) = []) (k : Int) :
    Calls Try.prog 58 #[.pointer (some ⟨g, 0, none⟩), .int .i64 a, .int .i64 b, .int .i64 k] w fun e w' => e = .returned (.tuple #[.string ⟨#[]⟩, .bool false]) ∧ w' = w := by
  have H := Aside0.mk (ref_place0 h a b hq k)
  clear h hq
  go_enter Try.func58, Try.ntmps58
  go_wp2_with (go_at_call 68; refine H.out.mono ?_; rintro e w1 ⟨rfl, rfl⟩)
  go_ret2
  exact ⟨rfl, rfl⟩
theorem str_get {w : World} {A : Option Addr} {n : Nat} {xs : List ByteArray} (h : Kd.C Kd.string w A n xs) {p : Nat} (hp : p < n) : ∃ ad, A = some ad ∧ w.cell? (ad.add p) = some (.string (xs.getD p ⟨#[]⟩)) := by
  obtain ⟨ad, c, hA, hl, hK, hc⟩ := Kd.C_get h ⟨#[]⟩ (p : Int) (by omega) (by omega)
  rw [Int.toNat_natCast] at hK hc
  have hK' : c = [Value.string (xs.getD p ⟨#[]⟩)] := hK
  subst hK'
  have := hc 0 _ rfl
  rw [show p * Kd.string.sz + 0 = p by show p * 1 + 0 = p; omega] at this
  exact ⟨ad, hA, this⟩
set_option maxHeartbeats 8000000 in
set_option maxRecDepth 100000 in
theorem ref_peek1 (h : RefP g Q G w F) (hi : i < 16) (hj : j < 16) (n : Nat) (hn : (Q (i * 16 + j)).length = n) (h0 : 0 < n) (hm : n ≤ 1000000) (k : Int) :
    Calls Try.prog 58 #[.pointer (some ⟨g, 0, none⟩), .int .i64 (i : Int), .int .i64 (j : Int), .int .i64 k] w fun e w' => e = .returned (.tuple #[.string ((Q (i * 16 + j)).getD (placeI k n).toNat ⟨#[]⟩), .bool true]) ∧ w' = w := by
  obtain ⟨A, c, q1, q2, q3, _, f1, _⟩ := (St.start1 RefP.loc h).refRow 0 rfl (p := i * 16 + j) (by omega)
  have H := Aside0.mk (ref_place1 h hi hj n hn h0 hm k)
  rw [hn] at q1 q3
  obtain ⟨hp1, hp2⟩ := placeI_lt (which := k) (show (0 : Int) < n by omega)
  obtain ⟨p, hpp⟩ : ∃ p : Nat, placeI k n = p := ⟨(placeI k n).toNat, by omega⟩
  rw [hpp] at hp1 hp2 H ⊢
  rw [Int.toNat_natCast]
  obtain ⟨ad, rfl, hs⟩ := str_get q3 (p := p) (by omega)
  have i1 : (i : Int) < 16 := by omega
  have j1 : (j : Int) < 16 := by omega
  have p1 : p < n := by omega
  obtain ⟨s, hsx⟩ : ∃ s, (Q (i * 16 + j)).getD p ⟨#[]⟩ = s := ⟨_, rfl⟩
  rw [hsx] at hs ⊢
  clear h hn q2 q3 hpp hsx
  go_enter Try.func58, Try.ntmps58
  go_wp2_with (go_at_call 68; refine H.out.mono ?_; rintro e w1 ⟨rfl, rfl⟩)
  go_ret2
  exact ⟨rfl, rfl⟩
end
section
theorem netInfo9 : (Try.prog.info? 9).map (fun i => (i.zero, i.size, i.bytes)) = some (some (.string ByteArray.empty), 1, 16) := by kernel_rfl
theorem str_F {w : World} {A : Option Addr} {n : Nat} {xs : List ByteArray} (h : Kd.string.C w A n xs) : Kd.F Kd.string w (fun j => j < w.heap.size) A n xs := fun W' hW => by
  refine ⟨h.1, h.2.1, fun h0 => ?_⟩
  obtain ⟨ad, hA, hr⟩ := h.2.2 h0
  refine ⟨ad, hA, fun j p hp => ?_⟩
  obtain ⟨c, hc1, hc2, hc3⟩ := hr j p hp
  refine ⟨c, hc1, hc2, fun i u hu => ?_⟩
  have h1 := hc3 i u hu
  have hlt := World.block_lt_of_cell? w _ h1
  exact (World.cell?_of_block (hW _ hlt hlt)).trans h1
theorem N_str_tight {e base : Nat} {ok : Nat → Prop} {w : World} {v : Value} {xs : List ByteArray} (h : Kd.N Kd.string e w base ok v xs) : Kd.N Kd.string e w base (fun j => some j = v.ownBlock) v xs := by
  obtain ⟨_, rows, hl, hR, hf⟩ := h
  refine ⟨fun j hj => hj.symm, rows, hl, hR, fun j x c hx hc W' _ => ?_⟩
  exact (Kd.FK_now (hf j x c hx hc) : c = [Value.string x])
theorem N_str_base {e base : Nat} {ok : Nat → Prop} {w : World} {v : Value} {xs : List ByteArray} (h : Kd.N Kd.string e w base ok v xs) : ∀ k, v.ownBlock = some k → base ≤ k := by
  obtain ⟨_, rows, hl, ⟨_, inner, how, _⟩, _⟩ := h
  exact own_base how
theorem nil_Ns {e g base : Nat} {w : World} (hb : w.heap[g]? = some (.cells #[] e (0, 0))) (hg : base ≤ g) : Kd.N Kd.string e w base (fun _ => True) (.slice (some ⟨g, 0, none⟩) 0 0) [] :=
  Kd.R_N ⟨fun _ _ => trivial, [], ⟨rfl, .inr ⟨g, 0, #[], rfl, hg, hb, Nat.le_refl _, Nat.zero_le _, rfl, rfl⟩⟩, rfl, fun j p hj => by simp at hj⟩
section
variable {ops : Array Oper} {o : Oper} {rest : List Oper} {a : Act} {Kc : Act → World → Prop} {Q : Exit → Act → World → Prop} {w W : World} {s x : Operand} {g0 n c m k : Nat} {A : Option Addr} {xs ys : List ByteArray} {v : Value}
/-- append(v, ys...) in a region that draws: v is the call's own, ys are strings that lay there before. -/
theorem app_step (hw : Region.wanted o (yielded ops a.tmps) = true) (s x : Operand) (ho : o.op = .call { callee := .builtin .append, args := #[s, x], argTypes := #[38, 38] }) (hs : a.eval s = v) (hx : a.eval x = .slice A m c)
    (hN : Kd.N Kd.string 9 W w.heap.size (fun _ => True) v xs) (okp : Nat → Prop) (hF : Kd.F Kd.string W okp A m ys) (hne : ∀ k, okp k → some k ≠ v.ownBlock) (hb : Below w.heap.size w W) (hl : xs.length + m ≤ 1000000)
    (h : ∀ A1 c1 w1, Kd.N Kd.string 9 w1 w.heap.size (fun _ => True) (.slice A1 (xs ++ ys).length c1) (xs ++ ys) → Below w.heap.size w w1 → W.grownBy w1 v.ownBlock → ((Value.slice A1 (xs ++ ys).length c1).ownBlock = v.ownBlock ∨ ∃ b, (Value.slice A1 (xs ++ ys).length c1).ownBlock = some b ∧ W.heap.size ≤ b) → Kc (a.put o.dst (.slice A1 (xs ++ ys).length c1)) w1) :
    if Region.wanted o (yielded ops a.tmps) = true then Oper.wp Try.prog o a W Kc Q else Kc (a.put o.dst undef) W := by
  refine Kd.N_append_rows_step Kd.string (w0 := w) w.heap.size hw s x 38 9 (.string ByteArray.empty) 16 ho Try.underlying38 netInfo9 rfl (by decide) (by decide) v xs ys A m c (fun _ => True) okp hs hx hN hF (fun k hk => ⟨trivial, hne k hk⟩) (fun _ _ => trivial) hb hb.size (by omega) ?_
  intro v1 w1 hN1 hb1 hg1 hat1
  obtain ⟨A1, c1, rfl⟩ := Kd.N_slice hN1
  exact h A1 c1 w1 hN1 hb1 hg1 hat1
/-- The same in a region of one order. -/
theorem app_one (hgd : o.guard = none) (s x : Operand) (ho : o.op = .call { callee := .builtin .append, args := #[s, x], argTypes := #[38, 38] }) (hs : a.eval s = v) (hx : a.eval x = .slice A m c)
    (hN : Kd.N Kd.string 9 W w.heap.size (fun _ => True) v xs) (okp : Nat → Prop) (hF : Kd.F Kd.string W okp A m ys) (hne : ∀ k, okp k → some k ≠ v.ownBlock) (hb : Below w.heap.size w W) (hl : xs.length + m ≤ 1000000)
    (h : ∀ A1 c1 w1, Kd.N Kd.string 9 w1 w.heap.size (fun _ => True) (.slice A1 (xs ++ ys).length c1) (xs ++ ys) → Below w.heap.size w w1 → W.grownBy w1 v.ownBlock → ((Value.slice A1 (xs ++ ys).length c1).ownBlock = v.ownBlock ∨ ∃ b, (Value.slice A1 (xs ++ ys).length c1).ownBlock = some b ∧ W.heap.size ≤ b) → wpList Try.prog ops Q rest (a.put o.dst (.slice A1 (xs ++ ys).length c1)) w1) :
    wpList Try.prog ops Q (o :: rest) a W := by
  refine Kd.N_append_rows Kd.string (w0 := w) w.heap.size hgd s x 38 9 (.string ByteArray.empty) 16 ho Try.underlying38 netInfo9 rfl (by decide) (by decide) v xs ys A m c (fun _ => True) okp hs hx hN hF (fun k hk => ⟨trivial, hne k hk⟩) (fun _ _ => trivial) hb hb.size (by omega) ?_
  intro v1 w1 hN1 hb1 hg1 hat1
  obtain ⟨A1, c1, rfl⟩ := Kd.N_slice hN1
  exact h A1 c1 w1 hN1 hb1 hg1 hat1
end
/-- A new row for one link. -/
theorem St.refPut {W w w2 : World} {F0 : Nat → Prop} {l : List Part} {g p c : Nat} {Q : Nat → List ByteArray} {G : Nat → Bool} {A : Option Addr} {ys : List ByteArray} (h : St W F0 w (RefP g Q G :: l)) (hp : p < 256) (hb : Below w.heap.size w w2) (hN : Kd.N Kd.string 9 w2 w.heap.size (fun _ => True) (.slice A ys.length c) ys) :
    St W F0 (w2.setCell ⟨g, p, none⟩ (.slice A ys.length c)) (RefP g (updN Q p ys) G :: l) := by
  obtain ⟨F, ⟨fg, V, h2, h3⟩, hF, hu⟩ := h.upd
  have hc := (Kd.N_reads' hN).2.1
  have hFy := Kd.N_F (N_str_tight hN)
  have hbs := N_str_base hN
  have hg := (hF g fg).1
  have hb2 : w2.heap[g]? = some (.cells (refCells V G) 44 (0, 0)) := (hb.block g hg).trans h2
  refine hu _ _ (fun k => F k ∨ w.heap.size ≤ k) ((Fr.of_below (F := F) hb).set (.inl fg) _) (fun k hk => hk) RefP.loc ⟨.inl fg, updN V p (.slice A ys.length c), ?_, fun q hq => ?_⟩
  · exact blk_put hb2 p _ (refCells_setRow V G hp _)
  · by_cases e : q = p
    · subst e
      refine ⟨A, c, by rw [updN_same, updN_same], by rw [updN_same]; exact hc, ?_⟩
      rw [updN_same]
      have h4 := Kd.F_mono hFy (ok' := fun k => (F k ∨ w.heap.size ≤ k) ∧ k ≠ g) (fun k hk => by
        have := hbs k hk.symm
        exact ⟨.inr this, by omega⟩)
      exact Kd.F_far (p := ⟨g, q, none⟩) h4 (fun k hk => hk.2) _
    · obtain ⟨A1, c1, q1, q2, q3⟩ := h3 q hq
      refine ⟨A1, c1, by rw [updN_ne _ _ e, updN_ne _ _ e]; exact q1, by rw [updN_ne _ _ e]; exact q2, ?_⟩
      rw [updN_ne _ _ e]
      have h4 := Kd.F_step (Kd.F_bound q3) (W1 := w2) (fun k hk _ => hb.block k hk.2)
      exact Kd.F_far (p := ⟨g, p, none⟩) (Kd.F_mono h4 (ok' := fun k => (F k ∨ w.heap.size ≤ k) ∧ k ≠ g) (fun k hk => ⟨.inl hk.1.1, hk.1.2⟩)) (fun k hk => hk.2) _
theorem St.refNil {W w : World} {F0 : Nat → Prop} {l : List Part} {g p : Nat} {Q : Nat → List ByteArray} {G : Nat → Bool} (h : St W F0 w (RefP g Q G :: l)) (hp : p < 256) : St W F0 (w.setCell ⟨g, p, none⟩ (.slice none 0 0)) (RefP g (updN Q p []) G :: l) :=
  h.refPut (ys := []) hp (Below.refl _ _) (Kd.N_nil _ _ _ _ _)
theorem St.refBool {W w : World} {F0 : Nat → Prop} {l : List Part} {g p : Nat} {Q : Nat → List ByteArray} {G : Nat → Bool} (h : St W F0 w (RefP g Q G :: l)) (hp : p < 256) (b : Bool) : St W F0 (w.setCell ⟨g, 256 + p, none⟩ (.bool b)) (RefP g Q (updN G p b) :: l) := by
  obtain ⟨F, ⟨fg, V, h2, h3⟩, hF, hu⟩ := h.upd
  refine hu _ _ F ((Fr.refl _ _).set (.inl fg) _) (fun k hk => .inl hk) RefP.loc ⟨fg, V, blk_put h2 (256 + p) _ (refCells_setBool V G hp b), fun q hq => ?_⟩
  obtain ⟨A1, c1, q1, q2, q3⟩ := h3 q hq
  exact ⟨A1, c1, q1, q2, Kd.F_far (p := ⟨g, 256 + p, none⟩) q3 (fun k hk => hk.2) _⟩
variable {w : World} {F : Nat → Prop} {g : Nat} {Q : Nat → List ByteArray} {G : Nat → Bool} {i j : Nat}
set_option maxHeartbeats 8000000 in
set_option maxRecDepth 100000 in
theorem ref_cut_err (a b : Int) (hi : isB a b = false) (c : Bool) :
    Calls Try.prog 56 #[.pointer (some ⟨g, 0, none⟩), .int .i64 a, .int .i64 b, .bool c] w fun e w' => e = .returned (.int .i64 2) ∧ w' = w := by
  have HI := Aside0.mk hi
  clear hi
  go_enter Try.func56, Try.ntmps56
  go_wp2_with (go_at_call 69; refine (ref_is _ a b).mono ?_; rw [HI.out]; rintro e w1 ⟨rfl, rfl⟩)
  go_ret
  exact ⟨rfl, rfl⟩
set_option maxHeartbeats 8000000 in
set_option maxRecDepth 100000 in
theorem ref_cut_ok (h : RefP g Q G w F) (hi : i < 16) (hj : j < 16) (c : Bool) :
    Calls Try.prog 56 #[.pointer (some ⟨g, 0, none⟩), .int .i64 (i : Int), .int .i64 (j : Int), .bool c] w fun e w' => e = .returned (.int .i64 0) ∧ St w F w' [RefP g Q (updN G (i * 16 + j) c)] := by
  have S := St.start1 RefP.loc h
  obtain ⟨_, _, _, _, _, q4, _, f2⟩ := S.refRow 0 rfl (p := i * 16 + j) (by omega)
  have HS := Aside0.mk (S.refBool (p := i * 16 + j) (by omega) c)
  have HI := Aside0.mk (isB_nat hi hj)
  have i1 : (i : Int) < 16 := by omega
  have j1 : (j : Int) < 16 := by omega
  have e1 : 256 + i * 16 + j = 256 + (i * 16 + j) := by omega
  rw [← e1] at q4 f2 HS
  clear h S hi hj e1
  go_enter Try.func56, Try.ntmps56
  go_wp2_with (go_at_call 69; refine (ref_is _ i j).mono ?_; rw [HI.out]; rintro e w1 ⟨rfl, hw⟩; obtain rfl : w = w1 := hw.symm; clear hw)
  go_ret
  exact ⟨rfl, HS.out⟩
/-- The document's loss: of the links to one node. -/
def loseQ (Q : Nat → List ByteArray) (j : Nat) : Nat → Nat → List ByteArray
  | 0 => Q
  | k + 1 => updN (loseQ Q j k) (k * 16 + j) []
def loseT (Q : Nat → List ByteArray) (j : Nat) : Nat → Nat
  | 0 => 0
  | k + 1 => loseT Q j k + (loseQ Q j k (k * 16 + j)).length
theorem loseQ_le (Q : Nat → List ByteArray) (j k p : Nat) : (loseQ Q j k p).length ≤ (Q p).length := by
  induction k with
  | zero => exact Nat.le_refl _
  | succ k ih =>
    unfold loseQ
    by_cases c : p = k * 16 + j
    · rw [c, updN_same]; exact Nat.zero_le _
    · rw [updN_ne _ _ c]; exact ih
theorem loseT_le (Q : Nat → List ByteArray) (j : Nat) (hQ : ∀ p, (Q p).length ≤ 1000000) (k : Nat) : loseT Q j k ≤ k * 1000000 := by
  induction k with
  | zero => exact Nat.le_refl _
  | succ k ih =>
    have h1 := Nat.le_trans (loseQ_le Q j k (k * 16 + j)) (hQ _)
    have e : loseT Q j (k + 1) = loseT Q j k + (loseQ Q j k (k * 16 + j)).length := rfl
    omega
set_option maxHeartbeats 8000000 in
set_option maxRecDepth 100000 in
theorem ref_lose_off (b : Int) (hb : ¬ (0 ≤ b ∧ b < 16)) :
    Calls Try.prog 57 #[.pointer (some ⟨g, 0, none⟩), .int .i64 b] w fun e w' => e = .returned (.int .i64 0) ∧ w' = w := by
  have HI : Aside0 (isB 0 b = false) := ⟨decide_eq_false (fun q => hb ⟨q.2.2.1, q.2.2.2⟩)⟩
  clear hb
  go_enter Try.func57, Try.ntmps57
  go_wp2
  go_loopg [5, 6] 0 (fun gk v5 v6 wr => v5 = .int .i64 0 ∧ v6 = .int .i64 0 ∧ Aside0 (wr = w))
  case atStart => exact ⟨rfl, rfl, ⟨by first | rfl | trivial⟩⟩
  case round =>
    obtain ⟨rfl, rfl, HW⟩ := hrel
    have hW := HW.out
    clear HW
    subst hW
    go_wp2_with (go_at_call 69; refine (ref_is _ 0 b).mono ?_; rw [HI.out]; rintro e w1 ⟨rfl, rfl⟩)
    go_ret
    exact ⟨rfl, rfl⟩
set_option maxHeartbeats 8000000 in
set_option maxRecDepth 100000 in
theorem ref_lose (h : RefP g Q G w F) (hj : j < 16) (hQ : ∀ p, (Q p).length ≤ 1000000) :
    Calls Try.prog 57 #[.pointer (some ⟨g, 0, none⟩), .int .i64 (j : Int)] w fun e w' => e = .returned (.int .i64 (loseT Q j 16)) ∧ St w F w' [RefP g (loseQ Q j 16) G] := by
  have HS0 := Aside0.mk (St.start1 RefP.loc h)
  have HQ := Aside0.mk hQ
  clear h hQ
  go_enter Try.func57, Try.ntmps57
  go_wp2
  go_loopg [5, 6] 16 (fun gk v5 v6 wr => ∃ k : Nat, k ≤ 16 ∧ k + gk = 16 ∧ v6 = .int .i64 (k : Int) ∧ v5 = .int .i64 (loseT Q j k) ∧ Aside0 (St w F wr [RefP g (loseQ Q j k) G]))
  case atStart => exact ⟨0, by omega, by omega, rfl, rfl, HS0⟩
  case round =>
    clear HS0
    obtain ⟨k, hk, hkg, rfl, rfl, HS⟩ := hrel
    by_cases hlt : k < 16
    · have hlz : (k : Int) < 16 := by omega
      have hjz : (j : Int) < 16 := by omega
      have HI := Aside0.mk (isB_nat (i := k) (j := j) hlt hj)
      obtain ⟨A, c, q1, q2, q3, _, f1, _⟩ := HS.out.refRow 0 rfl (p := k * 16 + j) (by omega)
      have HS3 := Aside0.mk (HS.out.refNil (p := k * 16 + j) (by omega))
      obtain ⟨s, hs⟩ : ∃ s : Nat, loseT Q j k = s := ⟨_, rfl⟩
      obtain ⟨ln, hln⟩ : ∃ ln, (loseQ Q j k (k * 16 + j)).length = ln := ⟨_, rfl⟩
      have hs2 : loseT Q j (k + 1) = s + ln := by rw [← hs, ← hln]; rfl
      have hsb := loseT_le Q j HQ.out (k + 1)
      rw [hs2] at hsb
      have hww : wrap64 ((s : Int) + ln) = s + ln := by unfold wrap64; omega
      have hwk : wrap64 ((k : Int) + 1) = k + 1 := by unfold wrap64; omega
      rw [hln] at q1
      rw [hs]
      have HS2 := Aside0.mk hs2
      clear hs hln hs2 hsb q2 q3 HS
      go_wp2_with (go_at_call 69; refine (ref_is _ k j).mono ?_; rw [HI.out]; rintro e w1 ⟨rfl, hw⟩; obtain rfl : wr = w1 := hw.symm; clear hw)
      go_roundg (gk - 1)
      case measure => omega
      case rel => exact ⟨k + 1, by omega, by omega, by first | rfl | go_num, by rw [HS2.out]; first | rfl | go_num, HS3⟩
    · have hk16 : k = 16 := by omega
      subst hk16
      go_wp2
      go_ret
      exact ⟨rfl, HS.out⟩
end
section
variable {w : World} {F : Nat → Prop} {g : Nat} {Q : Nat → List ByteArray} {G : Nat → Bool} {i j : Nat}
set_option maxHeartbeats 8000000 in
set_option maxRecDepth 100000 in
theorem ref_take0 (h : RefP g Q G w F) (a b : Int) (hq : isB a b = true → ∃ i j : Nat, a = i ∧ b = j ∧ i < 16 ∧ j < 16 ∧ Q (i * 16 + j) = []) (k : Int) :
    Calls Try.prog 54 #[.pointer (some ⟨g, 0, none⟩), .int .i64 a, .int .i64 b, .int .i64 k] w fun e w' => e = .returned (.tuple #[.string ⟨#[]⟩, .bool false]) ∧ w' = w := by
  have H := Aside0.mk (ref_place0 h a b hq k)
  clear h hq
  go_enter Try.func54, Try.ntmps54
  go_wp2_with (go_at_call 68; refine H.out.mono ?_; rintro e w1 ⟨rfl, rfl⟩)
  go_ret2
  exact ⟨rfl, rfl⟩
set_option maxHeartbeats 8000000 in
set_option maxRecDepth 100000 in
theorem ref_send_off (a b : Int) (hi : isB a b = false) (A : Option Addr) (n c : Nat) :
    Calls Try.prog 59 #[.pointer (some ⟨g, 0, none⟩), .int .i64 a, .int .i64 b, .slice A n c] w fun e w' => e = .returned (.int .i64 2) ∧ w' = w := by
  have HI := Aside0.mk hi
  clear hi
  go_enter Try.func59, Try.ntmps59
  go_wp2_with (go_at_call 69; refine (ref_is _ a b).mono ?_; rw [HI.out]; rintro e w1 ⟨rfl, rfl⟩)
  go_ret
  exact ⟨rfl, rfl⟩
set_option maxHeartbeats 8000000 in
set_option maxRecDepth 100000 in
theorem ref_send_down (h : RefP g Q G w F) (hi : i < 16) (hj : j < 16) (hG : G (i * 16 + j) = true) (A : Option Addr) (n c : Nat) :
    Calls Try.prog 59 #[.pointer (some ⟨g, 0, none⟩), .int .i64 (i : Int), .int .i64 (j : Int), .slice A n c] w fun e w' => e = .returned (.int .i64 70) ∧ w' = w := by
  obtain ⟨_, _, _, _, _, q4, _, f2⟩ := (St.start1 RefP.loc h).refRow 0 rfl (p := i * 16 + j) (by omega)
  rw [hG] at q4
  have HI := Aside0.mk (isB_nat hi hj)
  have i1 : (i : Int) < 16 := by omega
  have j1 : (j : Int) < 16 := by omega
  have e1 : 256 + i * 16 + j = 256 + (i * 16 + j) := by omega
  rw [← e1] at q4 f2
  clear h hi hj hG e1
  go_enter Try.func59, Try.ntmps59
  go_wp2_with (go_at_call 69; refine (ref_is _ i j).mono ?_; rw [HI.out]; rintro e w1 ⟨rfl, rfl⟩)
  go_ret
  exact ⟨rfl, rfl⟩
set_option maxHeartbeats 8000000 in
set_option maxRecDepth 100000 in
theorem ref_send_full (h : RefP g Q G w F) (hi : i < 16) (hj : j < 16) (hG : G (i * 16 + j) = false) (hn : 256 ≤ (Q (i * 16 + j)).length) (A : Option Addr) (n c : Nat) :
    Calls Try.prog 59 #[.pointer (some ⟨g, 0, none⟩), .int .i64 (i : Int), .int .i64 (j : Int), .slice A n c] w fun e w' => e = .returned (.int .i64 50) ∧ w' = w := by
  obtain ⟨A1, c1, q1, _, _, q4, f1, f2⟩ := (St.start1 RefP.loc h).refRow 0 rfl (p := i * 16 + j) (by omega)
  rw [hG] at q4
  obtain ⟨m, hm⟩ : ∃ m, (Q (i * 16 + j)).length = m := ⟨_, rfl⟩
  rw [hm] at q1 hn
  have HI := Aside0.mk (isB_nat hi hj)
  have i1 : (i : Int) < 16 := by omega
  have j1 : (j : Int) < 16 := by omega
  have m1 : (256 : Int) ≤ m := by omega
  have e1 : 256 + i * 16 + j = 256 + (i * 16 + j) := by omega
  rw [← e1] at q4 f2
  clear h hi hj hG e1 hn hm
  go_enter Try.func59, Try.ntmps59
  go_wp2_with (go_at_call 69; refine (ref_is _ i j).mono ?_; rw [HI.out]; rintro e w1 ⟨rfl, rfl⟩)
  go_ret
  exact ⟨rfl, rfl⟩
set_option maxHeartbeats 8000000 in
set_option maxRecDepth 100000 in
theorem ref_double_off (a b : Int) (hi : isB a b = false) (k : Int) :
    Calls Try.prog 55 #[.pointer (some ⟨g, 0, none⟩), .int .i64 a, .int .i64 b, .int .i64 k] w fun e w' => e = .returned (.int .i64 2) ∧ w' = w := by
  have HI := Aside0.mk hi
  clear hi
  go_enter Try.func55, Try.ntmps55
  go_wp2_with (go_at_call 69; refine (ref_is _ a b).mono ?_; rw [HI.out]; rintro e w1 ⟨rfl, rfl⟩)
  go_ret
  exact ⟨rfl, rfl⟩
set_option maxHeartbeats 8000000 in
set_option maxRecDepth 100000 in
theorem ref_double_none (h : RefP g Q G w F) (hi : i < 16) (hj : j < 16) (hq : Q (i * 16 + j) = []) (k : Int) :
    Calls Try.prog 55 #[.pointer (some ⟨g, 0, none⟩), .int .i64 (i : Int), .int .i64 (j : Int), .int .i64 k] w fun e w' => e = .returned (.int .i64 51) ∧ w' = w := by
  have HI := Aside0.mk (isB_nat hi hj)
  have H := Aside0.mk (ref_peek0 h i j (fun _ => ⟨i, j, rfl, rfl, hi, hj, hq⟩) k)
  clear h hi hj hq
  go_enter Try.func55, Try.ntmps55
  go_wp2_with (first
    | (go_at_call 69; refine (ref_is _ i j).mono ?_; rw [HI.out]; rintro e w1 ⟨rfl, hw⟩; obtain rfl : w = w1 := hw.symm; clear hw)
    | (go_at_call 58; refine H.out.mono ?_; rintro e w1 ⟨rfl, rfl⟩))
  go_ret
  exact ⟨rfl, rfl⟩
set_option maxHeartbeats 8000000 in
set_option maxRecDepth 100000 in
theorem ref_double_full (h : RefP g Q G w F) (hi : i < 16) (hj : j < 16) (hn : 256 ≤ (Q (i * 16 + j)).length) (hm : (Q (i * 16 + j)).length ≤ 1000000) (k : Int) :
    Calls Try.prog 55 #[.pointer (some ⟨g, 0, none⟩), .int .i64 (i : Int), .int .i64 (j : Int), .int .i64 k] w fun e w' => e = .returned (.int .i64 50) ∧ w' = w := by
  obtain ⟨A1, c1, q1, _, _, _, f1, _⟩ := (St.start1 RefP.loc h).refRow 0 rfl (p := i * 16 + j) (by omega)
  have H := Aside0.mk (ref_peek1 h hi hj _ rfl (by omega) hm k)
  obtain ⟨m, hmm⟩ : ∃ m, (Q (i * 16 + j)).length = m := ⟨_, rfl⟩
  rw [hmm] at q1 hn
  have HI := Aside0.mk (isB_nat hi hj)
  have i1 : (i : Int) < 16 := by omega
  have j1 : (j : Int) < 16 := by omega
  have m1 : (256 : Int) ≤ m := by omega
  clear h hi hj hn hmm hm
  go_enter Try.func55, Try.ntmps55
  go_wp2_with (first
    | (go_at_call 69; refine (ref_is _ i j).mono ?_; rw [HI.out]; rintro e w1 ⟨rfl, hw⟩; obtain rfl : w = w1 := hw.symm; clear hw)
    | (go_at_call 58; refine H.out.mono ?_; rintro e w1 ⟨rfl, hw⟩; obtain rfl : w = w1 := hw.symm; clear hw))
  go_ret
  exact ⟨rfl, rfl⟩
theorem new_ne {w : World} {k m c : Nat} (hk : k < w.heap.size) : some k ≠ (Value.slice (some ⟨w.heap.size, 0, none⟩) m c).ownBlock := fun e => by
  change some k = some w.heap.size at e
  cases e
  exact Nat.lt_irrefl _ hk
theorem take_all {α : Type} (xs : List α) (i : Nat) : xs.take i ++ xs.drop (i + 1) = xs.eraseIdx i := (List.eraseIdx_eq_take_drop_succ xs i).symm
set_option maxHeartbeats 8000000 in
set_option maxRecDepth 100000 in
theorem ref_take1 (h : RefP g Q G w F) (hi : i < 16) (hj : j < 16) (n : Nat) (hn : (Q (i * 16 + j)).length = n) (h0 : 0 < n) (hm : n ≤ 1000) (k : Int) :
    Calls Try.prog 54 #[.pointer (some ⟨g, 0, none⟩), .int .i64 (i : Int), .int .i64 (j : Int), .int .i64 k] w fun e w' => e = .returned (.tuple #[.string ((Q (i * 16 + j)).getD (placeI k n).toNat ⟨#[]⟩), .bool true]) ∧ St w F w' [RefP g (updN Q (i * 16 + j) ((Q (i * 16 + j)).eraseIdx (placeI k n).toNat)) G] := by
  have S := St.start1 RefP.loc h
  obtain ⟨A, c, q1, q2, q3, _, f1, _⟩ := S.refRow 0 rfl (p := i * 16 + j) (by omega)
  have H := Aside0.mk (ref_place1 h hi hj n hn h0 (by omega) k)
  rw [hn] at q1 q2 q3
  obtain ⟨hp1, hp2⟩ := placeI_lt (which := k) (show (0 : Int) < n by omega)
  obtain ⟨p, hpp⟩ : ∃ p : Nat, placeI k n = p := ⟨(placeI k n).toNat, by omega⟩
  rw [hpp] at hp1 hp2 H ⊢
  rw [Int.toNat_natCast]
  obtain ⟨ad, rfl, hs⟩ := str_get q3 (p := p) (by omega)
  have i1 : (i : Int) < 16 := by omega
  have j1 : (j : Int) < 16 := by omega
  have p1 : p < n := by omega
  obtain ⟨xs, hxs⟩ : ∃ xs, Q (i * 16 + j) = xs := ⟨_, rfl⟩
  rw [hxs] at hn q3 hs ⊢
  obtain ⟨s, hsx⟩ : ∃ s, xs.getD p ⟨#[]⟩ = s := ⟨_, rfl⟩
  rw [hsx] at hs ⊢
  have hxl : (xs.take p).length = p := by rw [List.length_take, hn]; omega
  have hdl : (xs.drop (p + 1)).length = n - (p + 1) := by rw [List.length_drop, hn]
  have HE := Aside0.mk (take_all xs p)
  have hq3 : Kd.C Kd.string w (some ad) xs.length xs := by rw [hn]; exact q3
  have z0 : ∀ o, (w.alloc o).cell? ⟨g, i * 16 + j, none⟩ = some (.slice (some ad) n c) := fun o => (World.cell?_alloc_lt _ _ _ (World.block_lt_of_cell? w _ q1)).trans q1
  have hCt : Kd.C Kd.string w (some ad) p (xs.take p) := by
    have h1 := Kd.C_take hq3 (m := p) (by omega)
    rw [hxl] at h1
    exact h1
  have hsl1 : ∀ W : World, (Instr.slice 38 (.slice (some ad) n c) none (some (.int .i64 (p : Int))) none).run Try.prog W = .ok (.slice (some ad) p c) W := fun W => by
    rw [cut_h' 38 9 .i64 1 Try.underlying38 (by kernel_rfl) (some ad) n c p (by omega) (by omega) W, Int.toNat_natCast]
  obtain ⟨ad', had⟩ : ∃ ad' : Option Addr, ad' = if c = p + 1 then some ad else some (ad.add (p + 1)) := ⟨_, rfl⟩
  obtain ⟨d, hd⟩ : ∃ d, d = n - (p + 1) := ⟨_, rfl⟩
  have hsl2 : ∀ W : World, (Instr.slice 38 (.slice (some ad) n c) (some (.int .i64 ((p : Int) + 1))) none none).run Try.prog W = .ok (.slice ad' d (c - (p + 1))) W := fun W => by
    rw [cut_l' 38 9 .i64 1 Try.underlying38 (by kernel_rfl) (some ad) n c ((p : Int) + 1) (by omega) (by omega) W, had, hd]
    have e1 : ((p : Int) + 1).toNat = p + 1 := by omega
    rw [e1]
    by_cases q : c = p + 1
    · rw [if_pos q, if_pos q]
    · rw [if_neg q, if_neg q]; simp
  have hCd : Kd.C Kd.string w ad' d (xs.drop (p + 1)) := by
    have h1 := Kd.C_drop hq3 (m := p + 1) (c := c) (by omega) (by omega)
    rw [hdl, ← hd] at h1
    rw [had]
    have e : Kd.string.sz = 1 := rfl
    rw [e, Nat.mul_one] at h1
    exact h1
  have hw1 : IntKind.i64.wrap ((p : Int) + 1) = p + 1 := by rw [IntKind.wrap_i64]; omega
  have hw1' : wrap64 ((p : Int) + 1) = p + 1 := by unfold wrap64; omega
  have HS := Aside0.mk S
  have HCt := Aside0.mk hCt
  have HCd := Aside0.mk hCd
  have HXL := Aside0.mk (And.intro hxl (And.intro hdl hn))
  have HM := Aside0.mk (And.intro hm p1)
  have HDD := Aside0.mk hd
  have HIJ := Aside0.mk (show i * 16 + j < 256 by omega)
  have HQ1 := Aside0.mk q1
  clear h hi hj hxs hn hm h0 q2 q3 hq3 hsx hxl hdl hCt had hd hCd S
  go_enter Try.func54, Try.ntmps54
  go_wp2_with (first
    | (go_at_call 68; refine H.out.mono ?_; rintro e w1 ⟨rfl, hw⟩; obtain rfl : w = w1 := hw.symm; clear hw)
    | ((with_reducible refine gate_builtin (b := .append) rfl ?_); refine app_one (w := w) (W := w.alloc (.cells #[] 9)) (xs := []) (ys := xs.take p) rfl (.tmp 35) (.tmp 45) rfl rfl rfl (nil_Ns (blk_new w _) (Nat.le_refl _)) (fun k => k < w.heap.size) ?hF ?hK (below_alloc (Below.refl _ _) _) (by have := HM.out; simp; omega) ?_; (case hF => exact Kd.F_alloc (str_F HCt.out) _); (case hK => exact fun k hk => new_ne (m := 0) (c := 0) hk); intro A1 c1 w1 hN1 hb1 _ _; rw [List.nil_append, HXL.out.1] at hN1 ⊢; have HN1 := Aside0.mk hN1; have HB1 := Aside0.mk hb1; have z1 : w1.cell? ⟨g, i * 16 + j, none⟩ = some (.slice (some ad) n c) := (hb1.cell (p := ⟨g, i * 16 + j, none⟩) (World.block_lt_of_cell? w _ HQ1.out)).trans HQ1.out; have y1 : w1.frozen? ⟨g, i * 16 + j, none⟩ = false := (hb1.frozen (p := ⟨g, i * 16 + j, none⟩) (World.block_lt_of_cell? w _ HQ1.out)).trans f1; clear hN1 hb1))
  have HN1d : Kd.N Kd.string 9 w1.drew w.heap.size (fun _ => True) (.slice A1 p c1) (xs.take p) := Kd.N_drew HN1.out
  have HFd : Kd.F Kd.string w1.drew (fun k => k < w.heap.size) ad' d (xs.drop (p + 1)) := Kd.F_below (str_F HCd.out) (below_drew HB1.out)
  have hne : ∀ k, k < w.heap.size → some k ≠ (Value.slice A1 p c1).ownBlock := fun k hk e => by
    have := N_str_base HN1d k e.symm
    omega
  have HNd := Aside0.mk (And.intro HN1d (And.intro HFd hne))
  clear HN1d HFd hne
  go_region_law (refine app_step (w := w) (W := w1.drew) (xs := xs.take p) (ys := xs.drop (p + 1)) (by rfl) (.tmp 50) (.tmp 61) rfl rfl rfl HNd.out.1 (fun k => k < w.heap.size) HNd.out.2.1 HNd.out.2.2 (below_drew HB1.out) (by have h1 := HM.out; have h2 := HXL.out; have h3 := HDD.out; omega) ?_; intro A2 c2 w2 hN2 hb2 _ _; rw [HE.out] at hN2 ⊢; have HN2 := Aside0.mk hN2; have HB2 := Aside0.mk hb2; have z2 : w2.cell? ⟨g, i * 16 + j, none⟩ = some (.slice (some ad) n c) := (hb2.cell (p := ⟨g, i * 16 + j, none⟩) (World.block_lt_of_cell? w _ HQ1.out)).trans HQ1.out; have y2 : w2.frozen? ⟨g, i * 16 + j, none⟩ = false := (hb2.frozen (p := ⟨g, i * 16 + j, none⟩) (World.block_lt_of_cell? w _ HQ1.out)).trans f1; clear hN2 hb2)
  all_goals go_wp2
  all_goals go_ret2
  all_goals exact ⟨rfl, HS.out.refPut HIJ.out HB2.out HN2.out⟩
end
section
theorem lit_F {W : World} {k : Nat} {s : ByteArray} (h : W.heap[k]? = some (.cells #[.string s] 9 (0, 0))) : Kd.F Kd.string W (fun j => j = k) (some ⟨k, 0, none⟩) 1 [s] := fun W' hW => by
  have hlt : k < W.heap.size := blk_lt h
  have h1 := (hW k rfl hlt).trans h
  refine ⟨rfl, by decide, fun _ => ⟨⟨k, 0, none⟩, rfl, fun j p hj => ⟨[.string p], rfl, rfl, fun i u hu => ?_⟩⟩⟩
  match j, i, hj, hu with
  | 0, 0, hj, hu =>
    cases hj
    cases hu
    exact (blk_cell h1 0).trans rfl
/-- The row of a link behind the call's own building. -/
theorem lie_alloc {W : World} {p : Addr} {v : Value} (h : W.cell? p = some v) (f : W.frozen? p = false) (o : Obj) : (W.alloc o).cell? p = some v ∧ (W.alloc o).frozen? p = false := by
  have hl := World.block_lt_of_cell? W p h
  exact ⟨((below_alloc (Below.refl _ _) o).cell hl).trans h, ((below_alloc (Below.refl _ _) o).frozen hl).trans f⟩
theorem size_alloc (w : World) (o : Obj) : (w.alloc o).heap.size = w.heap.size + 1 := by
  show (w.heap.push o).size = _
  simp
theorem ne_own {v : Value} {k : Nat} (h : ∀ j, v.ownBlock = some j → j ≠ k) : ∀ j, j = k → some j ≠ v.ownBlock := fun j hj e => h j e.symm hj
theorem newA (w : World) (o : Obj) : (w.alloc o).drew.heap[w.heap.size]? = some o := blk_new w o
theorem newB (w : World) (o o' : Obj) : ((w.alloc o).alloc o').drew.heap[w.heap.size]? = some o := ((below_alloc (Below.refl (w.alloc o).heap.size (w.alloc o)) o').block _ (by rw [size_alloc]; omega)).trans (blk_new w o)
theorem newC (w : World) (o o' : Obj) : ((w.alloc o).alloc o').drew.heap[w.heap.size + 1]? = some o' := by
  have h1 := blk_new (w.alloc o) o'
  rw [size_alloc] at h1
  exact h1
theorem size2 (w : World) (o o' : Obj) : ((w.alloc o).alloc o').drew.heap.size = w.heap.size + 2 := by
  show ((w.alloc o).alloc o').heap.size = _
  rw [size_alloc, size_alloc]
theorem below2 (w : World) (o o' : Obj) : Below w.heap.size w ((w.alloc o).alloc o').drew := below_drew ((below_alloc (Below.refl _ _) o).alloc (by rw [size_alloc]; omega) o')
section
variable {ops : Array Oper} {o : Oper} {a : Act} {Kc : Act → World → Prop} {Q : Exit → Act → World → Prop} {w W : World} {s x : Operand} {k m c g0 : Nat} {A : Option Addr} {xs ys : List ByteArray} {v : Value} {z : ByteArray}
/-- The first append: a fresh empty row, then a row that lay there before the call. -/
theorem app_first (hw : Region.wanted o (yielded ops a.tmps) = true) (s x : Operand) (ho : o.op = .call { callee := .builtin .append, args := #[s, x], argTypes := #[38, 38] }) (hs : a.eval s = .slice (some ⟨g0, 0, none⟩) 0 0) (hx : a.eval x = .slice A m c)
    (hg : W.heap[g0]? = some (.cells #[] 9 (0, 0))) (h0 : w.heap.size ≤ g0) (hF : Kd.C Kd.string w A m ys) (hb : Below w.heap.size w W) (hl : m ≤ 1000000)
    (h : ∀ A1 c1 w1, Kd.N Kd.string 9 w1 w.heap.size (fun _ => True) (.slice A1 ys.length c1) ys → Below w.heap.size w w1 → (∀ j, j < W.heap.size → j ≠ g0 → w1.heap[j]? = W.heap[j]?) → (∀ j, (Value.slice A1 ys.length c1).ownBlock = some j → j = g0 ∨ W.heap.size ≤ j) → Kc (a.put o.dst (.slice A1 ys.length c1)) w1) :
    if Region.wanted o (yielded ops a.tmps) = true then Oper.wp Try.prog o a W Kc Q else Kc (a.put o.dst undef) W := by
  refine app_step (w := w) (W := W) (xs := []) (ys := ys) hw s x ho hs hx (nil_Ns hg h0) (fun k => k < w.heap.size) (Kd.F_step (str_F hF) (fun k hk _ => hb.block k hk)) (fun k hk e => ?_) hb (by simpa using hl) ?_
  · change some k = some g0 at e
    cases e
    omega
  · intro A1 c1 w1 h1 h2 h3 h4
    rw [List.nil_append] at *
    refine h A1 c1 w1 h1 h2 (fun j hj hne => h3.block j hj (fun e => ?_)) (fun j hj => ?_)
    · change some j = some g0 at e
      cases e
      exact hne rfl
    · rcases h4 with h4 | ⟨b, h4, h5⟩
      · left
        rw [hj] at h4
        change some j = some g0 at h4
        cases h4
        rfl
      · right
        rw [hj] at h4
        cases h4
        exact h5
/-- The second append: one string of a literal. -/
theorem app_second (hw : Region.wanted o (yielded ops a.tmps) = true) (s x : Operand) (ho : o.op = .call { callee := .builtin .append, args := #[s, x], argTypes := #[38, 38] }) (hs : a.eval s = v) (hx : a.eval x = .slice (some ⟨k, 0, none⟩) 1 1)
    (hN : Kd.N Kd.string 9 W w.heap.size (fun _ => True) v xs) (hk : W.heap[k]? = some (.cells #[.string z] 9 (0, 0))) (hne : ∀ j, v.ownBlock = some j → j ≠ k) (hb : Below w.heap.size w W) (hl : xs.length ≤ 999999)
    (h : ∀ A1 c1 w1, Kd.N Kd.string 9 w1 w.heap.size (fun _ => True) (.slice A1 (xs ++ [z]).length c1) (xs ++ [z]) → Below w.heap.size w w1 → Kc (a.put o.dst (.slice A1 (xs ++ [z]).length c1)) w1) :
    if Region.wanted o (yielded ops a.tmps) = true then Oper.wp Try.prog o a W Kc Q else Kc (a.put o.dst undef) W :=
  app_step (w := w) (W := W) hw s x ho hs hx hN (fun j => j = k) (lit_F hk) (ne_own hne) hb (by omega) (fun A1 c1 w1 h1 h2 _ _ => h A1 c1 w1 h1 h2)
end
variable {w : World} {F : Nat → Prop} {g : Nat} {Q : Nat → List ByteArray} {G : Nat → Bool} {i j : Nat}
set_option maxHeartbeats 32000000 in
set_option maxRecDepth 100000 in
theorem ref_send_ok (h : RefP g Q G w F) (hi : i < 16) (hj : j < 16) (hG : G (i * 16 + j) = false) (hn : (Q (i * 16 + j)).length < 256) (A : Option Addr) (n c : Nat) (x : List Int) (hx : (Kd.int .u8).C w A n x) :
    Calls Try.prog 59 #[.pointer (some ⟨g, 0, none⟩), .int .i64 (i : Int), .int .i64 (j : Int), .slice A n c] w fun e w' => e = .returned (.int .i64 0) ∧ St w F w' [RefP g (updN Q (i * 16 + j) (Q (i * 16 + j) ++ [strOfNums x])) G] := by
  have S := St.start1 RefP.loc h
  obtain ⟨A1, c1, q1, q2, q3, q4, f1, f2⟩ := S.refRow 0 rfl (p := i * 16 + j) (by omega)
  rw [hG] at q4
  obtain ⟨xs, hxs⟩ : ∃ xs, Q (i * 16 + j) = xs := ⟨_, rfl⟩
  rw [hxs] at q1 q3 hn ⊢
  obtain ⟨m, hm⟩ : ∃ m, xs.length = m := ⟨_, rfl⟩
  rw [hm] at q1 q3 hn
  obtain ⟨s, hs⟩ : ∃ s, strOfNums x = s := ⟨_, rfl⟩
  rw [hs]
  have hcvF : ∀ W : World, Below w.heap.size w W → (convert 22 9 (.slice A n c)).run Try.prog W = .ok (.string s) W := fun W hb => hs ▸ Kd.C_string Try.underlying22 (by kernel_rfl) (by kernel_rfl) (Kd.C_below hx hb)
  have HI := Aside0.mk (isB_nat hi hj)
  have i1 : (i : Int) < 16 := by omega
  have j1 : (j : Int) < 16 := by omega
  have m1 : ¬ (256 : Int) ≤ m := by omega
  have e1 : 256 + i * 16 + j = 256 + (i * 16 + j) := by omega
  rw [← e1] at q4 f2
  have HM := Aside0.mk (And.intro hn hm)
  have HS := Aside0.mk S
  have HC := Aside0.mk q3
  have HQ1 := Aside0.mk (And.intro q1 f1)
  have HIJ := Aside0.mk (show i * 16 + j < 256 by omega)
  have hcv0 := hcvF w.drew (below_drew (Below.refl _ _))
  have hcv1 : ∀ o, (convert 22 9 (.slice A n c)).run Try.prog (w.alloc o).drew = .ok (.string s) (w.alloc o).drew := fun o => hcvF _ (below_drew (below_alloc (Below.refl _ _) o))
  have z1 : ∀ o, (w.alloc o).cell? ⟨g, i * 16 + j, none⟩ = some (.slice A1 m c1) := fun o => (lie_alloc q1 f1 o).1
  have y1 : ∀ o, (w.alloc o).frozen? ⟨g, i * 16 + j, none⟩ = false := fun o => (lie_alloc q1 f1 o).2
  have z2 : ∀ o o', ((w.alloc o).alloc o').cell? ⟨g, i * 16 + j, none⟩ = some (.slice A1 m c1) := fun o o' => (lie_alloc (z1 o) (y1 o) o').1
  have HCV := Aside0.mk hcvF
  clear h S hi hj hG e1 hn hm hs hx hcvF q2 q3 hxs
  go_enter Try.func59, Try.ntmps59
  go_wp2_with (go_at_call 69; refine (ref_is _ i j).mono ?_; rw [HI.out]; rintro e w1 ⟨rfl, hw⟩; obtain rfl : w = w1 := hw.symm; clear hw)
  go_region_law (first
    | (refine app_first (w := w) (W := (w.alloc (.cells #[] 9)).drew) (g0 := w.heap.size) (ys := xs) (by rfl) (.tmp 34) (.tmp 42) rfl rfl rfl (newA _ _) (Nat.le_refl _) HC.out (below_drew (below_alloc (Below.refl _ _) _)) (by have := HM.out; omega) ?_; intro A2 c2 w2 h1 h2 _ _; have hcv2 := HCV.out w2 h2; have HN2 := Aside0.mk h1; have HB2 := Aside0.mk h2; clear h1 h2)
    | (refine app_first (w := w) (W := ((w.alloc (.cells #[] 9)).alloc (.cells #[.string s] 9)).drew) (g0 := w.heap.size) (ys := xs) (by rfl) (.tmp 34) (.tmp 42) rfl rfl rfl (newB _ _ _) (Nat.le_refl _) HC.out (below2 _ _ _) (by have := HM.out; omega) ?_; intro A2 c2 w2 h1 h2 h3 h4; have hl1 := (h3 (w.heap.size + 1) (by rw [size2]; omega) (by omega)).trans (newC _ _ _); have hd1 : ∀ j, (Value.slice A2 xs.length c2).ownBlock = some j → j ≠ w.heap.size + 1 := (fun j hj => by have := h4 j hj; rw [size2] at this; omega); have HN2 := Aside0.mk h1; have HB2 := Aside0.mk h2; have HL2 := Aside0.mk (And.intro hl1 hd1); clear h1 h2 h3 h4 hl1 hd1)
    | (refine app_first (w := w) (W := ((w.alloc (.cells #[.string s] 9)).alloc (.cells #[] 9)).drew) (g0 := w.heap.size + 1) (ys := xs) (by rfl) (.tmp 34) (.tmp 42) rfl rfl rfl (newC _ _ _) (Nat.le_succ _) HC.out (below2 _ _ _) (by have := HM.out; omega) ?_; intro A2 c2 w2 h1 h2 h3 h4; have hl1 := (h3 w.heap.size (by rw [size2]; omega) (by omega)).trans (newB _ _ _); have hd1 : ∀ j, (Value.slice A2 xs.length c2).ownBlock = some j → j ≠ w.heap.size := (fun j hj => by have := h4 j hj; rw [size2] at this; omega); have HN2 := Aside0.mk h1; have HB2 := Aside0.mk h2; have HL2 := Aside0.mk (And.intro hl1 hd1); clear h1 h2 h3 h4 hl1 hd1)
    | (refine app_second (w := w) (W := w2) (xs := xs) (z := s) (by rfl) (.tmp 43) (.tmp 46) rfl rfl rfl HN2.out HL2.out.1 HL2.out.2 HB2.out (by have := HM.out; omega) ?_; intro A3 c3 w3 h1 h2; have HN3 := Aside0.mk h1; have HB3 := Aside0.mk h2; have z3 := (h2.cell (p := ⟨g, i * 16 + j, none⟩) (World.block_lt_of_cell? w _ HQ1.out.1)).trans HQ1.out.1; have y3 := (h2.frozen (p := ⟨g, i * 16 + j, none⟩) (World.block_lt_of_cell? w _ HQ1.out.1)).trans HQ1.out.2; clear h1 h2)
    | (refine app_second (w := w) (W := w2.alloc (.cells #[.string s] 9)) (xs := xs) (z := s) (by rfl) (.tmp 43) (.tmp 46) rfl rfl rfl (Kd.N_below HN2.out (below_alloc (Below.refl _ _) _)) (blk_new _ _) (fun j hj => Nat.ne_of_lt (Kd.N_lt HN2.out j hj)) (HB2.out.alloc HB2.out.size _) (by have := HM.out; omega) ?_; intro A3 c3 w3 h1 h2; have HN3 := Aside0.mk h1; have HB3 := Aside0.mk h2; have z3 := (h2.cell (p := ⟨g, i * 16 + j, none⟩) (World.block_lt_of_cell? w _ HQ1.out.1)).trans HQ1.out.1; have y3 := (h2.frozen (p := ⟨g, i * 16 + j, none⟩) (World.block_lt_of_cell? w _ HQ1.out.1)).trans HQ1.out.2; clear h1 h2))
  all_goals
    go_wp2
    go_ret
    have hP := HS.out.refPut HIJ.out HB3.out HN3.out
    rw [List.length_append] at hP
    exact ⟨rfl, hP⟩
set_option maxHeartbeats 32000000 in
set_option maxRecDepth 100000 in
theorem ref_double_ok (h : RefP g Q G w F) (hi : i < 16) (hj : j < 16) (h0 : 0 < (Q (i * 16 + j)).length) (hn : (Q (i * 16 + j)).length < 256) (k : Int) :
    Calls Try.prog 55 #[.pointer (some ⟨g, 0, none⟩), .int .i64 (i : Int), .int .i64 (j : Int), .int .i64 k] w fun e w' => e = .returned (.int .i64 0) ∧ St w F w' [RefP g (updN Q (i * 16 + j) (Q (i * 16 + j) ++ [(Q (i * 16 + j)).getD (placeI k (Q (i * 16 + j)).length).toNat ⟨#[]⟩])) G] := by
  have S := St.start1 RefP.loc h
  obtain ⟨A1, c1, q1, q2, q3, _, f1, _⟩ := S.refRow 0 rfl (p := i * 16 + j) (by omega)
  have H := Aside0.mk (ref_peek1 h hi hj _ rfl h0 (by omega) k)
  obtain ⟨s, hs⟩ : ∃ s, (Q (i * 16 + j)).getD (placeI k (Q (i * 16 + j)).length).toNat ⟨#[]⟩ = s := ⟨_, rfl⟩
  rw [hs] at H ⊢
  obtain ⟨xs, hxs⟩ : ∃ xs, Q (i * 16 + j) = xs := ⟨_, rfl⟩
  rw [hxs] at q1 q3 hn ⊢
  obtain ⟨m, hm⟩ : ∃ m, xs.length = m := ⟨_, rfl⟩
  rw [hm] at q1 q3 hn
  have HI := Aside0.mk (isB_nat hi hj)
  have i1 : (i : Int) < 16 := by omega
  have j1 : (j : Int) < 16 := by omega
  have m1 : ¬ (256 : Int) ≤ m := by omega
  have HM := Aside0.mk (And.intro hn hm)
  have HS := Aside0.mk S
  have HC := Aside0.mk q3
  have HQ1 := Aside0.mk (And.intro q1 f1)
  have HIJ := Aside0.mk (show i * 16 + j < 256 by omega)
  have z1 : ∀ o, (w.alloc o).cell? ⟨g, i * 16 + j, none⟩ = some (.slice A1 m c1) := fun o => (lie_alloc q1 f1 o).1
  have y1 : ∀ o, (w.alloc o).frozen? ⟨g, i * 16 + j, none⟩ = false := fun o => (lie_alloc q1 f1 o).2
  have z2 : ∀ o o', ((w.alloc o).alloc o').cell? ⟨g, i * 16 + j, none⟩ = some (.slice A1 m c1) := fun o o' => (lie_alloc (z1 o) (y1 o) o').1
  clear h S hi hj hn hm hs q2 q3 hxs h0
  go_enter Try.func55, Try.ntmps55
  go_wp2_with (first
    | (go_at_call 69; refine (ref_is _ i j).mono ?_; rw [HI.out]; rintro e w1 ⟨rfl, hw⟩; obtain rfl : w = w1 := hw.symm; clear hw)
    | (go_at_call 58; refine H.out.mono ?_; rintro e w1 ⟨rfl, hw⟩; obtain rfl : w = w1 := hw.symm; clear hw))
  go_region_law (first
    | (refine app_first (w := w) (W := (w.alloc (.cells #[] 9)).drew) (g0 := w.heap.size) (ys := xs) (by rfl) (.tmp 38) (.tmp 46) rfl rfl rfl (newA _ _) (Nat.le_refl _) HC.out (below_drew (below_alloc (Below.refl _ _) _)) (by have := HM.out; omega) ?_; intro A2 c2 w2 h1 h2 _ _; have HN2 := Aside0.mk h1; have HB2 := Aside0.mk h2; clear h1 h2)
    | (refine app_first (w := w) (W := ((w.alloc (.cells #[] 9)).alloc (.cells #[.string s] 9)).drew) (g0 := w.heap.size) (ys := xs) (by rfl) (.tmp 38) (.tmp 46) rfl rfl rfl (newB _ _ _) (Nat.le_refl _) HC.out (below2 _ _ _) (by have := HM.out; omega) ?_; intro A2 c2 w2 h1 h2 h3 h4; have hl1 := (h3 (w.heap.size + 1) (by rw [size2]; omega) (by omega)).trans (newC _ _ _); have hd1 : ∀ j, (Value.slice A2 xs.length c2).ownBlock = some j → j ≠ w.heap.size + 1 := (fun j hj => by have := h4 j hj; rw [size2] at this; omega); have HN2 := Aside0.mk h1; have HB2 := Aside0.mk h2; have HL2 := Aside0.mk (And.intro hl1 hd1); clear h1 h2 h3 h4 hl1 hd1)
    | (refine app_first (w := w) (W := ((w.alloc (.cells #[.string s] 9)).alloc (.cells #[] 9)).drew) (g0 := w.heap.size + 1) (ys := xs) (by rfl) (.tmp 38) (.tmp 46) rfl rfl rfl (newC _ _ _) (Nat.le_succ _) HC.out (below2 _ _ _) (by have := HM.out; omega) ?_; intro A2 c2 w2 h1 h2 h3 h4; have hl1 := (h3 w.heap.size (by rw [size2]; omega) (by omega)).trans (newB _ _ _); have hd1 : ∀ j, (Value.slice A2 xs.length c2).ownBlock = some j → j ≠ w.heap.size := (fun j hj => by have := h4 j hj; rw [size2] at this; omega); have HN2 := Aside0.mk h1; have HB2 := Aside0.mk h2; have HL2 := Aside0.mk (And.intro hl1 hd1); clear h1 h2 h3 h4 hl1 hd1)
    | (refine app_second (w := w) (W := w2) (xs := xs) (z := s) (by rfl) (.tmp 47) (.tmp 49) rfl rfl rfl HN2.out HL2.out.1 HL2.out.2 HB2.out (by have := HM.out; omega) ?_; intro A3 c3 w3 h1 h2; have HN3 := Aside0.mk h1; have HB3 := Aside0.mk h2; have z3 := (h2.cell (p := ⟨g, i * 16 + j, none⟩) (World.block_lt_of_cell? w _ HQ1.out.1)).trans HQ1.out.1; have y3 := (h2.frozen (p := ⟨g, i * 16 + j, none⟩) (World.block_lt_of_cell? w _ HQ1.out.1)).trans HQ1.out.2; clear h1 h2)
    | (refine app_second (w := w) (W := w2.alloc (.cells #[.string s] 9)) (xs := xs) (z := s) (by rfl) (.tmp 47) (.tmp 49) rfl rfl rfl (Kd.N_below HN2.out (below_alloc (Below.refl _ _) _)) (blk_new _ _) (fun j hj => Nat.ne_of_lt (Kd.N_lt HN2.out j hj)) (HB2.out.alloc HB2.out.size _) (by have := HM.out; omega) ?_; intro A3 c3 w3 h1 h2; have HN3 := Aside0.mk h1; have HB3 := Aside0.mk h2; have z3 := (h2.cell (p := ⟨g, i * 16 + j, none⟩) (World.block_lt_of_cell? w _ HQ1.out.1)).trans HQ1.out.1; have y3 := (h2.frozen (p := ⟨g, i * 16 + j, none⟩) (World.block_lt_of_cell? w _ HQ1.out.1)).trans HQ1.out.2; clear h1 h2))
  all_goals
    go_wp2
    go_ret
    have hP := HS.out.refPut HIJ.out HB3.out HN3.out
    rw [List.length_append] at hP
    exact ⟨rfl, hP⟩
end
section
variable {w : World} {g r : Nat} {kd a b k : Int} {A : Option Addr} {n c : Nat}
theorem box_cells {w W : World} {cs : Array Value} {t : TypeId} (h : W.heap[w.heap.size]? = some (.cells cs t (0, 0))) (i : Nat) : W.cell? ⟨w.heap.size, i, none⟩ = cs[i]? := blk_cell h i
theorem beq_of_ne {x y : Int} (h : x ≠ y) : (x == y) = false := by simpa using h
set_option maxHeartbeats 8000000 in
set_option maxRecDepth 100000 in
theorem do_double {P : World → World → Prop} {R : World → Prop} (x : Int)
    (H1 : ∀ w1, Below w.heap.size w w1 → Calls Try.prog 16 #[.pointer (some ⟨g, 0, none⟩), .int .i64 a, .int .i64 b, .int .i64 k] w1 fun e w2 => e = .returned (.int .i64 x) ∧ P w1 w2)
    (HK : ∀ w1 w2, Below w.heap.size w w1 → P w1 w2 → ∀ j, w.heap.size ≤ j → j < w1.heap.size → w2.heap[j]? = w1.heap[j]?)
    (H2 : ∀ w1 w2, Below w.heap.size w w1 → P w1 w2 → Calls Try.prog 55 #[.pointer (some ⟨r, 0, none⟩), .int .i64 a, .int .i64 b, .int .i64 k] w2 fun e w3 => e = .returned (.int .i64 x) ∧ R w3) :
    Calls Try.prog 20 #[.pointer (some ⟨g, 0, none⟩), .pointer (some ⟨r, 0, none⟩), .agg #[.int .i64 (2 : Int), .int .i64 a, .int .i64 b, .int .i64 k, .slice A n c]] w fun e w' => e = .returned (.bool true) ∧ R w' := by
  have H1 := Aside0.mk H1
  have H2 := Aside0.mk H2
  have HK := Aside0.mk HK
  have hx := newA w (.cells #[.int .i64 2, .int .i64 a, .int .i64 b, .int .i64 k, .slice A n c] 46)
  have HB0 := Aside0.mk (below_drew (below_alloc (Below.refl w.heap.size w) (.cells #[.int .i64 2, .int .i64 a, .int .i64 b, .int .i64 k, .slice A n c] 46)))
  have HSZ := Aside0.mk (show w.heap.size < (w.alloc (.cells #[.int .i64 2, .int .i64 a, .int .i64 b, .int .i64 k, .slice A n c] 46)).drew.heap.size from by rw [show (w.alloc (.cells #[.int .i64 2, .int .i64 a, .int .i64 b, .int .i64 k, .slice A n c] 46)).drew.heap.size = w.heap.size + 1 from size_alloc _ _]; omega)
  have HX := Aside0.mk hx
  clear hx
  go_enter Try.func20, Try.ntmps20
  go_wp2
  refine start_ (n := 18) (S := fun w' => w'.cell? ⟨w.heap.size, 1, none⟩ = some (.int .i64 a) ∧ w'.cell? ⟨w.heap.size, 2, none⟩ = some (.int .i64 b) ∧ w'.cell? ⟨w.heap.size, 3, none⟩ = some (.int .i64 k)) (ds := [15]) #[false, false, false, false, false, false, false, false, false, false, false, false, false, false, false, false, false, false] (by kernel_rfl) rfl rfl ⟨(box_cells HX.out 1).trans rfl, (box_cells HX.out 2).trans rfl, (box_cells HX.out 3).trans rfl⟩ (fun hHeld => ?_)
  refine pure_ (i := 0) (N := some 69) (v := ?_) (a' := ?_) #[true, false, false, false, false, false, false, false, false, false, false, false, false, false, false, false, false, false] rfl rfl (by kernel_rfl) (fun _ _ _ h => h) (Or.inl ⟨by rfl, ?_⟩) ?_ ?_
  rotate_left
  · intro w'
    go_simp
    with_reducible rfl
  rotate_left
  · simp only [Act.put, List.setIfInBounds_toArray, List.set_cons_zero, List.set_cons_succ, i64_w, i32_w]
    rfl
  refine pure_ (i := 1) (N := some 70) (v := ?_) (a' := ?_) #[true, true, false, false, false, false, false, false, false, false, false, false, false, false, false, false, false, false] rfl rfl (by kernel_rfl) (fun _ _ _ h => h) (Or.inl ⟨by rfl, ?_⟩) ?_ ?_
  rotate_left
  · intro w'
    go_simp
    with_reducible rfl
  rotate_left
  · simp only [Act.put, List.setIfInBounds_toArray, List.set_cons_zero, List.set_cons_succ, i64_w, i32_w]
    rfl
  refine pure_ (i := 3) (N := some 72) (v := ?_) (a' := ?_) #[true, true, false, true, false, false, false, false, false, false, false, false, false, false, false, false, false, false] rfl rfl (by kernel_rfl) (fun _ _ _ h => h) (Or.inl ⟨by rfl, ?_⟩) ?_ ?_
  rotate_left
  · intro w'
    go_simp
    with_reducible rfl
  rotate_left
  · simp only [Act.put, List.setIfInBounds_toArray, List.set_cons_zero, List.set_cons_succ, i64_w, i32_w]
    rfl
  refine pure_ (i := 5) (N := some 74) (v := ?_) (a' := ?_) #[true, true, false, true, false, true, false, false, false, false, false, false, false, false, false, false, false, false] rfl rfl (by kernel_rfl) (fun _ _ _ h => h) (Or.inl ⟨by rfl, ?_⟩) ?_ ?_
  rotate_left
  · intro w'
    go_simp
    with_reducible rfl
  rotate_left
  · simp only [Act.put, List.setIfInBounds_toArray, List.set_cons_zero, List.set_cons_succ, i64_w, i32_w]
    rfl
  refine pure_ (i := 8) (N := some 77) (v := ?_) (a' := ?_) #[true, true, false, true, false, true, false, false, true, false, false, false, false, false, false, false, false, false] rfl rfl (by kernel_rfl) (fun _ _ _ h => h) (Or.inl ⟨by rfl, ?_⟩) ?_ ?_
  rotate_left
  · intro w'
    go_simp
    with_reducible rfl
  rotate_left
  · simp only [Act.put, List.setIfInBounds_toArray, List.set_cons_zero, List.set_cons_succ, i64_w, i32_w]
    rfl
  refine pure_ (i := 9) (N := some 78) (v := ?_) (a' := ?_) #[true, true, false, true, false, true, false, false, true, true, false, false, false, false, false, false, false, false] rfl rfl (by kernel_rfl) (fun _ _ _ h => h) (Or.inl ⟨by rfl, ?_⟩) ?_ ?_
  rotate_left
  · intro w'
    go_simp
    with_reducible rfl
  rotate_left
  · simp only [Act.put, List.setIfInBounds_toArray, List.set_cons_zero, List.set_cons_succ, i64_w, i32_w]
    rfl
  refine pure_ (i := 11) (N := some 80) (v := ?_) (a' := ?_) #[true, true, false, true, false, true, false, false, true, true, false, true, false, false, false, false, false, false] rfl rfl (by kernel_rfl) (fun _ _ _ h => h) (Or.inl ⟨by rfl, ?_⟩) ?_ ?_
  rotate_left
  · intro w'
    go_simp
    with_reducible rfl
  rotate_left
  · simp only [Act.put, List.setIfInBounds_toArray, List.set_cons_zero, List.set_cons_succ, i64_w, i32_w]
    rfl
  refine pure_ (i := 13) (N := some 82) (v := ?_) (a' := ?_) #[true, true, false, true, false, true, false, false, true, true, false, true, false, true, false, false, false, false] rfl rfl (by kernel_rfl) (fun _ _ _ h => h) (Or.inl ⟨by rfl, ?_⟩) ?_ ?_
  rotate_left
  · intro w'
    go_simp
    with_reducible rfl
  rotate_left
  · simp only [Act.put, List.setIfInBounds_toArray, List.set_cons_zero, List.set_cons_succ, i64_w, i32_w]
    rfl
  refine take_ (i := 2) (N := some 71) (v := ?_) (a' := ?_) #[true, true, true, true, false, true, false, false, true, true, false, true, false, true, false, false, false, false] rfl rfl (by kernel_rfl) (fun _ _ _ h => h) (Or.inl ⟨by rfl, ?_⟩) hHeld ?_ ?_
  rotate_left
  · rintro w' ⟨s0, s1, s2⟩
    go_simp
    with_reducible rfl
  rotate_left
  · simp only [Act.put, List.setIfInBounds_toArray, List.set_cons_zero, List.set_cons_succ, i64_w, i32_w]
    rfl
  refine take_ (i := 4) (N := some 73) (v := ?_) (a' := ?_) #[true, true, true, true, true, true, false, false, true, true, false, true, false, true, false, false, false, false] rfl rfl (by kernel_rfl) (fun _ _ _ h => h) (Or.inl ⟨by rfl, ?_⟩) hHeld ?_ ?_
  rotate_left
  · rintro w' ⟨s0, s1, s2⟩
    go_simp
    with_reducible rfl
  rotate_left
  · simp only [Act.put, List.setIfInBounds_toArray, List.set_cons_zero, List.set_cons_succ, i64_w, i32_w]
    rfl
  refine take_ (i := 6) (N := some 75) (v := ?_) (a' := ?_) #[true, true, true, true, true, true, true, false, true, true, false, true, false, true, false, false, false, false] rfl rfl (by kernel_rfl) (fun _ _ _ h => h) (Or.inl ⟨by rfl, ?_⟩) hHeld ?_ ?_
  rotate_left
  · rintro w' ⟨s0, s1, s2⟩
    go_simp
    with_reducible rfl
  rotate_left
  · simp only [Act.put, List.setIfInBounds_toArray, List.set_cons_zero, List.set_cons_succ, i64_w, i32_w]
    rfl
  refine take_ (i := 10) (N := some 79) (v := ?_) (a' := ?_) #[true, true, true, true, true, true, true, false, true, true, true, true, false, true, false, false, false, false] rfl rfl (by kernel_rfl) (fun _ _ _ h => h) (Or.inl ⟨by rfl, ?_⟩) hHeld ?_ ?_
  rotate_left
  · rintro w' ⟨s0, s1, s2⟩
    go_simp
    with_reducible rfl
  rotate_left
  · simp only [Act.put, List.setIfInBounds_toArray, List.set_cons_zero, List.set_cons_succ, i64_w, i32_w]
    rfl
  refine take_ (i := 12) (N := some 81) (v := ?_) (a' := ?_) #[true, true, true, true, true, true, true, false, true, true, true, true, true, true, false, false, false, false] rfl rfl (by kernel_rfl) (fun _ _ _ h => h) (Or.inl ⟨by rfl, ?_⟩) hHeld ?_ ?_
  rotate_left
  · rintro w' ⟨s0, s1, s2⟩
    go_simp
    with_reducible rfl
  rotate_left
  · simp only [Act.put, List.setIfInBounds_toArray, List.set_cons_zero, List.set_cons_succ, i64_w, i32_w]
    rfl
  refine take_ (i := 14) (N := some 83) (v := ?_) (a' := ?_) #[true, true, true, true, true, true, true, false, true, true, true, true, true, true, true, false, false, false] rfl rfl (by kernel_rfl) (fun _ _ _ h => h) (Or.inl ⟨by rfl, ?_⟩) hHeld ?_ ?_
  rotate_left
  · rintro w' ⟨s0, s1, s2⟩
    go_simp
    with_reducible rfl
  rotate_left
  · simp only [Act.put, List.setIfInBounds_toArray, List.set_cons_zero, List.set_cons_succ, i64_w, i32_w]
    rfl
  refine one_ (i := 7) (N := some 76) #[true, true, true, true, true, true, true, true, true, true, true, true, true, true, true, false, false, false] rfl rfl (by kernel_rfl) (by decide) (fun K hK => ?_)
  refine goes_ Try.func16 (by kernel_rfl) rfl #[.pointer (some ⟨g, 0, none⟩), .int .i64 a, .int .i64 b, .int .i64 k] (by rfl) rfl rfl (by simp only [List.map_toArray, List.map_cons, List.map_nil]; rfl) ?_
  with_reducible refine (H1.out _ HB0.out).mono ?_
  rintro e w2 ⟨rfl, hp⟩
  refine ⟨_, rfl, ?_⟩
  have hx2 := (HK.out _ _ HB0.out hp _ (Nat.le_refl _) HSZ.out).trans HX.out
  have HX2 := Aside0.mk hx2
  have HP := Aside0.mk hp
  clear hp hx2
  refine hK.out _ _ ⟨(box_cells HX2.out 1).trans rfl, (box_cells HX2.out 2).trans rfl, (box_cells HX2.out 3).trans rfl⟩ (fun hHeld => ?_)
  clear hK K
  refine norm_ (a' := ?_) ?_ ?_
  rotate_left
  · show Act.put _ (some 76) _ = _
    simp only [Act.put, List.setIfInBounds_toArray, List.set_cons_zero, List.set_cons_succ, i64_w, i32_w]
    rfl
  refine last_ (i := 15) (N := some 84) #[true, true, true, true, true, true, true, true, true, true, true, true, true, true, true, true, false, false] rfl rfl (by kernel_rfl) (by decide) (fun K hK => ?_)
  refine goes_ Try.func55 (by kernel_rfl) rfl #[.pointer (some ⟨r, 0, none⟩), .int .i64 a, .int .i64 b, .int .i64 k] (by rfl) rfl rfl (by simp only [List.map_toArray, List.map_cons, List.map_nil]; rfl) ?_
  with_reducible refine (H2.out _ _ HB0.out HP.out).mono ?_
  rintro e w3 ⟨rfl, hr⟩
  refine ⟨_, rfl, ?_⟩
  have HR := Aside0.mk hr
  clear hr
  refine hK.out _ _ ?_
  clear hK K
  refine norm_ (a' := ?_) ?_ ?_
  rotate_left
  · show Act.put _ (some 84) _ = _
    simp only [Act.put, List.setIfInBounds_toArray, List.set_cons_zero, List.set_cons_succ, i64_w, i32_w]
    rfl
  refine pure_ (i := 16) (N := some 85) (v := ?_) (a' := ?_) #[true, true, true, true, true, true, true, true, true, true, true, true, true, true, true, true, true, false] rfl rfl (by kernel_rfl) (fun _ _ _ h => h) (Or.inl ⟨by rfl, ?_⟩) ?_ ?_
  rotate_left
  · intro w'
    go_simp
    with_reducible rfl
  rotate_left
  · simp only [Act.put, List.setIfInBounds_toArray, List.set_cons_zero, List.set_cons_succ, i64_w, i32_w]
    rfl
  refine pure_ (i := 17) (N := some 6) (v := ?_) (a' := ?_) #[true, true, true, true, true, true, true, true, true, true, true, true, true, true, true, true, true, true] rfl rfl (by kernel_rfl) (fun _ _ _ h => h) (Or.inl ⟨by rfl, ?_⟩) ?_ ?_
  rotate_left
  · intro w'
    go_simp
    with_reducible rfl
  rotate_left
  · simp only [Act.put, List.setIfInBounds_toArray, List.set_cons_zero, List.set_cons_succ, i64_w, i32_w]
    rfl
  refine done_ (by kernel_rfl) ?_

  go_wp2
  go_ret
  exact ⟨rfl, HR.out⟩
set_option maxHeartbeats 8000000 in
set_option maxRecDepth 100000 in
theorem do_lose {P : World → World → Prop} {R : World → Prop} (x : Int)
    (H1 : ∀ w1, Below w.heap.size w w1 → Calls Try.prog 17 #[.pointer (some ⟨g, 0, none⟩), .int .i64 b] w1 fun e w2 => e = .returned (.int .i64 x) ∧ P w1 w2)
    (HK : ∀ w1 w2, Below w.heap.size w w1 → P w1 w2 → ∀ j, w.heap.size ≤ j → j < w1.heap.size → w2.heap[j]? = w1.heap[j]?)
    (H2 : ∀ w1 w2, Below w.heap.size w w1 → P w1 w2 → Calls Try.prog 57 #[.pointer (some ⟨r, 0, none⟩), .int .i64 b] w2 fun e w3 => e = .returned (.int .i64 x) ∧ R w3) :
    Calls Try.prog 20 #[.pointer (some ⟨g, 0, none⟩), .pointer (some ⟨r, 0, none⟩), .agg #[.int .i64 (4 : Int), .int .i64 a, .int .i64 b, .int .i64 k, .slice A n c]] w fun e w' => e = .returned (.bool true) ∧ R w' := by
  have H1 := Aside0.mk H1
  have H2 := Aside0.mk H2
  have HK := Aside0.mk HK
  have hx := newA w (.cells #[.int .i64 4, .int .i64 a, .int .i64 b, .int .i64 k, .slice A n c] 46)
  have HB0 := Aside0.mk (below_drew (below_alloc (Below.refl w.heap.size w) (.cells #[.int .i64 4, .int .i64 a, .int .i64 b, .int .i64 k, .slice A n c] 46)))
  have HSZ := Aside0.mk (show w.heap.size < (w.alloc (.cells #[.int .i64 4, .int .i64 a, .int .i64 b, .int .i64 k, .slice A n c] 46)).drew.heap.size from by rw [show (w.alloc (.cells #[.int .i64 4, .int .i64 a, .int .i64 b, .int .i64 k, .slice A n c] 46)).drew.heap.size = w.heap.size + 1 from size_alloc _ _]; omega)
  have HX := Aside0.mk hx
  clear hx
  go_enter Try.func20, Try.ntmps20
  go_wp2
  refine start_ (n := 10) (S := fun w' => w'.cell? ⟨w.heap.size, 2, none⟩ = some (.int .i64 b)) (ds := [7]) #[false, false, false, false, false, false, false, false, false, false] (by kernel_rfl) rfl rfl ((box_cells HX.out 2).trans rfl) (fun hHeld => ?_)
  refine pure_ (i := 0) (N := some 111) (v := ?_) (a' := ?_) #[true, false, false, false, false, false, false, false, false, false] rfl rfl (by kernel_rfl) (fun _ _ _ h => h) (Or.inl ⟨by rfl, ?_⟩) ?_ ?_
  rotate_left
  · intro w'
    go_simp
    with_reducible rfl
  rotate_left
  · simp only [Act.put, List.setIfInBounds_toArray, List.set_cons_zero, List.set_cons_succ, i64_w, i32_w]
    rfl
  refine pure_ (i := 1) (N := some 112) (v := ?_) (a' := ?_) #[true, true, false, false, false, false, false, false, false, false] rfl rfl (by kernel_rfl) (fun _ _ _ h => h) (Or.inl ⟨by rfl, ?_⟩) ?_ ?_
  rotate_left
  · intro w'
    go_simp
    with_reducible rfl
  rotate_left
  · simp only [Act.put, List.setIfInBounds_toArray, List.set_cons_zero, List.set_cons_succ, i64_w, i32_w]
    rfl
  refine pure_ (i := 4) (N := some 115) (v := ?_) (a' := ?_) #[true, true, false, false, true, false, false, false, false, false] rfl rfl (by kernel_rfl) (fun _ _ _ h => h) (Or.inl ⟨by rfl, ?_⟩) ?_ ?_
  rotate_left
  · intro w'
    go_simp
    with_reducible rfl
  rotate_left
  · simp only [Act.put, List.setIfInBounds_toArray, List.set_cons_zero, List.set_cons_succ, i64_w, i32_w]
    rfl
  refine pure_ (i := 5) (N := some 116) (v := ?_) (a' := ?_) #[true, true, false, false, true, true, false, false, false, false] rfl rfl (by kernel_rfl) (fun _ _ _ h => h) (Or.inl ⟨by rfl, ?_⟩) ?_ ?_
  rotate_left
  · intro w'
    go_simp
    with_reducible rfl
  rotate_left
  · simp only [Act.put, List.setIfInBounds_toArray, List.set_cons_zero, List.set_cons_succ, i64_w, i32_w]
    rfl
  refine take_ (i := 2) (N := some 113) (v := ?_) (a' := ?_) #[true, true, true, false, true, true, false, false, false, false] rfl rfl (by kernel_rfl) (fun _ _ _ h => h) (Or.inl ⟨by rfl, ?_⟩) hHeld ?_ ?_
  rotate_left
  · intro w' s0
    go_simp
    with_reducible rfl
  rotate_left
  · simp only [Act.put, List.setIfInBounds_toArray, List.set_cons_zero, List.set_cons_succ, i64_w, i32_w]
    rfl
  refine take_ (i := 6) (N := some 117) (v := ?_) (a' := ?_) #[true, true, true, false, true, true, true, false, false, false] rfl rfl (by kernel_rfl) (fun _ _ _ h => h) (Or.inl ⟨by rfl, ?_⟩) hHeld ?_ ?_
  rotate_left
  · intro w' s0
    go_simp
    with_reducible rfl
  rotate_left
  · simp only [Act.put, List.setIfInBounds_toArray, List.set_cons_zero, List.set_cons_succ, i64_w, i32_w]
    rfl
  refine one_ (i := 3) (N := some 114) #[true, true, true, true, true, true, true, false, false, false] rfl rfl (by kernel_rfl) (by decide) (fun K hK => ?_)
  refine goes_ Try.func17 (by kernel_rfl) rfl #[.pointer (some ⟨g, 0, none⟩), .int .i64 b] (by rfl) rfl rfl (by simp only [List.map_toArray, List.map_cons, List.map_nil]; rfl) ?_
  with_reducible refine (H1.out _ HB0.out).mono ?_
  rintro e w2 ⟨rfl, hp⟩
  refine ⟨_, rfl, ?_⟩
  have hx2 := (HK.out _ _ HB0.out hp _ (Nat.le_refl _) HSZ.out).trans HX.out
  have HX2 := Aside0.mk hx2
  have HP := Aside0.mk hp
  clear hp hx2
  refine hK.out _ _ ((box_cells HX2.out 2).trans rfl) (fun hHeld => ?_)
  clear hK K
  refine norm_ (a' := ?_) ?_ ?_
  rotate_left
  · show Act.put _ (some 114) _ = _
    simp only [Act.put, List.setIfInBounds_toArray, List.set_cons_zero, List.set_cons_succ, i64_w, i32_w]
    rfl
  refine last_ (i := 7) (N := some 118) #[true, true, true, true, true, true, true, true, false, false] rfl rfl (by kernel_rfl) (by decide) (fun K hK => ?_)
  refine goes_ Try.func57 (by kernel_rfl) rfl #[.pointer (some ⟨r, 0, none⟩), .int .i64 b] (by rfl) rfl rfl (by simp only [List.map_toArray, List.map_cons, List.map_nil]; rfl) ?_
  with_reducible refine (H2.out _ _ HB0.out HP.out).mono ?_
  rintro e w3 ⟨rfl, hr⟩
  refine ⟨_, rfl, ?_⟩
  have HR := Aside0.mk hr
  clear hr
  refine hK.out _ _ ?_
  clear hK K
  refine norm_ (a' := ?_) ?_ ?_
  rotate_left
  · show Act.put _ (some 118) _ = _
    simp only [Act.put, List.setIfInBounds_toArray, List.set_cons_zero, List.set_cons_succ, i64_w, i32_w]
    rfl
  refine pure_ (i := 8) (N := some 119) (v := ?_) (a' := ?_) #[true, true, true, true, true, true, true, true, true, false] rfl rfl (by kernel_rfl) (fun _ _ _ h => h) (Or.inl ⟨by rfl, ?_⟩) ?_ ?_
  rotate_left
  · intro w'
    go_simp
    with_reducible rfl
  rotate_left
  · simp only [Act.put, List.setIfInBounds_toArray, List.set_cons_zero, List.set_cons_succ, i64_w, i32_w]
    rfl
  refine pure_ (i := 9) (N := some 6) (v := ?_) (a' := ?_) #[true, true, true, true, true, true, true, true, true, true] rfl rfl (by kernel_rfl) (fun _ _ _ h => h) (Or.inl ⟨by rfl, ?_⟩) ?_ ?_
  rotate_left
  · intro w'
    go_simp
    with_reducible rfl
  rotate_left
  · simp only [Act.put, List.setIfInBounds_toArray, List.set_cons_zero, List.set_cons_succ, i64_w, i32_w]
    rfl
  refine done_ (by kernel_rfl) ?_

  go_wp2
  go_ret
  exact ⟨rfl, HR.out⟩
set_option maxHeartbeats 8000000 in
set_option maxRecDepth 100000 in
theorem do_cut {P : World → World → Prop} {R : World → Prop} (x : Int)
    (H1 : ∀ w1, Below w.heap.size w w1 → Calls Try.prog 23 #[.pointer (some ⟨g, 0, none⟩), .int .i64 a, .int .i64 b, .bool (decide (0 < n))] w1 fun e w2 => e = .returned (.int .i64 x) ∧ P w1 w2)
    (HK : ∀ w1 w2, Below w.heap.size w w1 → P w1 w2 → ∀ j, w.heap.size ≤ j → j < w1.heap.size → w2.heap[j]? = w1.heap[j]?)
    (H2 : ∀ w1 w2, Below w.heap.size w w1 → P w1 w2 → Calls Try.prog 56 #[.pointer (some ⟨r, 0, none⟩), .int .i64 a, .int .i64 b, .bool (decide (0 < n))] w2 fun e w3 => e = .returned (.int .i64 x) ∧ R w3) :
    Calls Try.prog 20 #[.pointer (some ⟨g, 0, none⟩), .pointer (some ⟨r, 0, none⟩), .agg #[.int .i64 (3 : Int), .int .i64 a, .int .i64 b, .int .i64 k, .slice A n c]] w fun e w' => e = .returned (.bool true) ∧ R w' := by
  have H1 := Aside0.mk H1
  have H2 := Aside0.mk H2
  have HK := Aside0.mk HK
  have hx := newA w (.cells #[.int .i64 3, .int .i64 a, .int .i64 b, .int .i64 k, .slice A n c] 46)
  have HB0 := Aside0.mk (below_drew (below_alloc (Below.refl w.heap.size w) (.cells #[.int .i64 3, .int .i64 a, .int .i64 b, .int .i64 k, .slice A n c] 46)))
  have HSZ := Aside0.mk (show w.heap.size < (w.alloc (.cells #[.int .i64 3, .int .i64 a, .int .i64 b, .int .i64 k, .slice A n c] 46)).drew.heap.size from by rw [show (w.alloc (.cells #[.int .i64 3, .int .i64 a, .int .i64 b, .int .i64 k, .slice A n c] 46)).drew.heap.size = w.heap.size + 1 from size_alloc _ _]; omega)
  have HX := Aside0.mk hx
  clear hx
  go_enter Try.func20, Try.ntmps20
  go_wp2
  refine start_ (n := 22) (S := fun w' => w'.cell? ⟨w.heap.size, 1, none⟩ = some (.int .i64 a) ∧ w'.cell? ⟨w.heap.size, 2, none⟩ = some (.int .i64 b) ∧ w'.cell? ⟨w.heap.size, 4, none⟩ = some (.slice A n c)) (ds := [19]) #[false, false, false, false, false, false, false, false, false, false, false, false, false, false, false, false, false, false, false, false, false, false] (by kernel_rfl) rfl rfl ⟨(box_cells HX.out 1).trans rfl, (box_cells HX.out 2).trans rfl, (box_cells HX.out 4).trans rfl⟩ (fun hHeld => ?_)
  refine pure_ (i := 0) (N := some 88) (v := ?_) (a' := ?_) #[true, false, false, false, false, false, false, false, false, false, false, false, false, false, false, false, false, false, false, false, false, false] rfl rfl (by kernel_rfl) (fun _ _ _ h => h) (Or.inl ⟨by rfl, ?_⟩) ?_ ?_
  rotate_left
  · intro w'
    go_simp
    with_reducible rfl
  rotate_left
  · simp only [Act.put, List.setIfInBounds_toArray, List.set_cons_zero, List.set_cons_succ, i64_w, i32_w]
    rfl
  refine pure_ (i := 1) (N := some 89) (v := ?_) (a' := ?_) #[true, true, false, false, false, false, false, false, false, false, false, false, false, false, false, false, false, false, false, false, false, false] rfl rfl (by kernel_rfl) (fun _ _ _ h => h) (Or.inl ⟨by rfl, ?_⟩) ?_ ?_
  rotate_left
  · intro w'
    go_simp
    with_reducible rfl
  rotate_left
  · simp only [Act.put, List.setIfInBounds_toArray, List.set_cons_zero, List.set_cons_succ, i64_w, i32_w]
    rfl
  refine pure_ (i := 3) (N := some 91) (v := ?_) (a' := ?_) #[true, true, false, true, false, false, false, false, false, false, false, false, false, false, false, false, false, false, false, false, false, false] rfl rfl (by kernel_rfl) (fun _ _ _ h => h) (Or.inl ⟨by rfl, ?_⟩) ?_ ?_
  rotate_left
  · intro w'
    go_simp
    with_reducible rfl
  rotate_left
  · simp only [Act.put, List.setIfInBounds_toArray, List.set_cons_zero, List.set_cons_succ, i64_w, i32_w]
    rfl
  refine pure_ (i := 5) (N := some 93) (v := ?_) (a' := ?_) #[true, true, false, true, false, true, false, false, false, false, false, false, false, false, false, false, false, false, false, false, false, false] rfl rfl (by kernel_rfl) (fun _ _ _ h => h) (Or.inl ⟨by rfl, ?_⟩) ?_ ?_
  rotate_left
  · intro w'
    go_simp
    with_reducible rfl
  rotate_left
  · simp only [Act.put, List.setIfInBounds_toArray, List.set_cons_zero, List.set_cons_succ, i64_w, i32_w]
    rfl
  refine pure_ (i := 10) (N := some 98) (v := ?_) (a' := ?_) #[true, true, false, true, false, true, false, false, false, false, true, false, false, false, false, false, false, false, false, false, false, false] rfl rfl (by kernel_rfl) (fun _ _ _ h => h) (Or.inl ⟨by rfl, ?_⟩) ?_ ?_
  rotate_left
  · intro w'
    go_simp
    with_reducible rfl
  rotate_left
  · simp only [Act.put, List.setIfInBounds_toArray, List.set_cons_zero, List.set_cons_succ, i64_w, i32_w]
    rfl
  refine pure_ (i := 11) (N := some 99) (v := ?_) (a' := ?_) #[true, true, false, true, false, true, false, false, false, false, true, true, false, false, false, false, false, false, false, false, false, false] rfl rfl (by kernel_rfl) (fun _ _ _ h => h) (Or.inl ⟨by rfl, ?_⟩) ?_ ?_
  rotate_left
  · intro w'
    go_simp
    with_reducible rfl
  rotate_left
  · simp only [Act.put, List.setIfInBounds_toArray, List.set_cons_zero, List.set_cons_succ, i64_w, i32_w]
    rfl
  refine pure_ (i := 13) (N := some 101) (v := ?_) (a' := ?_) #[true, true, false, true, false, true, false, false, false, false, true, true, false, true, false, false, false, false, false, false, false, false] rfl rfl (by kernel_rfl) (fun _ _ _ h => h) (Or.inl ⟨by rfl, ?_⟩) ?_ ?_
  rotate_left
  · intro w'
    go_simp
    with_reducible rfl
  rotate_left
  · simp only [Act.put, List.setIfInBounds_toArray, List.set_cons_zero, List.set_cons_succ, i64_w, i32_w]
    rfl
  refine pure_ (i := 15) (N := some 103) (v := ?_) (a' := ?_) #[true, true, false, true, false, true, false, false, false, false, true, true, false, true, false, true, false, false, false, false, false, false] rfl rfl (by kernel_rfl) (fun _ _ _ h => h) (Or.inl ⟨by rfl, ?_⟩) ?_ ?_
  rotate_left
  · intro w'
    go_simp
    with_reducible rfl
  rotate_left
  · simp only [Act.put, List.setIfInBounds_toArray, List.set_cons_zero, List.set_cons_succ, i64_w, i32_w]
    rfl
  refine take_ (i := 2) (N := some 90) (v := ?_) (a' := ?_) #[true, true, true, true, false, true, false, false, false, false, true, true, false, true, false, true, false, false, false, false, false, false] rfl rfl (by kernel_rfl) (fun _ _ _ h => h) (Or.inl ⟨by rfl, ?_⟩) hHeld ?_ ?_
  rotate_left
  · rintro w' ⟨s0, s1, s2⟩
    go_simp
    with_reducible rfl
  rotate_left
  · simp only [Act.put, List.setIfInBounds_toArray, List.set_cons_zero, List.set_cons_succ, i64_w, i32_w]
    rfl
  refine take_ (i := 4) (N := some 92) (v := ?_) (a' := ?_) #[true, true, true, true, true, true, false, false, false, false, true, true, false, true, false, true, false, false, false, false, false, false] rfl rfl (by kernel_rfl) (fun _ _ _ h => h) (Or.inl ⟨by rfl, ?_⟩) hHeld ?_ ?_
  rotate_left
  · rintro w' ⟨s0, s1, s2⟩
    go_simp
    with_reducible rfl
  rotate_left
  · simp only [Act.put, List.setIfInBounds_toArray, List.set_cons_zero, List.set_cons_succ, i64_w, i32_w]
    rfl
  refine take_ (i := 6) (N := some 94) (v := ?_) (a' := ?_) #[true, true, true, true, true, true, true, false, false, false, true, true, false, true, false, true, false, false, false, false, false, false] rfl rfl (by kernel_rfl) (fun _ _ _ h => h) (Or.inl ⟨by rfl, ?_⟩) hHeld ?_ ?_
  rotate_left
  · rintro w' ⟨s0, s1, s2⟩
    go_simp
    with_reducible rfl
  rotate_left
  · simp only [Act.put, List.setIfInBounds_toArray, List.set_cons_zero, List.set_cons_succ, i64_w, i32_w]
    rfl
  refine pure_ (i := 7) (N := some 95) (v := ?_) (a' := ?_) #[true, true, true, true, true, true, true, true, false, false, true, true, false, true, false, true, false, false, false, false, false, false] rfl rfl (by kernel_rfl) (fun _ _ _ h => h) (Or.inl ⟨by rfl, ?_⟩) ?_ ?_
  rotate_left
  · intro w'
    go_simp
    with_reducible rfl
  rotate_left
  · simp only [Act.put, List.setIfInBounds_toArray, List.set_cons_zero, List.set_cons_succ, i64_w, i32_w]
    rfl
  refine pure_ (i := 8) (N := some 96) (v := ?_) (a' := ?_) #[true, true, true, true, true, true, true, true, true, false, true, true, false, true, false, true, false, false, false, false, false, false] rfl rfl (by kernel_rfl) (fun _ _ _ h => h) (Or.inl ⟨by rfl, ?_⟩) ?_ ?_
  rotate_left
  · intro w'
    go_simp
    with_reducible rfl
  rotate_left
  · simp only [Act.put, List.setIfInBounds_toArray, List.set_cons_zero, List.set_cons_succ, i64_w, i32_w]
    rfl
  refine take_ (i := 12) (N := some 100) (v := ?_) (a' := ?_) #[true, true, true, true, true, true, true, true, true, false, true, true, true, true, false, true, false, false, false, false, false, false] rfl rfl (by kernel_rfl) (fun _ _ _ h => h) (Or.inl ⟨by rfl, ?_⟩) hHeld ?_ ?_
  rotate_left
  · rintro w' ⟨s0, s1, s2⟩
    go_simp
    with_reducible rfl
  rotate_left
  · simp only [Act.put, List.setIfInBounds_toArray, List.set_cons_zero, List.set_cons_succ, i64_w, i32_w]
    rfl
  refine take_ (i := 14) (N := some 102) (v := ?_) (a' := ?_) #[true, true, true, true, true, true, true, true, true, false, true, true, true, true, true, true, false, false, false, false, false, false] rfl rfl (by kernel_rfl) (fun _ _ _ h => h) (Or.inl ⟨by rfl, ?_⟩) hHeld ?_ ?_
  rotate_left
  · rintro w' ⟨s0, s1, s2⟩
    go_simp
    with_reducible rfl
  rotate_left
  · simp only [Act.put, List.setIfInBounds_toArray, List.set_cons_zero, List.set_cons_succ, i64_w, i32_w]
    rfl
  refine take_ (i := 16) (N := some 104) (v := ?_) (a' := ?_) #[true, true, true, true, true, true, true, true, true, false, true, true, true, true, true, true, true, false, false, false, false, false] rfl rfl (by kernel_rfl) (fun _ _ _ h => h) (Or.inl ⟨by rfl, ?_⟩) hHeld ?_ ?_
  rotate_left
  · rintro w' ⟨s0, s1, s2⟩
    go_simp
    with_reducible rfl
  rotate_left
  · simp only [Act.put, List.setIfInBounds_toArray, List.set_cons_zero, List.set_cons_succ, i64_w, i32_w]
    rfl
  refine pure_ (i := 17) (N := some 105) (v := ?_) (a' := ?_) #[true, true, true, true, true, true, true, true, true, false, true, true, true, true, true, true, true, true, false, false, false, false] rfl rfl (by kernel_rfl) (fun _ _ _ h => h) (Or.inl ⟨by rfl, ?_⟩) ?_ ?_
  rotate_left
  · intro w'
    go_simp
    with_reducible rfl
  rotate_left
  · simp only [Act.put, List.setIfInBounds_toArray, List.set_cons_zero, List.set_cons_succ, i64_w, i32_w]
    rfl
  refine pure_ (i := 18) (N := some 106) (v := ?_) (a' := ?_) #[true, true, true, true, true, true, true, true, true, false, true, true, true, true, true, true, true, true, true, false, false, false] rfl rfl (by kernel_rfl) (fun _ _ _ h => h) (Or.inl ⟨by rfl, ?_⟩) ?_ ?_
  rotate_left
  · intro w'
    go_simp
    with_reducible rfl
  rotate_left
  · simp only [Act.put, List.setIfInBounds_toArray, List.set_cons_zero, List.set_cons_succ, i64_w, i32_w]
    rfl
  refine one_ (i := 9) (N := some 97) #[true, true, true, true, true, true, true, true, true, true, true, true, true, true, true, true, true, true, true, false, false, false] rfl rfl (by kernel_rfl) (by decide) (fun K hK => ?_)
  refine goes_ Try.func23 (by kernel_rfl) rfl #[.pointer (some ⟨g, 0, none⟩), .int .i64 a, .int .i64 b, .bool (decide (0 < n))] (by rfl) rfl rfl (by simp only [List.map_toArray, List.map_cons, List.map_nil]; rfl) ?_
  with_reducible refine (H1.out _ HB0.out).mono ?_
  rintro e w2 ⟨rfl, hp⟩
  refine ⟨_, rfl, ?_⟩
  have hx2 := (HK.out _ _ HB0.out hp _ (Nat.le_refl _) HSZ.out).trans HX.out
  have HX2 := Aside0.mk hx2
  have HP := Aside0.mk hp
  clear hp hx2
  refine hK.out _ _ ⟨(box_cells HX2.out 1).trans rfl, (box_cells HX2.out 2).trans rfl, (box_cells HX2.out 4).trans rfl⟩ (fun hHeld => ?_)
  clear hK K
  refine norm_ (a' := ?_) ?_ ?_
  rotate_left
  · show Act.put _ (some 97) _ = _
    simp only [Act.put, List.setIfInBounds_toArray, List.set_cons_zero, List.set_cons_succ, i64_w, i32_w]
    rfl
  refine last_ (i := 19) (N := some 107) #[true, true, true, true, true, true, true, true, true, true, true, true, true, true, true, true, true, true, true, true, false, false] rfl rfl (by kernel_rfl) (by decide) (fun K hK => ?_)
  refine goes_ Try.func56 (by kernel_rfl) rfl #[.pointer (some ⟨r, 0, none⟩), .int .i64 a, .int .i64 b, .bool (decide (0 < n))] (by rfl) rfl rfl (by simp only [List.map_toArray, List.map_cons, List.map_nil]; rfl) ?_
  with_reducible refine (H2.out _ _ HB0.out HP.out).mono ?_
  rintro e w3 ⟨rfl, hr⟩
  refine ⟨_, rfl, ?_⟩
  have HR := Aside0.mk hr
  clear hr
  refine hK.out _ _ ?_
  clear hK K
  refine norm_ (a' := ?_) ?_ ?_
  rotate_left
  · show Act.put _ (some 107) _ = _
    simp only [Act.put, List.setIfInBounds_toArray, List.set_cons_zero, List.set_cons_succ, i64_w, i32_w]
    rfl
  refine pure_ (i := 20) (N := some 108) (v := ?_) (a' := ?_) #[true, true, true, true, true, true, true, true, true, true, true, true, true, true, true, true, true, true, true, true, true, false] rfl rfl (by kernel_rfl) (fun _ _ _ h => h) (Or.inl ⟨by rfl, ?_⟩) ?_ ?_
  rotate_left
  · intro w'
    go_simp
    with_reducible rfl
  rotate_left
  · simp only [Act.put, List.setIfInBounds_toArray, List.set_cons_zero, List.set_cons_succ, i64_w, i32_w]
    rfl
  refine pure_ (i := 21) (N := some 6) (v := ?_) (a' := ?_) #[true, true, true, true, true, true, true, true, true, true, true, true, true, true, true, true, true, true, true, true, true, true] rfl rfl (by kernel_rfl) (fun _ _ _ h => h) (Or.inl ⟨by rfl, ?_⟩) ?_ ?_
  rotate_left
  · intro w'
    go_simp
    with_reducible rfl
  rotate_left
  · simp only [Act.put, List.setIfInBounds_toArray, List.set_cons_zero, List.set_cons_succ, i64_w, i32_w]
    rfl
  refine done_ (by kernel_rfl) ?_

  go_wp2
  go_ret
  exact ⟨rfl, HR.out⟩
set_option maxHeartbeats 8000000 in
set_option maxRecDepth 100000 in
theorem do_send {P : World → World → Prop} {R : World → Prop} (h1 : kd ≠ 1) (h2 : kd ≠ 2) (h3 : kd ≠ 3) (h4 : kd ≠ 4) (h5 : kd ≠ 5) (x : Int)
    (H1 : ∀ w1, Below w.heap.size w w1 → Calls Try.prog 13 #[.pointer (some ⟨g, 0, none⟩), .int .i64 a, .int .i64 b, .slice A n c] w1 fun e w2 => e = .returned (.int .i64 x) ∧ P w1 w2)
    (HK : ∀ w1 w2, Below w.heap.size w w1 → P w1 w2 → ∀ j, w.heap.size ≤ j → j < w1.heap.size → w2.heap[j]? = w1.heap[j]?)
    (H2 : ∀ w1 w2, Below w.heap.size w w1 → P w1 w2 → Calls Try.prog 59 #[.pointer (some ⟨r, 0, none⟩), .int .i64 a, .int .i64 b, .slice A n c] w2 fun e w3 => e = .returned (.int .i64 x) ∧ R w3) :
    Calls Try.prog 20 #[.pointer (some ⟨g, 0, none⟩), .pointer (some ⟨r, 0, none⟩), .agg #[.int .i64 kd, .int .i64 a, .int .i64 b, .int .i64 k, .slice A n c]] w fun e w' => e = .returned (.bool true) ∧ R w' := by
  have g1 := beq_of_ne h1
  have g2 := beq_of_ne h2
  have g3 := beq_of_ne h3
  have g4 := beq_of_ne h4
  have g5 := beq_of_ne h5
  clear h1 h2 h3 h4 h5
  have H1 := Aside0.mk H1
  have H2 := Aside0.mk H2
  have HK := Aside0.mk HK
  have hx := newA w (.cells #[.int .i64 kd, .int .i64 a, .int .i64 b, .int .i64 k, .slice A n c] 46)
  have HB0 := Aside0.mk (below_drew (below_alloc (Below.refl w.heap.size w) (.cells #[.int .i64 kd, .int .i64 a, .int .i64 b, .int .i64 k, .slice A n c] 46)))
  have HSZ := Aside0.mk (show w.heap.size < (w.alloc (.cells #[.int .i64 kd, .int .i64 a, .int .i64 b, .int .i64 k, .slice A n c] 46)).drew.heap.size from by rw [show (w.alloc (.cells #[.int .i64 kd, .int .i64 a, .int .i64 b, .int .i64 k, .slice A n c] 46)).drew.heap.size = w.heap.size + 1 from size_alloc _ _]; omega)
  have HX := Aside0.mk hx
  clear hx
  go_enter Try.func20, Try.ntmps20
  go_wp2
  refine start_ (n := 18) (S := fun w' => w'.cell? ⟨w.heap.size, 1, none⟩ = some (.int .i64 a) ∧ w'.cell? ⟨w.heap.size, 2, none⟩ = some (.int .i64 b) ∧ w'.cell? ⟨w.heap.size, 4, none⟩ = some (.slice A n c)) (ds := [15]) #[false, false, false, false, false, false, false, false, false, false, false, false, false, false, false, false, false, false] (by kernel_rfl) rfl rfl ⟨(box_cells HX.out 1).trans rfl, (box_cells HX.out 2).trans rfl, (box_cells HX.out 4).trans rfl⟩ (fun hHeld => ?_)
  refine pure_ (i := 0) (N := some 17) (v := ?_) (a' := ?_) #[true, false, false, false, false, false, false, false, false, false, false, false, false, false, false, false, false, false] rfl rfl (by kernel_rfl) (fun _ _ _ h => h) (Or.inl ⟨by rfl, ?_⟩) ?_ ?_
  rotate_left
  · intro w'
    go_simp
    with_reducible rfl
  rotate_left
  · simp only [Act.put, List.setIfInBounds_toArray, List.set_cons_zero, List.set_cons_succ, i64_w, i32_w]
    rfl
  refine pure_ (i := 1) (N := some 18) (v := ?_) (a' := ?_) #[true, true, false, false, false, false, false, false, false, false, false, false, false, false, false, false, false, false] rfl rfl (by kernel_rfl) (fun _ _ _ h => h) (Or.inl ⟨by rfl, ?_⟩) ?_ ?_
  rotate_left
  · intro w'
    go_simp
    with_reducible rfl
  rotate_left
  · simp only [Act.put, List.setIfInBounds_toArray, List.set_cons_zero, List.set_cons_succ, i64_w, i32_w]
    rfl
  refine pure_ (i := 3) (N := some 20) (v := ?_) (a' := ?_) #[true, true, false, true, false, false, false, false, false, false, false, false, false, false, false, false, false, false] rfl rfl (by kernel_rfl) (fun _ _ _ h => h) (Or.inl ⟨by rfl, ?_⟩) ?_ ?_
  rotate_left
  · intro w'
    go_simp
    with_reducible rfl
  rotate_left
  · simp only [Act.put, List.setIfInBounds_toArray, List.set_cons_zero, List.set_cons_succ, i64_w, i32_w]
    rfl
  refine pure_ (i := 5) (N := some 22) (v := ?_) (a' := ?_) #[true, true, false, true, false, true, false, false, false, false, false, false, false, false, false, false, false, false] rfl rfl (by kernel_rfl) (fun _ _ _ h => h) (Or.inl ⟨by rfl, ?_⟩) ?_ ?_
  rotate_left
  · intro w'
    go_simp
    with_reducible rfl
  rotate_left
  · simp only [Act.put, List.setIfInBounds_toArray, List.set_cons_zero, List.set_cons_succ, i64_w, i32_w]
    rfl
  refine pure_ (i := 8) (N := some 25) (v := ?_) (a' := ?_) #[true, true, false, true, false, true, false, false, true, false, false, false, false, false, false, false, false, false] rfl rfl (by kernel_rfl) (fun _ _ _ h => h) (Or.inl ⟨by rfl, ?_⟩) ?_ ?_
  rotate_left
  · intro w'
    go_simp
    with_reducible rfl
  rotate_left
  · simp only [Act.put, List.setIfInBounds_toArray, List.set_cons_zero, List.set_cons_succ, i64_w, i32_w]
    rfl
  refine pure_ (i := 9) (N := some 26) (v := ?_) (a' := ?_) #[true, true, false, true, false, true, false, false, true, true, false, false, false, false, false, false, false, false] rfl rfl (by kernel_rfl) (fun _ _ _ h => h) (Or.inl ⟨by rfl, ?_⟩) ?_ ?_
  rotate_left
  · intro w'
    go_simp
    with_reducible rfl
  rotate_left
  · simp only [Act.put, List.setIfInBounds_toArray, List.set_cons_zero, List.set_cons_succ, i64_w, i32_w]
    rfl
  refine pure_ (i := 11) (N := some 28) (v := ?_) (a' := ?_) #[true, true, false, true, false, true, false, false, true, true, false, true, false, false, false, false, false, false] rfl rfl (by kernel_rfl) (fun _ _ _ h => h) (Or.inl ⟨by rfl, ?_⟩) ?_ ?_
  rotate_left
  · intro w'
    go_simp
    with_reducible rfl
  rotate_left
  · simp only [Act.put, List.setIfInBounds_toArray, List.set_cons_zero, List.set_cons_succ, i64_w, i32_w]
    rfl
  refine pure_ (i := 13) (N := some 30) (v := ?_) (a' := ?_) #[true, true, false, true, false, true, false, false, true, true, false, true, false, true, false, false, false, false] rfl rfl (by kernel_rfl) (fun _ _ _ h => h) (Or.inl ⟨by rfl, ?_⟩) ?_ ?_
  rotate_left
  · intro w'
    go_simp
    with_reducible rfl
  rotate_left
  · simp only [Act.put, List.setIfInBounds_toArray, List.set_cons_zero, List.set_cons_succ, i64_w, i32_w]
    rfl
  refine take_ (i := 2) (N := some 19) (v := ?_) (a' := ?_) #[true, true, true, true, false, true, false, false, true, true, false, true, false, true, false, false, false, false] rfl rfl (by kernel_rfl) (fun _ _ _ h => h) (Or.inl ⟨by rfl, ?_⟩) hHeld ?_ ?_
  rotate_left
  · rintro w' ⟨s0, s1, s2⟩
    go_simp
    with_reducible rfl
  rotate_left
  · simp only [Act.put, List.setIfInBounds_toArray, List.set_cons_zero, List.set_cons_succ, i64_w, i32_w]
    rfl
  refine take_ (i := 4) (N := some 21) (v := ?_) (a' := ?_) #[true, true, true, true, true, true, false, false, true, true, false, true, false, true, false, false, false, false] rfl rfl (by kernel_rfl) (fun _ _ _ h => h) (Or.inl ⟨by rfl, ?_⟩) hHeld ?_ ?_
  rotate_left
  · rintro w' ⟨s0, s1, s2⟩
    go_simp
    with_reducible rfl
  rotate_left
  · simp only [Act.put, List.setIfInBounds_toArray, List.set_cons_zero, List.set_cons_succ, i64_w, i32_w]
    rfl
  refine take_ (i := 6) (N := some 23) (v := ?_) (a' := ?_) #[true, true, true, true, true, true, true, false, true, true, false, true, false, true, false, false, false, false] rfl rfl (by kernel_rfl) (fun _ _ _ h => h) (Or.inl ⟨by rfl, ?_⟩) hHeld ?_ ?_
  rotate_left
  · rintro w' ⟨s0, s1, s2⟩
    go_simp
    with_reducible rfl
  rotate_left
  · simp only [Act.put, List.setIfInBounds_toArray, List.set_cons_zero, List.set_cons_succ, i64_w, i32_w]
    rfl
  refine take_ (i := 10) (N := some 27) (v := ?_) (a' := ?_) #[true, true, true, true, true, true, true, false, true, true, true, true, false, true, false, false, false, false] rfl rfl (by kernel_rfl) (fun _ _ _ h => h) (Or.inl ⟨by rfl, ?_⟩) hHeld ?_ ?_
  rotate_left
  · rintro w' ⟨s0, s1, s2⟩
    go_simp
    with_reducible rfl
  rotate_left
  · simp only [Act.put, List.setIfInBounds_toArray, List.set_cons_zero, List.set_cons_succ, i64_w, i32_w]
    rfl
  refine take_ (i := 12) (N := some 29) (v := ?_) (a' := ?_) #[true, true, true, true, true, true, true, false, true, true, true, true, true, true, false, false, false, false] rfl rfl (by kernel_rfl) (fun _ _ _ h => h) (Or.inl ⟨by rfl, ?_⟩) hHeld ?_ ?_
  rotate_left
  · rintro w' ⟨s0, s1, s2⟩
    go_simp
    with_reducible rfl
  rotate_left
  · simp only [Act.put, List.setIfInBounds_toArray, List.set_cons_zero, List.set_cons_succ, i64_w, i32_w]
    rfl
  refine take_ (i := 14) (N := some 31) (v := ?_) (a' := ?_) #[true, true, true, true, true, true, true, false, true, true, true, true, true, true, true, false, false, false] rfl rfl (by kernel_rfl) (fun _ _ _ h => h) (Or.inl ⟨by rfl, ?_⟩) hHeld ?_ ?_
  rotate_left
  · rintro w' ⟨s0, s1, s2⟩
    go_simp
    with_reducible rfl
  rotate_left
  · simp only [Act.put, List.setIfInBounds_toArray, List.set_cons_zero, List.set_cons_succ, i64_w, i32_w]
    rfl
  refine one_ (i := 7) (N := some 24) #[true, true, true, true, true, true, true, true, true, true, true, true, true, true, true, false, false, false] rfl rfl (by kernel_rfl) (by decide) (fun K hK => ?_)
  refine goes_ Try.func13 (by kernel_rfl) rfl #[.pointer (some ⟨g, 0, none⟩), .int .i64 a, .int .i64 b, .slice A n c] (by rfl) rfl rfl (by simp only [List.map_toArray, List.map_cons, List.map_nil]; rfl) ?_
  with_reducible refine (H1.out _ HB0.out).mono ?_
  rintro e w2 ⟨rfl, hp⟩
  refine ⟨_, rfl, ?_⟩
  have hx2 := (HK.out _ _ HB0.out hp _ (Nat.le_refl _) HSZ.out).trans HX.out
  have HX2 := Aside0.mk hx2
  have HP := Aside0.mk hp
  clear hp hx2
  refine hK.out _ _ ⟨(box_cells HX2.out 1).trans rfl, (box_cells HX2.out 2).trans rfl, (box_cells HX2.out 4).trans rfl⟩ (fun hHeld => ?_)
  clear hK K
  refine norm_ (a' := ?_) ?_ ?_
  rotate_left
  · show Act.put _ (some 24) _ = _
    simp only [Act.put, List.setIfInBounds_toArray, List.set_cons_zero, List.set_cons_succ, i64_w, i32_w]
    rfl
  refine last_ (i := 15) (N := some 32) #[true, true, true, true, true, true, true, true, true, true, true, true, true, true, true, true, false, false] rfl rfl (by kernel_rfl) (by decide) (fun K hK => ?_)
  refine goes_ Try.func59 (by kernel_rfl) rfl #[.pointer (some ⟨r, 0, none⟩), .int .i64 a, .int .i64 b, .slice A n c] (by rfl) rfl rfl (by simp only [List.map_toArray, List.map_cons, List.map_nil]; rfl) ?_
  with_reducible refine (H2.out _ _ HB0.out HP.out).mono ?_
  rintro e w3 ⟨rfl, hr⟩
  refine ⟨_, rfl, ?_⟩
  have HR := Aside0.mk hr
  clear hr
  refine hK.out _ _ ?_
  clear hK K
  refine norm_ (a' := ?_) ?_ ?_
  rotate_left
  · show Act.put _ (some 32) _ = _
    simp only [Act.put, List.setIfInBounds_toArray, List.set_cons_zero, List.set_cons_succ, i64_w, i32_w]
    rfl
  refine pure_ (i := 16) (N := some 33) (v := ?_) (a' := ?_) #[true, true, true, true, true, true, true, true, true, true, true, true, true, true, true, true, true, false] rfl rfl (by kernel_rfl) (fun _ _ _ h => h) (Or.inl ⟨by rfl, ?_⟩) ?_ ?_
  rotate_left
  · intro w'
    go_simp
    with_reducible rfl
  rotate_left
  · simp only [Act.put, List.setIfInBounds_toArray, List.set_cons_zero, List.set_cons_succ, i64_w, i32_w]
    rfl
  refine pure_ (i := 17) (N := some 6) (v := ?_) (a' := ?_) #[true, true, true, true, true, true, true, true, true, true, true, true, true, true, true, true, true, true] rfl rfl (by kernel_rfl) (fun _ _ _ h => h) (Or.inl ⟨by rfl, ?_⟩) ?_ ?_
  rotate_left
  · intro w'
    go_simp
    with_reducible rfl
  rotate_left
  · simp only [Act.put, List.setIfInBounds_toArray, List.set_cons_zero, List.set_cons_succ, i64_w, i32_w]
    rfl
  refine done_ (by kernel_rfl) ?_

  go_wp2
  go_ret
  exact ⟨rfl, HR.out⟩
set_option maxHeartbeats 8000000 in
set_option maxRecDepth 100000 in
theorem do_take {P : World → Value → World → Prop} {R : World → Prop} (s : ByteArray) (ok : Bool)
    (H1 : ∀ w1, Below w.heap.size w w1 → Calls Try.prog 15 #[.pointer (some ⟨g, 0, none⟩), .int .i64 a, .int .i64 b, .int .i64 k] w1 fun e w2 => ∃ u, e = .returned (.tuple #[u, .bool ok]) ∧ P w1 u w2)
    (HK : ∀ w1 u w2, Below w.heap.size w w1 → P w1 u w2 → ∀ j, w.heap.size ≤ j → j < w1.heap.size → w2.heap[j]? = w1.heap[j]?)
    (H2 : ∀ w1 u w2, Below w.heap.size w w1 → P w1 u w2 → Calls Try.prog 54 #[.pointer (some ⟨r, 0, none⟩), .int .i64 a, .int .i64 b, .int .i64 k] w2 fun e w3 => e = .returned (.tuple #[.string s, .bool ok]) ∧ R w3 ∧ (convert 22 9 u).run Try.prog w3 = .ok (.string s) w3) :
    Calls Try.prog 20 #[.pointer (some ⟨g, 0, none⟩), .pointer (some ⟨r, 0, none⟩), .agg #[.int .i64 (1 : Int), .int .i64 a, .int .i64 b, .int .i64 k, .slice A n c]] w fun e w' => e = .returned (.bool true) ∧ R w' := by
  have H1 := Aside0.mk H1
  have H2 := Aside0.mk H2
  have HK := Aside0.mk HK
  obtain ⟨W, hW⟩ : ∃ W, W = w.alloc (.cells #[.int .i64 1, .int .i64 a, .int .i64 b, .int .i64 k, .slice A n c] 46) := ⟨_, rfl⟩
  have hx : W.heap[w.heap.size]? = some (.cells #[.int .i64 1, .int .i64 a, .int .i64 b, .int .i64 k, .slice A n c] 46) := hW ▸ blk_new w _
  have HB0 := Aside0.mk (show Below w.heap.size w W from hW ▸ below_alloc (Below.refl _ _) _)
  have HSZ := Aside0.mk (show w.heap.size < W.heap.size from blk_lt hx)
  have HX := Aside0.mk hx
  clear hx hW
  go_enter Try.func20, Try.ntmps20
  go_wp2_with (first
    | (go_at_call 15; refine (H1.out _ (below_alloc (Below.refl _ _) _)).mono ?_; rintro e w2 ⟨u, rfl, hp⟩; have hx2 := (HK.out _ _ _ (below_alloc (Below.refl _ _) _) hp _ (Nat.le_refl _) (by rw [size_alloc]; omega)).trans (blk_new w _); have HP := Aside0.mk hp; clear hp; have b1 := (box_cells hx2 1).trans rfl; have b2 := (box_cells hx2 2).trans rfl; have b3 := (box_cells hx2 3).trans rfl; clear hx2)
    | (go_at_call 54; refine (H2.out _ _ _ (below_alloc (Below.refl _ _) _) HP.out).mono ?_; rintro e w3 ⟨rfl, hr, hcv⟩; have HR := Aside0.mk hr; clear hr))
  all_goals go_ret
  all_goals exact ⟨rfl, HR.out⟩
set_option maxHeartbeats 8000000 in
set_option maxRecDepth 100000 in
theorem do_peek {P : World → Value → World → Prop} {R : World → Prop} (s : ByteArray) (ok : Bool)
    (H1 : ∀ w1, Below w.heap.size w w1 → Calls Try.prog 14 #[.pointer (some ⟨g, 0, none⟩), .int .i64 a, .int .i64 b, .int .i64 k] w1 fun e w2 => ∃ u, e = .returned (.tuple #[u, .bool ok]) ∧ P w1 u w2)
    (HK : ∀ w1 u w2, Below w.heap.size w w1 → P w1 u w2 → ∀ j, w.heap.size ≤ j → j < w1.heap.size → w2.heap[j]? = w1.heap[j]?)
    (H2 : ∀ w1 u w2, Below w.heap.size w w1 → P w1 u w2 → Calls Try.prog 58 #[.pointer (some ⟨r, 0, none⟩), .int .i64 a, .int .i64 b, .int .i64 k] w2 fun e w3 => e = .returned (.tuple #[.string s, .bool ok]) ∧ R w3 ∧ (convert 22 9 u).run Try.prog w3 = .ok (.string s) w3) :
    Calls Try.prog 20 #[.pointer (some ⟨g, 0, none⟩), .pointer (some ⟨r, 0, none⟩), .agg #[.int .i64 (5 : Int), .int .i64 a, .int .i64 b, .int .i64 k, .slice A n c]] w fun e w' => e = .returned (.bool true) ∧ R w' := by
  have H1 := Aside0.mk H1
  have H2 := Aside0.mk H2
  have HK := Aside0.mk HK
  obtain ⟨W, hW⟩ : ∃ W, W = w.alloc (.cells #[.int .i64 5, .int .i64 a, .int .i64 b, .int .i64 k, .slice A n c] 46) := ⟨_, rfl⟩
  have hx : W.heap[w.heap.size]? = some (.cells #[.int .i64 5, .int .i64 a, .int .i64 b, .int .i64 k, .slice A n c] 46) := hW ▸ blk_new w _
  have HB0 := Aside0.mk (show Below w.heap.size w W from hW ▸ below_alloc (Below.refl _ _) _)
  have HSZ := Aside0.mk (show w.heap.size < W.heap.size from blk_lt hx)
  have HX := Aside0.mk hx
  clear hx hW
  go_enter Try.func20, Try.ntmps20
  go_wp2_with (first
    | (go_at_call 14; refine (H1.out _ (below_alloc (Below.refl _ _) _)).mono ?_; rintro e w2 ⟨u, rfl, hp⟩; have hx2 := (HK.out _ _ _ (below_alloc (Below.refl _ _) _) hp _ (Nat.le_refl _) (by rw [size_alloc]; omega)).trans (blk_new w _); have HP := Aside0.mk hp; clear hp; have b1 := (box_cells hx2 1).trans rfl; have b2 := (box_cells hx2 2).trans rfl; have b3 := (box_cells hx2 3).trans rfl; clear hx2)
    | (go_at_call 58; refine (H2.out _ _ _ (below_alloc (Below.refl _ _) _) HP.out).mono ?_; rintro e w3 ⟨rfl, hr, hcv⟩; have HR := Aside0.mk hr; clear hr))
  all_goals go_ret
  all_goals exact ⟨rfl, HR.out⟩
end
section
theorem St.joinC {W w : World} {F0 : Nat → Prop} {l : List Part} {A : Part} (h : St W F0 w (A :: l)) (hl : Loc A) : ∃ F, (∀ k, F k → F0 k ∨ W.heap.size ≤ k) ∧ ∀ w1, Below w.heap.size w w1 → A w1 F ∧ ∀ (w' : World) (l' : List Part), St w1 F w' l' → St W F0 w' (l' ++ l) ∧ ∀ k, w.heap.size ≤ k → k < w1.heap.size → w'.heap[k]? = w1.heap[k]? := by
  obtain ⟨h0, hst⟩ := h
  obtain ⟨F, h1, h2, h3, h4⟩ := hst.bound
  refine ⟨F, fun k hk => (h1 k hk).1, fun w1 hb => ⟨hl.step h3 hb.size (fun k _ hlt => hb.block k hlt), fun w' l' k0 => ?_⟩⟩
  have k : St w F w' l' := ⟨(Fr.of_below hb).trans k0.fr (fun i hi => .inl hi), k0.st.mono (fun i hi => hi.imp (fun x => x) (Nat.le_trans hb.size))⟩
  refine ⟨⟨h0.trans k.fr (fun i hi => (h1 i hi).1), ?_⟩, fun i hi hlt => k0.fr.block i hlt (fun hf => by have := (h1 i hf).2; omega)⟩
  have h5 := h4.step k.fr.size (fun i hi hl => k.fr.block i hl hi.2)
  exact (Stars.append k.st h5 (fun i hi hi' => hi.elim hi'.2 (fun hh => by have := hi'.1.2; omega))).mono (fun i hi => hi.elim (fun hh => hh.elim (fun hf => (h1 i hf).1) (fun hs => .inr (Nat.le_trans h0.size hs))) (fun hh => hh.1.1))
/-- What both hold. -/
structure Doc (B : Lit → List (List Int)) (C : Lit → Bool) (Q : Nat → List ByteArray) (G : Nat → Bool) : Prop where
  q : ∀ i j : Nat, i < 16 → j < 16 → Q (i * 16 + j) = (B (kl i j)).map strOfNums
  g : ∀ i j : Nat, i < 16 → j < 16 → C (kl i j) = G (i * 16 + j)
  off : ∀ a b, WI a → WI b → isB a b = false → B (kl a b) = []
  len : ∀ l, (B l).length ≤ 256
  ql : ∀ p, (Q p).length ≤ 256
  each : ∀ l, ∀ x ∈ B l, x.length ≤ 1000
theorem kl_eq {i j i' j' : Nat} (hi : i < 16) (hj : j < 16) (hi' : i' < 16) (hj' : j' < 16) : (kl (i : Int) j = kl (i' : Int) j') ↔ i * 16 + j = i' * 16 + j' := by
  constructor
  · intro h
    have := kl_inj (WI_small (by omega) (by omega)) (WI_small (by omega) (by omega)) (WI_small (by omega) (by omega)) (WI_small (by omega) (by omega)) h
    omega
  · intro h
    have h1 : i = i' := by omega
    have h2 : j = j' := by omega
    rw [h1, h2]
theorem Doc.put {B : Lit → List (List Int)} {C : Lit → Bool} {Q : Nat → List ByteArray} {G : Nat → Bool} (D : Doc B C Q G) {i j : Nat} (hi : i < 16) (hj : j < 16) (ys : List (List Int)) (hl : ys.length ≤ 256) (he : ∀ x ∈ ys, x.length ≤ 1000) :
    Doc (updL B (kl i j) ys) C (updN Q (i * 16 + j) (ys.map strOfNums)) G := by
  refine ⟨fun i' j' h1 h2 => ?_, D.g, fun a b ha hb hi0 => ?_, fun l => ?_, fun p => ?_, fun l x hx => ?_⟩
  · by_cases c : i' * 16 + j' = i * 16 + j
    · rw [c, updN_same, (kl_eq h1 h2 hi hj).2 c, updL_same]
    · rw [updN_ne _ _ c, updL_ne _ _ (fun e => c ((kl_eq h1 h2 hi hj).1 e))]
      exact D.q i' j' h1 h2
  · rw [updL_ne]
    · exact D.off a b ha hb hi0
    · intro e
      obtain ⟨rfl, rfl⟩ := kl_inj ha hb (WI_small (by omega) (by omega)) (WI_small (by omega) (by omega)) e
      rw [isB_nat hi hj] at hi0
      cases hi0
  · by_cases c : l = kl i j
    · rw [c, updL_same]; exact hl
    · rw [updL_ne _ _ c]; exact D.len l
  · by_cases c : p = i * 16 + j
    · rw [c, updN_same, List.length_map]; exact hl
    · rw [updN_ne _ _ c]; exact D.ql p
  · by_cases c : l = kl i j
    · rw [c, updL_same] at hx; exact he x hx
    · rw [updL_ne _ _ c] at hx; exact D.each l x hx
theorem Doc.cut {B : Lit → List (List Int)} {C : Lit → Bool} {Q : Nat → List ByteArray} {G : Nat → Bool} (D : Doc B C Q G) {i j : Nat} (hi : i < 16) (hj : j < 16) (c : Bool) : Doc B (updL C (kl i j) c) Q (updN G (i * 16 + j) c) := by
  refine ⟨D.q, fun i' j' h1 h2 => ?_, D.off, D.len, D.ql, D.each⟩
  by_cases e : i' * 16 + j' = i * 16 + j
  · rw [e, updN_same, (kl_eq h1 h2 hi hj).2 e, updL_same]
  · rw [updN_ne _ _ e, updL_ne _ _ (fun e' => e ((kl_eq h1 h2 hi hj).1 e'))]
    exact D.g i' j' h1 h2
theorem Doc.lose {B : Lit → List (List Int)} {C : Lit → Bool} {Q : Nat → List ByteArray} {G : Nat → Bool} (D : Doc B C Q G) {j : Nat} (hj : j < 16) (k : Nat) (hk : k ≤ 16) : Doc (loseB B j k) C (loseQ Q j k) G ∧ loseS B j k = loseT Q j k := by
  induction k with
  | zero => exact ⟨D, rfl⟩
  | succ k ih =>
    obtain ⟨D1, h1⟩ := ih (by omega)
    refine ⟨D1.put (by omega) hj [] (Nat.zero_le _) (fun x hx => by cases hx), ?_⟩
    show loseS B j k + (loseB B j k (kl (k : Int) j)).length = loseT Q j k + (loseQ Q j k (k * 16 + j)).length
    rw [h1, D1.q k j (by omega) hj, List.length_map]
theorem lose_off {B : Lit → List (List Int)} {b : Int} (h : ∀ k : Nat, k < 16 → B (kl k b) = []) (k : Nat) (hk : k ≤ 16) : loseB B b k = B ∧ loseS B b k = 0 := by
  induction k with
  | zero => exact ⟨rfl, rfl⟩
  | succ k ih =>
    obtain ⟨h1, h2⟩ := ih (by omega)
    refine ⟨?_, ?_⟩
    · show updL (loseB B b k) (kl (k : Int) b) [] = B
      rw [h1]
      funext l
      by_cases c : l = kl (k : Int) b
      · rw [c, updL_same, h k (by omega)]
      · rw [updL_ne _ _ c]
    · show loseS B b k + (loseB B b k (kl (k : Int) b)).length = 0
      rw [h1, h2, h k (by omega)]
      rfl
theorem nat_of_isB {a b : Int} (h : isB a b = true) : ∃ i j : Nat, a = i ∧ b = j ∧ i < 16 ∧ j < 16 := by
  have := isB_iff.1 h
  exact ⟨a.toNat, b.toNat, by omega, by omega, by omega, by omega⟩
theorem getD_map_lt {α β : Type} (f : α → β) (l : List α) (n : Nat) (d : α) (d' : β) (h : n < l.length) : (l.map f).getD n d' = f (l.getD n d) := by
  simp [List.getD, h]
theorem mem_getD_lt {α : Type} (l : List α) (n : Nat) (d : α) (h : n < l.length) : l.getD n d ∈ l := by
  simp [List.getD, h]
theorem strOfNums_nil : strOfNums [] = ⟨#[]⟩ := rfl
theorem conv_slice {w : World} {A : Option Addr} {n c : Nat} {x : List Int} (h : (Kd.int .u8).C w A n x) : (convert 22 9 (.slice A n c)).run Try.prog w = .ok (.string (strOfNums x)) w := Kd.C_string Try.underlying22 (by kernel_rfl) (by kernel_rfl) h
/-- Behind a call. -/
def Rr (W : World) (F0 : Nat → Prop) (g r N : Nat) (w' : World) : Prop :=
  ∃ (N' : Nat) (B' : Lit → List (List Int)) (C' : Lit → Bool) (Q' : Nat → List ByteArray) (G' : Nat → Bool), N' ≤ N + 1 ∧ Doc B' C' Q' G' ∧ St W F0 w' [NetP g N' B' C', RefP r Q' G']
section
variable {W w : World} {F0 : Nat → Prop} {g r N : Nat} {B : Lit → List (List Int)} {C : Lit → Bool} {Q : Nat → List ByteArray} {G : Nat → Bool} {a b k : Int} {A : Option Addr} {c : Nat} {x : List Int}
theorem step_send (S : St W F0 w [NetP g N B C, RefP r Q G]) (D : Doc B C Q G) (hN : N < 1000000) (ha : WI a) (hb : WI b) (hC : ∀ W', Fr F0 W W' → (Kd.int .u8).C W' A x.length x) (hx : x.length ≤ 1000) {kd : Int} (k1 : kd ≠ 1) (k2 : kd ≠ 2) (k3 : kd ≠ 3) (k4 : kd ≠ 4) (k5 : kd ≠ 5) :
    Calls Try.prog 20 #[.pointer (some ⟨g, 0, none⟩), .pointer (some ⟨r, 0, none⟩), .agg #[.int .i64 kd, .int .i64 a, .int .i64 b, .int .i64 k, .slice A x.length c]] w fun e w' => e = .returned (.bool true) ∧ Rr W F0 g r N w' := by
  obtain ⟨F, hF0, hj⟩ := S.joinC NetP.loc
  by_cases hi : isB a b = true
  · obtain ⟨i, j, rfl, rfl, hi16, hj16⟩ := nat_of_isB hi
    by_cases hc : C (kl i j) = true
    · refine do_send k1 k2 k3 k4 k5 70 (P := fun w1 w2 => Below w1.heap.size w1 w2) (fun w1 h1 => net_send_err (hj w1 h1).1 ha hb 70 (by unfold sendE; rw [if_pos hi, if_pos hc]) (by decide) A _ c) (fun w1 w2 _ h2 k _ hk => h2.block k hk) (fun w1 w2 h1 h2 => ?_)
      have S2 := (S.call h1).call h2
      obtain ⟨F2, hr, _, _⟩ := S2.perm2.join
      refine (ref_send_down hr hi16 hj16 (by rw [← D.g i j hi16 hj16]; exact hc) A _ c).mono ?_
      rintro e w3 ⟨rfl, rfl⟩
      exact ⟨rfl, N, B, C, Q, G, Nat.le_succ _, D, S2⟩
    · have hG : G (i * 16 + j) = false := by rw [← D.g i j hi16 hj16]; simpa using hc
      have hq : (Q (i * 16 + j)).length = (B (kl i j)).length := by rw [D.q i j hi16 hj16, List.length_map]
      by_cases hl : 256 ≤ (B (kl i j)).length
      · refine do_send k1 k2 k3 k4 k5 50 (P := fun w1 w2 => Below w1.heap.size w1 w2) (fun w1 h1 => net_send_err (hj w1 h1).1 ha hb 50 (by unfold sendE; rw [if_pos hi, if_neg hc, if_pos hl]) (by decide) A _ c) (fun w1 w2 _ h2 k _ hk => h2.block k hk) (fun w1 w2 h1 h2 => ?_)
        have S2 := (S.call h1).call h2
        obtain ⟨F2, hr, _, _⟩ := S2.perm2.join
        refine (ref_send_full hr hi16 hj16 hG (by rw [hq]; exact hl) A _ c).mono ?_
        rintro e w3 ⟨rfl, rfl⟩
        exact ⟨rfl, N, B, C, Q, G, Nat.le_succ _, D, S2⟩
      · refine do_send k1 k2 k3 k4 k5 0 (P := fun w1 w2 => St W F0 w2 [NetP g (N + 1) (updL B (kl i j) (B (kl i j) ++ [x])) C, RefP r Q G] ∧ ∀ k, w.heap.size ≤ k → k < w1.heap.size → w2.heap[k]? = w1.heap[k]?) (fun w1 h1 => (net_send_ok (hj w1 h1).1 ha hb (by unfold sendE; rw [if_pos hi, if_neg hc, if_neg hl]) A c x (fun W' hf => hC W' ((S.call h1).fr.trans hf hF0)) (by omega) hN).mono ?_) (fun w1 w2 _ h2 => h2.2) (fun w1 w2 h1 h2 => ?_)
        · rintro e w2 ⟨rfl, s⟩
          exact ⟨rfl, (hj w1 h1).2 w2 _ s⟩
        · have S2 := h2.1
          obtain ⟨F2, hr, _, hj2⟩ := S2.perm2.join
          refine (ref_send_ok hr hi16 hj16 hG (by rw [hq]; omega) A _ c x (hC w2 S2.fr)).mono ?_
          rintro e w3 ⟨rfl, s⟩
          have S3 := (hj2 w3 _ s).perm2
          have D3 := D.put hi16 hj16 (B (kl i j) ++ [x]) (by rw [List.length_append]; show _ + 1 ≤ 256; omega) (fun y hy => by rcases List.mem_append.1 hy with h | h; exact D.each _ y h; rw [List.mem_singleton.1 h]; exact hx)
          rw [List.map_append, ← D.q i j hi16 hj16] at D3
          exact ⟨rfl, N + 1, _, _, _, _, Nat.le_refl _, D3, S3⟩
  · have hi : isB a b = false := by simpa using hi
    refine do_send k1 k2 k3 k4 k5 2 (P := fun w1 w2 => Below w1.heap.size w1 w2) (fun w1 h1 => net_send_err (hj w1 h1).1 ha hb 2 (by unfold sendE; rw [if_neg (by rw [hi]; decide)]) (by decide) A _ c) (fun w1 w2 _ h2 k _ hk => h2.block k hk) (fun w1 w2 h1 h2 => ?_)
    have S2 := (S.call h1).call h2
    refine (ref_send_off a b hi A _ c).mono ?_
    rintro e w3 ⟨rfl, rfl⟩
    exact ⟨rfl, N, B, C, Q, G, Nat.le_succ _, D, S2⟩
theorem step_double (S : St W F0 w [NetP g N B C, RefP r Q G]) (D : Doc B C Q G) (hN : N < 1000000) (ha : WI a) (hb : WI b) (hk : WI k) {n : Nat} :
    Calls Try.prog 20 #[.pointer (some ⟨g, 0, none⟩), .pointer (some ⟨r, 0, none⟩), .agg #[.int .i64 2, .int .i64 a, .int .i64 b, .int .i64 k, .slice A n c]] w fun e w' => e = .returned (.bool true) ∧ Rr W F0 g r N w' := by
  obtain ⟨F, hF0, hj⟩ := S.joinC NetP.loc
  have hm : (B (kl a b)).length ≤ 1000000 := by have := D.len (kl a b); omega
  have hS : ∀ y ∈ B (kl a b), y.length ≤ 1000000 := fun y hy => by have := D.each _ y hy; omega
  by_cases hi : isB a b = true
  · obtain ⟨i, j, rfl, rfl, hi16, hj16⟩ := nat_of_isB hi
    have hq : (Q (i * 16 + j)).length = (B (kl i j)).length := by rw [D.q i j hi16 hj16, List.length_map]
    by_cases h0 : (B (kl i j)).length = 0
    · refine do_double 51 (P := fun w1 w2 => Below w1.heap.size w1 w2) (fun w1 h1 => net_double_err (hj w1 h1).1 ha hb 51 (by unfold doubleE; rw [if_pos hi, if_pos h0]) (by decide) hm hS k hk) (fun w1 w2 _ h2 k _ hk => h2.block k hk) (fun w1 w2 h1 h2 => ?_)
      have S2 := (S.call h1).call h2
      obtain ⟨F2, hr, _, _⟩ := S2.perm2.join
      refine (ref_double_none hr hi16 hj16 (List.eq_nil_of_length_eq_zero (by rw [hq, h0])) k).mono ?_
      rintro e w3 ⟨rfl, rfl⟩
      exact ⟨rfl, N, B, C, Q, G, Nat.le_succ _, D, S2⟩
    · by_cases hl : 256 ≤ (B (kl i j)).length
      · refine do_double 50 (P := fun w1 w2 => Below w1.heap.size w1 w2) (fun w1 h1 => net_double_err (hj w1 h1).1 ha hb 50 (by unfold doubleE; rw [if_pos hi, if_neg h0, if_pos hl]) (by decide) hm hS k hk) (fun w1 w2 _ h2 k _ hk => h2.block k hk) (fun w1 w2 h1 h2 => ?_)
        have S2 := (S.call h1).call h2
        obtain ⟨F2, hr, _, _⟩ := S2.perm2.join
        refine (ref_double_full hr hi16 hj16 (by rw [hq]; exact hl) (by rw [hq]; exact hm) k).mono ?_
        rintro e w3 ⟨rfl, rfl⟩
        exact ⟨rfl, N, B, C, Q, G, Nat.le_succ _, D, S2⟩
      · refine do_double 0 (P := fun w1 w2 => St W F0 w2 [NetP g (N + 1) (updL B (kl i j) (B (kl i j) ++ [gotten B i j k])) C, RefP r Q G] ∧ ∀ k, w.heap.size ≤ k → k < w1.heap.size → w2.heap[k]? = w1.heap[k]?) (fun w1 h1 => (net_double_ok (hj w1 h1).1 ha hb (by unfold doubleE; rw [if_pos hi, if_neg h0, if_neg hl]) hS k hk hN).mono ?_) (fun w1 w2 _ h2 => h2.2) (fun w1 w2 h1 h2 => ?_)
        · rintro e w2 ⟨rfl, s⟩
          exact ⟨rfl, (hj w1 h1).2 w2 _ s⟩
        · have S2 := h2.1
          obtain ⟨F2, hr, _, hj2⟩ := S2.perm2.join
          refine (ref_double_ok hr hi16 hj16 (by rw [hq]; omega) (by rw [hq]; omega) k).mono ?_
          rintro e w3 ⟨rfl, s⟩
          have S3 := (hj2 w3 _ s).perm2
          obtain ⟨p1, p2⟩ := placeI_lt (which := k) (show (0 : Int) < (B (kl i j)).length by omega)
          have hlt : (placeI k (B (kl i j)).length).toNat < (B (kl i j)).length := by omega
          have hgm : gotten B i j k ∈ B (kl i j) := mem_getD_lt _ _ _ hlt
          have D3 := D.put hi16 hj16 (B (kl i j) ++ [gotten B i j k]) (by rw [List.length_append]; show _ + 1 ≤ 256; omega) (fun y hy => by rcases List.mem_append.1 hy with h | h; exact D.each _ y h; rw [List.mem_singleton.1 h]; exact D.each _ _ hgm)
          rw [List.map_append, ← D.q i j hi16 hj16] at D3
          have e1 : (Q (i * 16 + j)).getD (placeI k (Q (i * 16 + j)).length).toNat ⟨#[]⟩ = strOfNums (gotten B i j k) := by
            rw [hq, D.q i j hi16 hj16]
            exact getD_map_lt _ _ _ _ _ hlt
          rw [e1] at S3
          exact ⟨rfl, N + 1, _, _, _, _, Nat.le_refl _, D3, S3⟩
  · have hi : isB a b = false := by simpa using hi
    refine do_double 2 (P := fun w1 w2 => Below w1.heap.size w1 w2) (fun w1 h1 => net_double_err (hj w1 h1).1 ha hb 2 (by unfold doubleE; rw [if_neg (by rw [hi]; decide)]) (by decide) hm hS k hk) (fun w1 w2 _ h2 k _ hk => h2.block k hk) (fun w1 w2 h1 h2 => ?_)
    have S2 := (S.call h1).call h2
    refine (ref_double_off a b hi k).mono ?_
    rintro e w3 ⟨rfl, rfl⟩
    exact ⟨rfl, N, B, C, Q, G, Nat.le_succ _, D, S2⟩
theorem step_cut (S : St W F0 w [NetP g N B C, RefP r Q G]) (D : Doc B C Q G) (hN : N < 1000000) {n : Nat} :
    Calls Try.prog 20 #[.pointer (some ⟨g, 0, none⟩), .pointer (some ⟨r, 0, none⟩), .agg #[.int .i64 3, .int .i64 a, .int .i64 b, .int .i64 k, .slice A n c]] w fun e w' => e = .returned (.bool true) ∧ Rr W F0 g r N w' := by
  obtain ⟨F, hF0, hj⟩ := S.joinC NetP.loc
  by_cases hi : isB a b = true
  · obtain ⟨i, j, rfl, rfl, hi16, hj16⟩ := nat_of_isB hi
    refine do_cut 0 (P := fun w1 w2 => St W F0 w2 [NetP g (N + 1) B (updL C (kl i j) (decide (0 < n))), RefP r Q G] ∧ ∀ k, w.heap.size ≤ k → k < w1.heap.size → w2.heap[k]? = w1.heap[k]?) (fun w1 h1 => (net_cut_ok (hj w1 h1).1 hi hN _).mono ?_) (fun w1 w2 _ h2 => h2.2) (fun w1 w2 h1 h2 => ?_)
    · rintro e w2 ⟨rfl, s⟩
      exact ⟨rfl, (hj w1 h1).2 w2 _ s⟩
    · have S2 := h2.1
      obtain ⟨F2, hr, _, hj2⟩ := S2.perm2.join
      refine (ref_cut_ok hr hi16 hj16 _).mono ?_
      rintro e w3 ⟨rfl, s⟩
      exact ⟨rfl, N + 1, _, _, _, _, Nat.le_refl _, D.cut hi16 hj16 _, (hj2 w3 _ s).perm2⟩
  · have hi : isB a b = false := by simpa using hi
    refine do_cut 2 (P := fun w1 w2 => Below w1.heap.size w1 w2) (fun w1 h1 => net_cut_err (hj w1 h1).1 hi _) (fun w1 w2 _ h2 k _ hk => h2.block k hk) (fun w1 w2 h1 h2 => ?_)
    have S2 := (S.call h1).call h2
    refine (ref_cut_err a b hi _).mono ?_
    rintro e w3 ⟨rfl, rfl⟩
    exact ⟨rfl, N, B, C, Q, G, Nat.le_succ _, D, S2⟩
theorem step_lose (S : St W F0 w [NetP g N B C, RefP r Q G]) (D : Doc B C Q G) (hb : WI b) {n : Nat} :
    Calls Try.prog 20 #[.pointer (some ⟨g, 0, none⟩), .pointer (some ⟨r, 0, none⟩), .agg #[.int .i64 4, .int .i64 a, .int .i64 b, .int .i64 k, .slice A n c]] w fun e w' => e = .returned (.bool true) ∧ Rr W F0 g r N w' := by
  obtain ⟨F, hF0, hj⟩ := S.joinC NetP.loc
  have hB : ∀ l, (B l).length ≤ 1000000 := fun l => by have := D.len l; omega
  have H1 : ∀ w1, Below w.heap.size w w1 → Calls Try.prog 17 #[.pointer (some ⟨g, 0, none⟩), .int .i64 b] w1 fun e w2 => e = .returned (.int .i64 (loseS B b 16)) ∧ (St W F0 w2 [NetP g N (loseB B b 16) C, RefP r Q G] ∧ ∀ k, w.heap.size ≤ k → k < w1.heap.size → w2.heap[k]? = w1.heap[k]?) := fun w1 h1 => (net_lose (hj w1 h1).1 hb hB).mono (by rintro e w2 ⟨rfl, s⟩; exact ⟨rfl, (hj w1 h1).2 w2 _ s⟩)
  refine do_lose (loseS B b 16) H1 (fun w1 w2 _ h2 => h2.2) (fun w1 w2 h1 h2 => ?_)
  by_cases hi : 0 ≤ b ∧ b < 16
  · obtain ⟨j, rfl⟩ : ∃ j : Nat, b = j := ⟨b.toNat, by omega⟩
    have hj16 : j < 16 := by omega
    obtain ⟨D2, e2⟩ := D.lose hj16 16 (Nat.le_refl _)
    obtain ⟨F2, hr, _, hj2⟩ := h2.1.perm2.join
    rw [e2]
    refine (ref_lose hr hj16 (fun p => by have := D.ql p; omega)).mono ?_
    rintro e w3 ⟨rfl, s⟩
    exact ⟨rfl, N, _, _, _, _, Nat.le_succ _, D2, (hj2 w3 _ s).perm2⟩
  · obtain ⟨e1, e2⟩ := lose_off (B := B) (b := b) (fun k hk => D.off k b (WI_small (by omega) (by omega)) hb (decide_eq_false (fun q => hi ⟨q.2.2.1, q.2.2.2⟩))) 16 (Nat.le_refl _)
    rw [e1] at h2
    rw [e2]
    refine (ref_lose_off b hi).mono ?_
    rintro e w3 ⟨rfl, rfl⟩
    exact ⟨rfl, N, _, _, _, _, Nat.le_succ _, D, h2.1⟩
theorem off_or_nil {B : Lit → List (List Int)} {C : Lit → Bool} {Q : Nat → List ByteArray} {G : Nat → Bool} (D : Doc B C Q G) {a b : Int} (h : B (kl a b) = []) : isB a b = true → ∃ i j : Nat, a = i ∧ b = j ∧ i < 16 ∧ j < 16 ∧ Q (i * 16 + j) = [] := fun hi => by
  obtain ⟨i, j, rfl, rfl, hi16, hj16⟩ := nat_of_isB hi
  exact ⟨i, j, rfl, rfl, hi16, hj16, by rw [D.q i j hi16 hj16, h]; rfl⟩
theorem step_take (S : St W F0 w [NetP g N B C, RefP r Q G]) (D : Doc B C Q G) (hN : N < 1000000) (ha : WI a) (hb : WI b) (hk : WI k) {n : Nat} :
    Calls Try.prog 20 #[.pointer (some ⟨g, 0, none⟩), .pointer (some ⟨r, 0, none⟩), .agg #[.int .i64 1, .int .i64 a, .int .i64 b, .int .i64 k, .slice A n c]] w fun e w' => e = .returned (.bool true) ∧ Rr W F0 g r N w' := by
  obtain ⟨F, hF0, hj⟩ := S.joinC NetP.loc
  by_cases h0 : B (kl a b) = []
  · refine do_take ⟨#[]⟩ false (P := fun w1 u w2 => u = .slice none 0 0 ∧ Below w1.heap.size w1 w2) (fun w1 h1 => (net_take0 (hj w1 h1).1 ha hb h0 k).mono ?_) (fun w1 u w2 _ h2 k _ hk => h2.2.block k hk) (fun w1 u w2 h1 h2 => ?_)
    · rintro e w2 ⟨rfl, h⟩
      exact ⟨_, rfl, rfl, h⟩
    · obtain ⟨rfl, h2⟩ := h2
      have S2 := (S.call h1).call h2
      obtain ⟨F2, hr, _, _⟩ := S2.perm2.join
      refine (ref_take0 hr a b (off_or_nil D h0) k).mono ?_
      rintro e w3 ⟨rfl, rfl⟩
      exact ⟨rfl, ⟨N, B, C, Q, G, Nat.le_succ _, D, S2⟩, conv_slice (Kd.C_nil _ _)⟩
  · have hi : isB a b = true := by
      cases hh : isB a b with
      | true => rfl
      | false => exact absurd (D.off a b ha hb hh) h0
    obtain ⟨i, j, rfl, rfl, hi16, hj16⟩ := nat_of_isB hi
    have hlen := D.len (kl i j)
    have hq : (Q (i * 16 + j)).length = (B (kl i j)).length := by rw [D.q i j hi16 hj16, List.length_map]
    obtain ⟨m, hm⟩ : ∃ m, (B (kl i j)).length = m + 1 := by
      cases hh : B (kl i j) with
      | nil => exact absurd hh h0
      | cons y l => exact ⟨l.length, rfl⟩
    obtain ⟨p1, p2⟩ := placeI_lt (which := k) (show (0 : Int) < ((m + 1 : Nat) : Int) by omega)
    have hlt : (placeI k ((m + 1 : Nat) : Int)).toNat < (B (kl i j)).length := by omega
    refine do_take (strOfNums ((B (kl i j)).getD (placeI k ((m + 1 : Nat) : Int)).toNat [])) true (P := fun w1 u w2 => St W F0 w2 [NetP g (N + 1) (updL B (kl i j) ((B (kl i j)).eraseIdx (placeI k ((m + 1 : Nat) : Int)).toNat)) C, SlP u ((B (kl i j)).getD (placeI k ((m + 1 : Nat) : Int)).toNat []), RefP r Q G] ∧ ∀ k, w.heap.size ≤ k → k < w1.heap.size → w2.heap[k]? = w1.heap[k]?) (fun w1 h1 => (net_take1 (hj w1 h1).1 ha hb m hm (by omega) k hk hN).mono ?_) (fun w1 u w2 _ h2 => h2.2) (fun w1 u w2 h1 h2 => ?_)
    · rintro e w2 ⟨u, rfl, s⟩
      exact ⟨u, rfl, (hj w1 h1).2 w2 _ s⟩
    · have S2 := h2.1.front 2 rfl
      obtain ⟨F2, hr, _, hj2⟩ := S2.join
      refine (ref_take1 hr hi16 hj16 (m + 1) (by rw [hq, hm]) (Nat.succ_pos _) (by omega) k).mono ?_
      rintro e w3 ⟨rfl, s⟩
      have S3 := hj2 w3 _ s
      have S4 := (S3.perm2).take 2
      obtain ⟨_, A5, c5, rfl, _, hF5⟩ := S3.get 2 rfl
      have D3 := D.put hi16 hj16 ((B (kl i j)).eraseIdx (placeI k ((m + 1 : Nat) : Int)).toNat) (Nat.le_trans (List.length_eraseIdx_le ..) hlen) (fun y hy => D.each _ y (List.mem_of_mem_eraseIdx hy))
      have e1 : (Q (i * 16 + j)).getD (placeI k ((m + 1 : Nat) : Int)).toNat ⟨#[]⟩ = strOfNums ((B (kl i j)).getD (placeI k ((m + 1 : Nat) : Int)).toNat []) := by
        rw [D.q i j hi16 hj16]
        exact getD_map_lt _ _ _ _ _ hlt
      have e2 : (Q (i * 16 + j)).eraseIdx (placeI k ((m + 1 : Nat) : Int)).toNat = ((B (kl i j)).eraseIdx (placeI k ((m + 1 : Nat) : Int)).toNat).map strOfNums := by
        rw [D.q i j hi16 hj16]
        exact eraseIdx_map' _ _ _
      rw [e2] at S4
      exact ⟨by rw [e1], ⟨N + 1, _, _, _, _, Nat.le_refl _, D3, S4⟩, conv_slice (Kd.F_now hF5)⟩
theorem step_peek (S : St W F0 w [NetP g N B C, RefP r Q G]) (D : Doc B C Q G) (ha : WI a) (hb : WI b) (hk : WI k) {n : Nat} :
    Calls Try.prog 20 #[.pointer (some ⟨g, 0, none⟩), .pointer (some ⟨r, 0, none⟩), .agg #[.int .i64 5, .int .i64 a, .int .i64 b, .int .i64 k, .slice A n c]] w fun e w' => e = .returned (.bool true) ∧ Rr W F0 g r N w' := by
  obtain ⟨F, hF0, hj⟩ := S.joinC NetP.loc
  by_cases h0 : B (kl a b) = []
  · refine do_peek ⟨#[]⟩ false (P := fun w1 u w2 => u = .slice none 0 0 ∧ Below w1.heap.size w1 w2) (fun w1 h1 => (net_peek0 (hj w1 h1).1 ha hb h0 k).mono ?_) (fun w1 u w2 _ h2 k _ hk => h2.2.block k hk) (fun w1 u w2 h1 h2 => ?_)
    · rintro e w2 ⟨rfl, h⟩
      exact ⟨_, rfl, rfl, h⟩
    · obtain ⟨rfl, h2⟩ := h2
      have S2 := (S.call h1).call h2
      obtain ⟨F2, hr, _, _⟩ := S2.perm2.join
      refine (ref_peek0 hr a b (off_or_nil D h0) k).mono ?_
      rintro e w3 ⟨rfl, rfl⟩
      exact ⟨rfl, ⟨N, B, C, Q, G, Nat.le_succ _, D, S2⟩, conv_slice (Kd.C_nil _ _)⟩
  · have hi : isB a b = true := by
      cases hh : isB a b with
      | true => rfl
      | false => exact absurd (D.off a b ha hb hh) h0
    obtain ⟨i, j, rfl, rfl, hi16, hj16⟩ := nat_of_isB hi
    have hlen := D.len (kl i j)
    have hq : (Q (i * 16 + j)).length = (B (kl i j)).length := by rw [D.q i j hi16 hj16, List.length_map]
    have hpos : 0 < (B (kl i j)).length := List.length_pos_iff.2 h0
    obtain ⟨p1, p2⟩ := placeI_lt (which := k) (show (0 : Int) < ((B (kl i j)).length : Int) by omega)
    have hlt : (placeI k ((B (kl i j)).length : Int)).toNat < (B (kl i j)).length := by omega
    refine do_peek (strOfNums ((B (kl i j)).getD (placeI k ((B (kl i j)).length : Int)).toNat [])) true (P := fun w1 u w2 => (Kd.int .u8).R 5 w2 w1.heap.size (fun _ => True) u ((B (kl i j)).getD (placeI k ((B (kl i j)).length : Int)).toNat []) ∧ Below w1.heap.size w1 w2) (fun w1 h1 => (net_peek1 (hj w1 h1).1 ha hb _ rfl hpos (by omega) (fun y hy => by have := D.each _ y hy; omega) k hk).mono ?_) (fun w1 u w2 _ h2 k _ hk => h2.2.block k hk) (fun w1 u w2 h1 h2 => ?_)
    · rintro e w2 ⟨u, rfl, h3, h4⟩
      exact ⟨u, rfl, h3, h4⟩
    · obtain ⟨h3, h4⟩ := h2
      have S2 := (S.call h1).call h4
      obtain ⟨F2, hr, _, _⟩ := S2.perm2.join
      refine (ref_peek1 hr hi16 hj16 (B (kl i j)).length hq hpos (by omega) k).mono ?_
      rintro e w3 ⟨rfl, rfl⟩
      have e1 : (Q (i * 16 + j)).getD (placeI k ((B (kl i j)).length : Int)).toNat ⟨#[]⟩ = strOfNums ((B (kl i j)).getD (placeI k ((B (kl i j)).length : Int)).toNat []) := by
        rw [D.q i j hi16 hj16]
        exact getD_map_lt _ _ _ _ _ hlt
      obtain ⟨A5, c5, rfl⟩ := Kd.R_slice h3
      obtain ⟨_, _, hC5⟩ := Kd.R_reads' h3
      exact ⟨by rw [e1], ⟨N, B, C, Q, G, Nat.le_succ _, D, S2⟩, conv_slice hC5⟩
/-- Whatever the call. -/
theorem step_any (S : St W F0 w [NetP g N B C, RefP r Q G]) (D : Doc B C Q G) (hN : N < 1000000) (ha : WI a) (hb : WI b) (hk : WI k) (kd : Int) (hC : ∀ W', Fr F0 W W' → (Kd.int .u8).C W' A x.length x) (hx : x.length ≤ 1000) :
    Calls Try.prog 20 #[.pointer (some ⟨g, 0, none⟩), .pointer (some ⟨r, 0, none⟩), .agg #[.int .i64 kd, .int .i64 a, .int .i64 b, .int .i64 k, .slice A x.length c]] w fun e w' => e = .returned (.bool true) ∧ Rr W F0 g r N w' := by
  by_cases k1 : kd = 1
  · subst k1; exact step_take S D hN ha hb hk
  by_cases k2 : kd = 2
  · subst k2; exact step_double S D hN ha hb hk
  by_cases k3 : kd = 3
  · subst k3; exact step_cut S D hN
  by_cases k4 : kd = 4
  · subst k4; exact step_lose S D hb
  by_cases k5 : kd = 5
  · subst k5; exact step_peek S D ha hb hk
  exact step_send S D hN ha hb hC hx k1 k2 k3 k4 k5
end
end

end Go.Proofs.Ythkhfhhbldjdlaa.Npl
