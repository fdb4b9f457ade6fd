/- Printed by this session's wip/drive.py over the translation; some functions by hand. -/
import Derived.Test.YtlihfiajbhpokaaZLdox0
import Derived.Test.YtlihfiajbhpokaaZLdox4
import Derived.Test.YtlihfiajbhpokaaZLdox5
import Derived.Test.YtlihfiajbhpokaaZLdox6
namespace Go.Proofs.Ytlihfiajbhpokaa.Ldo
open Go.RowKit Go.Proofs.YtlihfiajbhpokaaW.PrintWords Go.Proofs.YtlihfiajbhpokaaW.PrintLast Go.Proofs.YtlihfiajbhpokaaW.PrintMore
attribute [local go_sem] max2_int min2_int max_two min_two max_three min_three max_four min_four
set_option linter.unusedVariables false
set_option linter.unusedSimpArgs false
def FoundV (sp : Nat → Addr) (n : Nat → Nat) (ix : (s : Nat) → Fin (n s) → Int) (R : Value) : Prop :=
  (∃ y : Fin (n 1), (∀ z : Fin (n 1), z.1 < y.1 → ix 1 z < 0) ∧ 0 ≤ ix 1 y ∧ R = .tuple #[.pointer (some (sp 1)), .int .i64 (y.1 : Int), .int .i64 (ix 1 y), .bool true]) ∨
  ((∀ y, ix 1 y < 0) ∧ ∃ y : Fin (n 2), (∀ z : Fin (n 2), z.1 < y.1 → ix 2 z < 0) ∧ 0 ≤ ix 2 y ∧ R = .tuple #[.pointer (some (sp 2)), .int .i64 (y.1 : Int), .int .i64 (ix 2 y), .bool true]) ∨
  ((∀ y, ix 1 y < 0) ∧ (∀ y, ix 2 y < 0) ∧ R = .tuple #[.pointer none, .int .i64 0, .int .i64 0, .bool false])
section
open Go.Shelf
attribute [local go_sem] Oper.semAt_some
set_option maxHeartbeats 8000000 in
set_option maxRecDepth 100000 in
theorem ladder_find (po : Option Addr) (id : Int) (sp : Nat → Addr) (A : Nat → Option Addr) (n c : Nat → Nat) (w : World) (hm : ∀ s, n s ≤ maxLen) (hA : ∀ s, 0 < n s → ∃ ad, A s = some ad) (ix : (s : Nat) → Fin (n s) → Int)
    (hq : ∀ s, s = 1 ∨ s = 2 → ∀ W', KX w.heap.size (fun _ => False) w W' → ∀ (y : Fin (n s)) ad, A s = some ad → ∃ Aq m cq, W'.cell? ⟨(ad.add (y.1 * 2)).block, (ad.add (y.1 * 2)).off + 1, none⟩ = some (.slice Aq m cq) ∧ ∀ p, W'.cell? p = some (.int .u64 id) →
      Calls Try.prog 74 #[.slice Aq m cq, .func (.func 91) #[] #[.pointer (some p)]] W' fun e w' => e = .returned (.int .i64 (ix s y)) ∧ Below W'.heap.size W' w')
    (hS : ∀ s : Nat, s = 1 ∨ s = 2 → ∀ W', KX w.heap.size (fun _ => False) w W' → Calls Try.prog 71 #[.pointer po, .int .i64 (s : Int)] W' fun e w' => e = .returned (.pointer (some (sp s))) ∧ w' = W')
    (hv : ∀ s, s = 1 ∨ s = 2 → ∀ W', KX w.heap.size (fun _ => False) w W' → W'.cell? (sp s) = some (.slice (A s) (n s) (c s))) :
    Calls Try.prog 70 #[.pointer po, .int .u64 id] w fun e w' => ∃ R, e = .returned R ∧ FoundV sp n ix R ∧ Below w.heap.size w w' := by
  have HS := Aside0.mk hS
  have HV := Aside0.mk hv
  have HA := Aside0.mk hA
  have HQ := Aside0.mk hq
  have HM := Aside0.mk hm
  clear hS hv hA hq hm
  have S7 := (((((((St.start w (fun _ => False)).alloc (cs := #[.pointer po]) (t := 61)).alloc (cs := #[.int .u64 id]) (t := 31)).alloc (cs := #[.pointer none]) (t := 109)).alloc (cs := #[.int .i64 0]) (t := 3)).alloc (cs := #[.int .i64 0]) (t := 3)).alloc (cs := #[.bool false]) (t := 4)).alloc (cs := #[.int .i64 1]) (t := 3)
  simp only [World.size_alloc] at S7
  have HS7 := Aside0.mk S7
  clear S7
  refine (callsIn_wide (n := 4)).1 ?_
  refine callsIn_of_wp_marks Try.func70 rfl trivial ?_ rfl
  simp only [Try.ntmps70, List.size_toArray, List.length_cons, List.length_nil, Nat.reduceAdd, Nat.reduceSub, Array.replicate_succ, Array.replicate_zero, List.push_toArray, List.append_toArray, List.nil_append, List.cons_append]
  obtain ⟨cd, hcd⟩ : ∃ cd, blkF 1 ((Try.f70.body).getD .skip) = some cd := ⟨_, rfl⟩
  have e1 := Option.some.inj (hcd.symm.trans (show blkF 1 ((Try.f70.body).getD .skip) = some _ from rfl))
  rw [← e1]
  clear e1
  gi_wp2
  obtain ⟨W, hW⟩ : ∃ W, W = ((((((w.alloc (.cells #[.pointer po] 61)).alloc (.cells #[.int .u64 id] 31)).alloc (.cells #[.pointer none] 109)).alloc (.cells #[.int .i64 0] 3)).alloc (.cells #[.int .i64 0] 3)).alloc (.cells #[.bool false] 4)).alloc (.cells #[.int .i64 1] 3) := ⟨_, rfl⟩
  rw [← hW] at HS7 ⊢
  clear hW
  simp only [Nat.add_assoc, Nat.reduceAdd] at HS7 ⊢
  have hb0 : Below w.heap.size w W := HS7.out.below
  have c0 := HS7.out.blk 6 rfl
  have c1 := HS7.out.blk 5 rfl
  have c2 := HS7.out.blk 4 rfl
  have c3 := HS7.out.blk 3 rfl
  have c4 := HS7.out.blk 2 rfl
  have c5 := HS7.out.blk 1 rfl
  have c6 := HS7.out.blk 0 rfl
  have x6 : W.cell? ⟨w.heap.size + 6, 0, none⟩ = some (.int .i64 1) := (blk_cell c6 0).trans rfl
  have HC := Aside0.mk (And.intro c0 (And.intro c1 (And.intro c2 (And.intro c3 (And.intro c4 (And.intro c5 c6))))))
  have HB0 := Aside0.mk hb0
  clear c0 c1 c2 c3 c4 c5 c6 hb0 HS7
  refine wpIn_loop_rounds 3 ?_
  rw [roundsIn_succ]
  gi_wp2
  refine find_range hcd po id 1 (sp 1) (A 1) (n 1) (c 1) w W HB0.out (HM.out 1) (HA.out 1) (ix 1) (w.heap.size + 6) (by omega) (HQ.out 1 (.inl rfl)) (HS.out 1 (.inl rfl)) (HV.out 1 (.inl rfl)) ⟨HC.out.1, HC.out.2.1⟩ ⟨HC.out.2.2.1, HC.out.2.2.2.1, HC.out.2.2.2.2.1, HC.out.2.2.2.2.2.1⟩ HC.out.2.2.2.2.2.2 (dfs := []) trivial ?nor ?ret
  case ret =>
    intro D W1 y hlt hge hb hres hM
    gi_wp2
    refine hM.leave fun w' k1 k2 => ?_
    have e2 := blk_cell (k2 _ _ _ _ hres.1) 0
    have e3 := blk_cell (k2 _ _ _ _ hres.2.1) 0
    have e4 := blk_cell (k2 _ _ _ _ hres.2.2.1) 0
    have e5 := blk_cell (k2 _ _ _ _ hres.2.2.2) 0
    simp only [List.getElem?_toArray, List.getElem?_cons_zero, List.getElem?_cons_succ] at e2 e3 e4 e5
    refine ⟨_, by simp [results, Try.results70, go_sem, e2, e3, e4, e5], _, rfl, .inl ⟨y, hlt, hge, rfl⟩, ⟨k1.os.trans hb.os, k1.tape.trans hb.tape, k1.output.trans hb.output, Nat.le_trans hb.size k1.size, fun k hk => (k1.block k (by have := hb.size; omega) (by omega)).trans (hb.block k hk)⟩⟩
  case nor =>
    intro D W1 hno hb hbW hM
    have old : ∀ (k : Nat) (o : Obj), W.heap[k]? = some o → W1.heap[k]? = some o := fun k o h => (hbW.block k (Array.getElem?_eq_some_iff.1 h).1).trans h
    have x6 : W1.cell? ⟨w.heap.size + 6, 0, none⟩ = some (.int .i64 1) := (blk_cell (old _ _ HC.out.2.2.2.2.2.2) 0).trans rfl
    have HC1 := Aside0.mk (And.intro (old _ _ HC.out.1) (And.intro (old _ _ HC.out.2.1) (And.intro (old _ _ HC.out.2.2.1) (And.intro (old _ _ HC.out.2.2.2.1) (And.intro (old _ _ HC.out.2.2.2.2.1) (old _ _ HC.out.2.2.2.2.2.1))))))
    have HB1 := Aside0.mk hb
    have HM1 := Aside0.mk hM
    have HNO := Aside0.mk hno
    clear old hb hbW hM hno
    gi_wp2
    obtain ⟨W2, hW2⟩ : ∃ W2, W2 = W1.alloc (.cells #[.int .i64 2] 3) := ⟨_, rfl⟩
    rw [← hW2]
    have hbl : Below W1.heap.size W1 W2 := by rw [hW2]; exact below_alloc (Below.refl _ _) _
    have hnw : W2.heap[W1.heap.size]? = some (.cells #[.int .i64 2] 3 (0, 0)) := by rw [hW2]; exact blk_new W1 _
    have old : ∀ (k : Nat) (o : Obj), W1.heap[k]? = some o → W2.heap[k]? = some o := fun k o h => (hbl.block k (Array.getElem?_eq_some_iff.1 h).1).trans h
    have x6 : W2.cell? ⟨W1.heap.size, 0, none⟩ = some (.int .i64 2) := (blk_cell hnw 0).trans rfl
    have HC2 := Aside0.mk (And.intro (old _ _ HC1.out.1) (And.intro (old _ _ HC1.out.2.1) (And.intro (old _ _ HC1.out.2.2.1) (And.intro (old _ _ HC1.out.2.2.2.1) (And.intro (old _ _ HC1.out.2.2.2.2.1) (And.intro (old _ _ HC1.out.2.2.2.2.2) hnw))))))
    have HB2 := Aside0.mk (below_step HB1.out hbl)
    have HM2 : Aside0 (Marks w.heap.size W2 [{ target := .collected D, args := #[] }]) := ⟨HM1.out.keep fun D' _ h _ => old _ _ h⟩
    have HL2 : Aside0 (w.heap.size + 6 ≤ W1.heap.size) := ⟨by have := (Array.getElem?_eq_some_iff.1 HC1.out.2.2.2.2.2).1; omega⟩
    clear hW2 hbl hnw old HC1 HB1 HM1
    rw [roundsIn_succ]
    gi_wp2
    refine find_range hcd po id 2 (sp 2) (A 2) (n 2) (c 2) w W2 HB2.out (HM.out 2) (HA.out 2) (ix 2) W1.heap.size HL2.out (HQ.out 2 (.inr rfl)) (HS.out 2 (.inr rfl)) (HV.out 2 (.inr rfl)) ⟨HC2.out.1, HC2.out.2.1⟩ ⟨HC2.out.2.2.1, HC2.out.2.2.2.1, HC2.out.2.2.2.2.1, HC2.out.2.2.2.2.2.1⟩ HC2.out.2.2.2.2.2.2 HM2.out ?nor ?ret
    case ret =>
      intro D2 W3 y hlt hge hb hres hM
      gi_wp2
      refine hM.leave fun w' k1 k2 => ?_
      have e2 := blk_cell (k2 _ _ _ _ hres.1) 0
      have e3 := blk_cell (k2 _ _ _ _ hres.2.1) 0
      have e4 := blk_cell (k2 _ _ _ _ hres.2.2.1) 0
      have e5 := blk_cell (k2 _ _ _ _ hres.2.2.2) 0
      simp only [List.getElem?_toArray, List.getElem?_cons_zero, List.getElem?_cons_succ] at e2 e3 e4 e5
      refine ⟨_, by simp [results, Try.results70, go_sem, e2, e3, e4, e5], _, rfl, .inr (.inl ⟨HNO.out, y, hlt, hge, rfl⟩), ⟨k1.os.trans hb.os, k1.tape.trans hb.tape, k1.output.trans hb.output, Nat.le_trans hb.size k1.size, fun k hk => (k1.block k (by have := hb.size; omega) (by omega)).trans (hb.block k hk)⟩⟩
    case nor =>
      intro D2 W3 hno hb hbW hM
      have old : ∀ (k : Nat) (o : Obj), W2.heap[k]? = some o → W3.heap[k]? = some o := fun k o h => (hbW.block k (Array.getElem?_eq_some_iff.1 h).1).trans h
      have x6 : W3.cell? ⟨W1.heap.size, 0, none⟩ = some (.int .i64 2) := (blk_cell (old _ _ HC2.out.2.2.2.2.2.2) 0).trans rfl
      have HC3 := Aside0.mk (And.intro (old _ _ HC2.out.2.2.1) (And.intro (old _ _ HC2.out.2.2.2.1) (And.intro (old _ _ HC2.out.2.2.2.2.1) (old _ _ HC2.out.2.2.2.2.2.1))))
      have HB3 := Aside0.mk hb
      have HM3 := Aside0.mk hM
      have HNO2 := Aside0.mk hno
      clear old hb hbW hM hno
      gi_wp2
      obtain ⟨W4, hW4⟩ : ∃ W4, W4 = W3.alloc (.cells #[.int .i64 3] 3) := ⟨_, rfl⟩
      rw [← hW4]
      have hbl : Below W3.heap.size W3 W4 := by rw [hW4]; exact below_alloc (Below.refl _ _) _
      have hnw : W4.heap[W3.heap.size]? = some (.cells #[.int .i64 3] 3 (0, 0)) := by rw [hW4]; exact blk_new W3 _
      have old : ∀ (k : Nat) (o : Obj), W3.heap[k]? = some o → W4.heap[k]? = some o := fun k o h => (hbl.block k (Array.getElem?_eq_some_iff.1 h).1).trans h
      have x6 : W4.cell? ⟨W3.heap.size, 0, none⟩ = some (.int .i64 3) := (blk_cell hnw 0).trans rfl
      have z2 := blk_cell (old _ _ HC3.out.1) 0
      have z3 := blk_cell (old _ _ HC3.out.2.1) 0
      have z4 := blk_cell (old _ _ HC3.out.2.2.1) 0
      have z5 := blk_cell (old _ _ HC3.out.2.2.2) 0
      have fz2 := blk_frozen (old _ _ HC3.out.1) 0
      have fz3 := blk_frozen (old _ _ HC3.out.2.1) 0
      have fz4 := blk_frozen (old _ _ HC3.out.2.2.1) 0
      have fz5 := blk_frozen (old _ _ HC3.out.2.2.2) 0
      simp only [List.getElem?_toArray, List.getElem?_cons_zero, List.getElem?_cons_succ] at z2 z3 z4 z5
      have HC4 := Aside0.mk (And.intro (old _ _ HC3.out.1) (And.intro (old _ _ HC3.out.2.1) (And.intro (old _ _ HC3.out.2.2.1) (old _ _ HC3.out.2.2.2))))
      have HB4 := Aside0.mk (below_step HB3.out hbl)
      have HM4 : Aside0 (Marks w.heap.size W4 [{ target := .collected D2, args := #[] }, { target := .collected D, args := #[] }]) := ⟨HM3.out.keep fun D' _ h _ => old _ _ h⟩
      clear hW4 hbl hnw old HC3 HB3 HM3
      rw [roundsIn_succ]
      gi_wp2
      generalize hV : World.setCell _ ⟨w.heap.size + 5, 0, none⟩ _ = V
      have kp : ∀ k, k ≠ w.heap.size + 2 → k ≠ w.heap.size + 3 → k ≠ w.heap.size + 4 → k ≠ w.heap.size + 5 → V.heap[k]? = W4.heap[k]? := fun k q2 q3 q4 q5 => by
        rw [← hV]
        exact (Below.heap_setCell _ _ _ _ q5).trans ((Below.heap_setCell _ _ _ _ q4).trans ((Below.heap_setCell _ _ _ _ q3).trans (Below.heap_setCell _ _ _ _ q2)))
      have r2 : V.heap[w.heap.size + 2]? = some (.cells #[.pointer none] 109 (0, 0)) := by
        rw [← hV]
        refine (Below.heap_setCell _ _ _ _ (by show w.heap.size + 2 ≠ w.heap.size + 5; omega)).trans ?_
        refine (Below.heap_setCell _ _ _ _ (by show w.heap.size + 2 ≠ w.heap.size + 4; omega)).trans ?_
        refine (Below.heap_setCell _ _ _ _ (by show w.heap.size + 2 ≠ w.heap.size + 3; omega)).trans ?_
        exact blk_put HC4.out.1 0 _ rfl
      have r3 : V.heap[w.heap.size + 3]? = some (.cells #[.int .i64 0] 3 (0, 0)) := by
        rw [← hV]
        refine (Below.heap_setCell _ _ _ _ (by show w.heap.size + 3 ≠ w.heap.size + 5; omega)).trans ?_
        refine (Below.heap_setCell _ _ _ _ (by show w.heap.size + 3 ≠ w.heap.size + 4; omega)).trans ?_
        exact blk_put ((Below.heap_setCell _ _ _ _ (by show w.heap.size + 3 ≠ w.heap.size + 2; omega)).trans HC4.out.2.1) 0 _ rfl
      have r4 : V.heap[w.heap.size + 4]? = some (.cells #[.int .i64 0] 3 (0, 0)) := by
        rw [← hV]
        refine (Below.heap_setCell _ _ _ _ (by show w.heap.size + 4 ≠ w.heap.size + 5; omega)).trans ?_
        exact blk_put ((Below.heap_setCell _ _ _ _ (by show w.heap.size + 4 ≠ w.heap.size + 3; omega)).trans ((Below.heap_setCell _ _ _ _ (by show w.heap.size + 4 ≠ w.heap.size + 2; omega)).trans HC4.out.2.2.1)) 0 _ rfl
      have r5 : V.heap[w.heap.size + 5]? = some (.cells #[.bool false] 4 (0, 0)) := by
        rw [← hV]
        exact blk_put ((Below.heap_setCell _ _ _ _ (by show w.heap.size + 5 ≠ w.heap.size + 4; omega)).trans ((Below.heap_setCell _ _ _ _ (by show w.heap.size + 5 ≠ w.heap.size + 3; omega)).trans ((Below.heap_setCell _ _ _ _ (by show w.heap.size + 5 ≠ w.heap.size + 2; omega)).trans HC4.out.2.2.2))) 0 _ rfl
      have hfr : Fr (fun k => k = w.heap.size + 2 ∨ k = w.heap.size + 3 ∨ k = w.heap.size + 4 ∨ k = w.heap.size + 5) W4 V := by
        rw [← hV]
        exact ((((Fr.refl _ _).set (.inl (.inl rfl)) _).set (.inl (.inr (.inl rfl))) _).set (.inl (.inr (.inr (.inl rfl)))) _).set (.inl (.inr (.inr (.inr rfl)))) _
      have hb : Below w.heap.size w V := HB4.out.trans ⟨hfr.os, hfr.tape, hfr.output, hfr.size, fun k hk => kp k (by omega) (by omega) (by omega) (by omega)⟩
      have hM : Marks w.heap.size V [{ target := .collected D2, args := #[] }, { target := .collected D, args := #[] }] := HM4.out.keep fun D' _ h _ => by
        have key : ∀ (k : Nat) (cs : Array Value) (t : TypeId) (f : Nat × Nat), W4.heap[k]? = some (.cells cs t f) → D' ≠ k := fun k cs t f h' e => by subst e; rw [h] at h'; cases h'
        exact (kp D' (key _ _ _ _ HC4.out.1) (key _ _ _ _ HC4.out.2.1) (key _ _ _ _ HC4.out.2.2.1) (key _ _ _ _ HC4.out.2.2.2)).trans h
      clear hV kp hfr
      refine hM.leave fun w' k1 k2 => ?_
      have e2 := blk_cell (k2 _ _ _ _ r2) 0
      have e3 := blk_cell (k2 _ _ _ _ r3) 0
      have e4 := blk_cell (k2 _ _ _ _ r4) 0
      have e5 := blk_cell (k2 _ _ _ _ r5) 0
      simp only [List.getElem?_toArray, List.getElem?_cons_zero, List.getElem?_cons_succ] at e2 e3 e4 e5
      refine ⟨_, by simp [results, Try.results70, go_sem, e2, e3, e4, e5], _, rfl, .inr (.inr ⟨HNO.out, HNO2.out, rfl⟩), ⟨k1.os.trans hb.os, k1.tape.trans hb.tape, k1.output.trans hb.output, Nat.le_trans hb.size k1.size, fun k hk => (k1.block k (by have := hb.size; omega) (by omega)).trans (hb.block k hk)⟩⟩
end
set_option maxHeartbeats 8000000 in
set_option maxRecDepth 100000 in
theorem ladder_find1 (W : World) (x : S33) (p : Addr) (id : Int) (k1 : W.cell? p = some (.int .u64 id)) :
    Calls Try.prog 91 #[.agg #[.int .u64 x.f0, .int .i64 x.f1, .int .i64 x.f2, .int .i64 x.f3, .int .i64 x.f4, .int .u64 x.f5], .pointer (some p)] W fun e w' => e = .returned (.bool (decide (x.f0 = id))) ∧ Below W.heap.size W w' := by
  have hu := Try.underlying33
  have HB := Aside0.mk (Below.refl W.heap.size W)
  have hB : p.block < W.heap.size := World.block_lt_of_cell? W p k1
  have hbe : (x.f0 == id) = decide (x.f0 = id) := by by_cases h : x.f0 = id <;> simp [h]
  rw [← hbe]
  clear hbe
  go_enter Try.func91, Try.ntmps91
  go_wp2
  go_ret
  exact ⟨rfl, by repeat (first | (with_reducible first | exact HB.out | apply below_alloc | apply pw_below_drewN | apply below_drew1) | exact HB.out)⟩
structure BkF (g : Nat) (rs : Nat → List RowM) (m : Nat) (A : Nat → Option Addr) (c : Nat → Nat) (w : World) : Prop where
  hb : w.heap[g]? = some (.cells #[.slice (A 1) (rs 1).length (c 1), .slice (A 2) (rs 2).length (c 2), .bool true, .int .i64 m] 108 (0, 0))
  hA : ∀ s, 0 < (rs s).length → ∃ ad, A s = some ad
  hm : ∀ s, (rs s).length ≤ maxLen
  hr : ∀ s (j : Nat) p q, (rs s)[j]? = some (p, q) → ∀ ad, A s = some ad → ∃ v, w.cell? (ad.add (j * 2)) = some (.int .i64 p) ∧ w.cell? ⟨(ad.add (j * 2)).block, (ad.add (j * 2)).off + 1, none⟩ = some v ∧ ∃ F, QuP v q w F
theorem cell_kept {w w' : World} (hk : ∀ k, k < w.heap.size → w'.heap[k]? = w.heap[k]?) {p : Addr} {v : Value} (h : w.cell? p = some v) : w'.cell? p = some v := by
  have hl := World.block_lt_of_cell? w p h
  unfold World.cell? at h ⊢
  rw [hk _ hl]; exact h
theorem BkF.kept {g m : Nat} {rs : Nat → List RowM} {A : Nat → Option Addr} {c : Nat → Nat} {w w' : World} (h : BkF g rs m A c w) (hs : w.heap.size ≤ w'.heap.size) (hk : ∀ k, k < w.heap.size → w'.heap[k]? = w.heap[k]?) : BkF g rs m A c w' :=
  ⟨(hk _ (blk_lt h.hb)).trans h.hb, h.hA, h.hm, fun s j p q e ad ha => by
    obtain ⟨v, h1, h2, F, h3⟩ := h.hr s j p q e ad ha
    exact ⟨v, cell_kept hk h1, cell_kept hk h2, _, QuP.loc.step (QuP.loc.bound h3) hs fun k _ hl => hk k hl⟩⟩
theorem BkF.kx {g m n : Nat} {rs : Nat → List RowM} {A : Nat → Option Addr} {c : Nat → Nat} {w w' : World} (h : BkF g rs m A c w) (hn : n = w.heap.size) (k : KX n (fun _ => False) w w') : BkF g rs m A c w' := h.kept k.1 fun i hi => k.2 i (by omega) fun q => q
theorem BkF.below {g m : Nat} {rs : Nat → List RowM} {A : Nat → Option Addr} {c : Nat → Nat} {w w' : World} (h : BkF g rs m A c w) (hb : Below w.heap.size w w') : BkF g rs m A c w' := h.kept hb.size fun k hk => hb.block k hk
def rsB (rs0 rs1 : List RowM) (s : Nat) : List RowM := if s = 1 then rs0 else if s = 2 then rs1 else []
theorem SideP.read {v : Value} {rs : List RowM} {w : World} {F : Nat → Prop} (h : SideP v rs w F) : ∃ A c, v = .slice A rs.length c ∧ (0 < rs.length → ∃ ad, A = some ad) ∧ rs.length ≤ maxLen ∧ ∀ (j : Nat) p q, rs[j]? = some (p, q) → ∀ ad, A = some ad → ∃ v, w.cell? (ad.add (j * 2)) = some (.int .i64 p) ∧ w.cell? ⟨(ad.add (j * 2)).block, (ad.add (j * 2)).off + 1, none⟩ = some v ∧ ∃ F, QuP v q w F := by
  obtain ⟨es, rfl, F1, h1, h2, h3, h4⟩ := h
  obtain ⟨A, c, e, hr⟩ := rcs_reads h3
  have hm := OwP.small h3
  refine ⟨A, c, by rw [e, List.length_map], fun hp => ?_, by rw [List.length_map]; exact hm, fun j p q hj ad ha => ?_⟩
  · rw [List.length_map] at hp
    obtain ⟨ad, ha, _⟩ := hr 0 es[0] (List.getElem?_eq_getElem hp)
    exact ⟨ad, ha⟩
  · rw [List.getElem?_map] at hj
    obtain ⟨e', he, hpq⟩ := Option.map_eq_some_iff.1 hj
    obtain ⟨ad', ha', k1, k2⟩ := hr j e' he
    obtain rfl : ad = ad' := Option.some.inj (ha.symm.trans ha')
    obtain ⟨F', _, hQ⟩ := elsQ_at h4 j e' he
    rw [hpq] at k1 hQ
    exact ⟨e'.1, k1, k2, F', hQ⟩
theorem St.bookRead {W w : World} {F0 : Nat → Prop} {l : List Part} {g m : Nat} {rs0 rs1 : List RowM} (h : St W F0 w (BookP g rs0 rs1 m :: l)) : ∃ A c, BkF g (rsB rs0 rs1) m A c w := by
  obtain ⟨v0, v1, hS⟩ := h.bookOpen
  obtain ⟨F1, h1⟩ := hS.get 1 rfl
  obtain ⟨F2, h2⟩ := hS.get 2 rfl
  have hb := hS.blk 0 rfl
  obtain ⟨A1, c1, rfl, a1, m1, r1⟩ := SideP.read h1
  obtain ⟨A2, c2, rfl, a2, m2, r2⟩ := SideP.read h2
  refine ⟨fun s => if s = 1 then A1 else if s = 2 then A2 else none, fun s => if s = 1 then c1 else c2, hb, fun s hp => ?_, fun s => ?_, fun s j p q e ad ha => ?_⟩
  · unfold rsB at hp
    by_cases c : s = 1
    · simp only [if_pos c] at hp ⊢; exact a1 hp
    · by_cases c2 : s = 2
      · simp only [if_neg c, if_pos c2] at hp ⊢; exact a2 hp
      · simp [if_neg c, if_neg c2] at hp
  · unfold rsB
    split
    · exact m1
    · split
      · exact m2
      · exact Nat.zero_le _
  · unfold rsB at e
    by_cases c : s = 1
    · simp only [if_pos c] at e ha; exact r1 j p q e ad ha
    · by_cases c2 : s = 2
      · simp only [if_neg c, if_pos c2] at e ha; exact r2 j p q e ad ha
      · simp [if_neg c, if_neg c2] at e
section
variable {g m : Nat} {rs : Nat → List RowM} {A : Nat → Option Addr} {c : Nat → Nat} {w : World}
theorem BkF.side (h : BkF g rs m A c w) (s : Nat) (hs : s = 1 ∨ s = 2) : Calls Try.prog 71 #[.pointer (some ⟨g, 0, none⟩), .int .i64 (s : Int)] w fun e w' => e = .returned (.pointer (some ⟨g, s - 1, none⟩)) ∧ w' = w := by
  rcases hs with rfl | rfl
  · exact ladder_side h.hb 0 (by omega)
  · exact ladder_side h.hb 1 (by omega)
theorem BkF.head (h : BkF g rs m A c w) (s : Nat) (hs : s = 1 ∨ s = 2) : w.cell? ⟨g, s - 1, none⟩ = some (.slice (A s) (rs s).length (c s)) := by
  rcases hs with rfl | rfl
  · exact (blk_cell h.hb 0).trans rfl
  · exact (blk_cell h.hb 1).trans rfl
theorem BkF.row (h : BkF g rs m A c w) (s : Nat) (y : Fin (rs s).length) (ad : Addr) (ha : A s = some ad) : ∃ v, w.cell? (ad.add (y.1 * 2)) = some (.int .i64 ((rs s)[y.1]).1) ∧ w.cell? ⟨(ad.add (y.1 * 2)).block, (ad.add (y.1 * 2)).off + 1, none⟩ = some v ∧ ∃ F, QuP v ((rs s)[y.1]).2 w F :=
  h.hr s y.1 _ _ (List.getElem?_eq_getElem y.2) ad ha
def ixF (rs : Nat → List RowM) (id : Int) (s : Nat) (y : Fin (rs s).length) : Int := ixQ (fun o => decide (o.f0 = id)) ((rs s)[y.1]).2
theorem BkF.find (h : BkF g rs m A c w) (id : Int) : Calls Try.prog 70 #[.pointer (some ⟨g, 0, none⟩), .int .u64 id] w fun e w' => ∃ R, e = .returned R ∧ FoundV (fun s => ⟨g, s - 1, none⟩) (fun s => (rs s).length) (ixF rs id) R ∧ Below w.heap.size w w' :=
  ladder_find (some ⟨g, 0, none⟩) id (fun s => ⟨g, s - 1, none⟩) A (fun s => (rs s).length) c w h.hm h.hA (ixF rs id)
    (fun s hs W' hk y ad ha => by
      have h' := h.kx rfl hk
      obtain ⟨v, _, k2, F, hQ⟩ := h'.row s y ad ha
      obtain ⟨Aq, cq, rfl, _⟩ := hQ.reads
      exact ⟨Aq, _, cq, k2, fun p hp => ixq_find hQ (fun o => decide (o.f0 = id)) (.pointer (some p)) fun W2 x hb => ladder_find1 W2 x p id ((hb.cell (World.block_lt_of_cell? W' p hp)).trans hp)⟩)
    (fun s hs W' hk => (h.kx rfl hk).side s hs) (fun s hs W' hk => (h.kx rfl hk).head s hs)
end
def appO (a : Array TypeId) (t : TypeId) (v : Array Value) : Go.Sem Value := Builtin.append_ a t v
theorem appO_of (a : Array TypeId) (t : TypeId) (v : Array Value) : Builtin.append_ a t v = appO a t v := rfl
def rowP (rs : Nat → List RowM) (s : Nat) (y : Fin (rs s).length) : Int := ((rs s)[y.1]).1
def ics (l : List Int) : List Value := l.map (.int .i64)
theorem inf_int64 : (Try.prog.info? 2).map (fun i => (i.zero, i.size, i.bytes)) = some (some (.int .i64 0), 1, 8) := by kernel_rfl
theorem St.appendOwn {W w w' : World} {F0 : Nat → Prop} {l : List Part} {e sz n m : Nat} {v v' : Value} {cs news : List Value} (h : St W F0 w (OwP e sz v n cs :: l)) (hO : w'.ownsRow 0 e sz v' (n + m) (cs ++ news)) (hg : w.grownBy w' v.ownBlock) (hat : v'.ownBlock = v.ownBlock ∨ v'.ownBlock = some w.heap.size) (h1 : ∀ u ∈ news, u.oneCell' = true) :
    St W F0 w' (OwP e sz v' (n + m) (cs ++ news) :: l) := by
  obtain ⟨F, hA, hF, hu⟩ := h.upd
  refine hu w' _ (fun k => F k ∨ k = w.heap.size) (Fr.of_grown hg (fun k e => hA.1 k e)) (fun k hk => hk.imp (fun q => q) (fun q => by omega)) OwP.loc ⟨fun k hk => ?_, hO, fun u hu => ?_⟩
  · rcases hat with q | q
    · exact .inl (hA.1 k (q ▸ hk))
    · rw [hk] at q; exact .inr (Option.some.inj q)
  · rcases List.mem_append.1 hu with q | q
    · exact hA.2.2 u q
    · exact h1 u q
theorem OwP.cellsAt {e sz n : Nat} {v : Value} {cs : List Value} {w : World} {F : Nat → Prop} (h : OwP e sz v n cs w F) (k : Nat) (hk : v.ownBlock = some k) : ∃ (cur : Array Value) (t : TypeId) (f : Nat × Nat), w.heap[k]? = some (Obj.cells cur t f) := by
  rcases h.block with ⟨rfl, _, _⟩ | ⟨g, cap, cur, rfl, _, hh, _⟩
  · simp [Value.ownBlock] at hk
  · have : g = k := by simpa [Value.ownBlock] using hk
    subst this
    exact ⟨_, _, _, hh⟩
theorem OwP.move {e sz n : Nat} {v : Value} {cs : List Value} {w w' : World} {F : Nat → Prop} (h : OwP e sz v n cs w F) (hs : w.heap.size ≤ w'.heap.size) (hk : ∀ (k : Nat) (cur : Array Value) (t : TypeId) (f : Nat × Nat), w.heap[k]? = some (Obj.cells cur t f) → w'.heap[k]? = some (Obj.cells cur t f)) : OwP e sz v n cs w' (fun k => v.ownBlock = some k) := by
  have h' : OwP e sz v n cs w (fun k => v.ownBlock = some k) := ⟨fun _ q => q, h.2⟩
  refine OwP.loc.step h' hs fun k q _ => ?_
  obtain ⟨cur, t, f, hh⟩ := h.cellsAt k q
  rw [hh, hk k cur t f hh]
theorem St.regrow {W A B : World} {X : Nat → Prop} {g e sz n : Nat} {cs : Array Value} {t : TypeId} {v : Value} {xs : List Value} {row : Option Nat} (h : St W X A [Pt g cs t, OwP e sz v n xs]) (hg : A.grownBy B row) (hr : ∀ r, row = some r → W.heap.size ≤ r ∧ ∃ o : Obj, A.heap[r]? = some o ∧ o.isCells = false) : St W X B [Pt g cs t, OwP e sz v n xs] := by
  obtain ⟨h0, F1, a1, _, p1, F2, b1, _, p2, _⟩ := h
  have kp : ∀ (k : Nat) (cur : Array Value) (t : TypeId) (f : Nat × Nat), A.heap[k]? = some (Obj.cells cur t f) → B.heap[k]? = some (Obj.cells cur t f) := fun k cur t f hk => (hg.block k (Array.getElem?_eq_some_iff.1 hk).1 (fun e => by
    obtain ⟨_, o, ho, hc⟩ := hr k e.symm
    rw [hk] at ho; cases ho; cases hc)).trans hk
  refine ⟨h0.trans (Fr.of_grown (F := fun k => W.heap.size ≤ k) hg (fun k e => (hr k e).1)) (fun k hk => .inr hk), fun k => k = g, fun k hk => by rw [hk]; exact a1 g p1.1, Pt.loc, ⟨rfl, kp _ _ _ _ p1.2⟩, fun k => v.ownBlock = some k, fun k hk => ⟨(b1 k (p2.1 k hk)).1, fun q => (b1 k (p2.1 k hk)).2 (by rw [q]; exact p1.1)⟩, OwP.loc, p2.move hg.size kp, trivial⟩
theorem own_end {w wl V w' : World} {t e sz n g : Nat} {v : Value} {xs : List Value} (hb : Below w.heap.size w wl) (hg : w.heap.size ≤ g) (S : St wl (fun k => k = g) V [Pt g #[v] t, OwP e sz v n xs]) (k1 : Fr (fun k => w.heap.size ≤ k) V w') (k2 : ∀ (k : Nat) (cs : Array Value) (t : TypeId) (f : Nat × Nat), V.heap[k]? = some (Obj.cells cs t f) → w'.heap[k]? = some (Obj.cells cs t f)) :
    w'.cell? ⟨g, 0, none⟩ = some v ∧ St w (fun _ => False) w' [OwP e sz v n xs] := by
  have hs := hb.size
  obtain ⟨h0, F1, a1, _, p1, F2, b1, _, p2, _⟩ := S
  refine ⟨(blk_cell (k2 _ _ _ _ p1.2) 0).trans rfl, ⟨k1.os.trans (h0.os.trans hb.os), k1.tape.trans (h0.tape.trans hb.tape), k1.output.trans (h0.output.trans hb.output), Nat.le_trans hs (Nat.le_trans h0.size k1.size), fun k hk _ => ?_⟩, fun k => v.ownBlock = some k, fun k hk => ?_, OwP.loc, p2.move k1.size k2, trivial⟩
  · have := h0.size
    exact (k1.block k (by omega) (by omega)).trans ((h0.block k (by omega) (by omega)).trans (hb.block k hk))
  · rcases (b1 k (p2.1 k hk)).1 with q | q
    · right; omega
    · right; omega
section
open Go.Shelf
attribute [local go_sem] Oper.semAt_some
attribute [local go_sem ↓ high] appO_of
set_option maxHeartbeats 8000000 in
set_option maxRecDepth 100000 in
theorem BkF.prices {g m : Nat} {rs : Nat → List RowM} {A : Nat → Option Addr} {c : Nat → Nat} {w : World} (h : BkF g rs m A c w) (s : Nat) (hs : s = 1 ∨ s = 2) (hl : (rs s).length ≤ 1000) :
    Calls Try.prog 39 #[.pointer (some ⟨g, 0, none⟩), .int .i64 (s : Int)] w fun e w' => ∃ v, e = .returned v ∧ St w (fun _ => False) w' [OwP 2 1 v (rs s).length (ics ((rs s).map Prod.fst))] := by
  have mixed : Try.prog.follows .mixedOrders = true := by kernel_rfl
  have HF := Aside0.mk h
  have HS := Aside0.mk hs
  have HL := Aside0.mk hl
  have S3 := ((((St.start w (fun _ => False)).alloc (cs := #[.slice none 0 0]) (t := 70)).alloc (cs := #[.pointer (some ⟨g, 0, none⟩)]) (t := 61)).alloc (cs := #[.int .i64 (s : Int)]) (t := 3))
  simp only [World.size_alloc] at S3
  have HS3 := Aside0.mk S3
  clear S3 h hs hl
  refine (callsIn_wide (n := 4)).1 ?_
  refine callsIn_of_wp_marks Try.func39 rfl trivial ?_ rfl
  simp only [Try.ntmps39, List.size_toArray, List.length_cons, List.length_nil, Nat.reduceAdd, Nat.reduceSub, Array.replicate_succ, Array.replicate_zero, List.push_toArray, List.append_toArray, List.nil_append, List.cons_append]
  gi_wp2_with (refine ⟨trivial, ?_⟩; gi_at_call 78; refine (callsIn_wide.2 (ladder_rows _ _ _)).mono ?_; rintro e w' ⟨rfl, rfl⟩)
  obtain ⟨wl, hwl⟩ : ∃ wl, wl = ((w.alloc (.cells #[.slice none 0 0] 70)).alloc (.cells #[.pointer (some ⟨g, 0, none⟩)] 61)).alloc (.cells #[.int .i64 (s : Int)] 3) := ⟨_, rfl⟩
  rw [← hwl] at HS3 ⊢
  simp only [Nat.add_assoc, Nat.reduceAdd] at HS3 ⊢
  have hsz : wl.heap.size = w.heap.size + 3 := by rw [hwl]; simp
  have HSZ := Aside0.mk hsz
  have hb0 : Below w.heap.size w wl := HS3.out.below
  have HB0 := Aside0.mk hb0
  have HC := Aside0.mk (And.intro (HS3.out.blk 2 rfl) (And.intro (HS3.out.blk 1 rfl) (HS3.out.blk 0 rfl)))
  clear hwl hsz HS3 hb0
  have HKX : Aside0 (∀ W', KX wl.heap.size (fun k => k = w.heap.size) wl W' → BkF g rs m A c W') := ⟨fun W' k => HF.out.kept (Nat.le_trans HB0.out.size k.1) fun i hi => (k.2 i (by have := HSZ.out; omega) (by omega)).trans (HB0.out.block i hi)⟩
  have hst0 : St wl (fun k => k = w.heap.size) wl [Pt w.heap.size #[.slice none 0 0] 70, OwP 2 1 (.slice none 0 0) 0 []] := ((St.start1 (W := wl) (F0 := fun k => k = w.heap.size) Pt.loc ⟨rfl, HC.out.1⟩).new (Below.refl _ _) OwP.loc OwP.nil).perm2
  refine wpIn_rangeFunc_ownF rfl (by decide) (gf := 98) (lb := #[.pointer (some ⟨w.heap.size + 1, 0, none⟩), .pointer (some ⟨w.heap.size + 2, 0, none⟩)]) rfl trivial (enters_of Try.func98 (by kernel_rfl) rfl)
    (rows1_stops (some ⟨g, 0, none⟩) (s : Int) ⟨g, s - 1, none⟩ (A s) (rs s).length (c s) (w.heap.size + 1) (w.heap.size + 2) wl.heap.size (fun k => k = w.heap.size) wl (Nat.le_refl _) (by have := HSZ.out; omega) (by have := HSZ.out; omega) (by omega) (by omega) HC.out.2.1 HC.out.2.2 (HF.out.hA s) (HF.out.hm s)
      (fun W' h => (HKX.out W' h).side s HS.out) (fun W' h => (HKX.out W' h).head s HS.out)) KX.trans (KX.book (Nat.le_refl _)) (Below.refl _ _) (fun _ => rfl)
    (fun pre W' => ∃ v, St wl (fun k => k = w.heap.size) W' [Pt w.heap.size #[v] 70, OwP 2 1 v pre.length (ics (pre.map (rowP rs s)))])
    (fun cd pre W' => False)
    (fun z A B row hs hg hr => hs.imp fun v h => h.regrow hg hr)
    (fun cd z A B row hs hg hr => hs.elim)
    ⟨.slice none 0 0, hst0⟩
    (fun x => { tmps := #[.pointer (some ⟨g, 0, none⟩), .int .i64 (s : Int), undef, undef, .pointer (some ⟨w.heap.size, 0, none⟩), undef, .pointer ((A s).map fun a => a.add (x.1 * 2)), .pointer (some ⟨g, 0, none⟩), .int .i64 (s : Int), .func (.func 98) #[] #[.pointer (some ⟨w.heap.size + 1, 0, none⟩), .pointer (some ⟨w.heap.size + 2, 0, none⟩)], .int .i64 (x.1 : Int), .pointer ((A s).map fun a => a.add (x.1 * 2)), undef, undef, undef, undef, undef, undef, undef, undef], defers := [] }) ?assign ?body ?done ?stop
  case assign =>
    intro l x W' K hK
    gi_wp2
    exact hK
  case body =>
    rintro l pre y W' ⟨v, hst⟩ hlen
    clear hst0
    obtain ⟨ad, had⟩ := HF.out.hA s (by omega)
    rw [had]
    have hkx : KX wl.heap.size (fun k => k = w.heap.size) wl W' := ⟨hst.fr.size, fun k hk hn => hst.fr.block k hk hn⟩
    obtain ⟨vq, e0, _, _⟩ := (HKX.out W' hkx).row s y ad had
    obtain ⟨i0, hi0, hz0, hzs, hzb⟩ := info_parts inf_int64
    have ht := Try.underlying70
    have k0 : W'.cell? ⟨w.heap.size, 0, none⟩ = some v := (blk_cell (hst.blk 0 rfl) 0).trans rfl
    have k0a : ∀ o, (W'.alloc o).cell? ⟨w.heap.size, 0, none⟩ = some v := fun o => cell_kept (fun k hk => Below.heap_alloc W' o k hk) k0
    obtain ⟨p, hp⟩ : ∃ p, rowP rs s y = p := ⟨_, rfl⟩
    unfold rowP at hp
    rw [hp] at e0
    have S1 := ((hst.alloc (cs := #[.int .i64 p]) (t := 2)).drew1).drop
    have hv1 : (W'.alloc (.cells #[.int .i64 p] 2)).drew.heap[W'.heap.size]? = some (.cells #[.int .i64 p] 2 (0, 0)) := blk_new W' _
    obtain ⟨F1, hO1⟩ := S1.get 1 rfl
    have S2 := (S1.front 1 rfl)
    obtain ⟨v', w', hrun, hO, hg, _, hat⟩ := run_append_own_at (P := Try.prog) (w := (W'.alloc (.cells #[.int .i64 p] 2)).drew) 0 70 70 2 i0 _ 1 8 ht hi0 hz0 hzs hzb (by rfl) (by decide) v pre.length _ hO1.2.1 ⟨W'.heap.size, 0, none⟩ 1 1 [.int .i64 p] (by rfl) (fun j u hj => by rw [Addr.add_lit, Nat.zero_add, blk_cell hv1 j]; simpa using hj) (fun u hu => by rw [List.mem_singleton.1 hu]; rfl) (by have := HL.out; unfold maxLen; omega) (by have := HL.out; omega) (Nat.zero_le _)
    rw [appO_of] at hrun
    have S3 := S2.appendOwn (m := 1) hO hg hat (fun u hu => by rw [List.mem_singleton.1 hu]; rfl)
    obtain ⟨Av, cv, rfl⟩ : ∃ Av cv, v' = .slice Av (pre.length + 1) cv := by
      obtain ⟨F3, hO3⟩ := S3.get 0 rfl
      rcases hO3.block with ⟨_, q, _⟩ | ⟨_, _, _, q, _⟩
      · omega
      · exact ⟨_, _, q⟩
    have k1 : w'.cell? ⟨w.heap.size, 0, none⟩ = some v := (blk_cell (S3.blk 1 rfl) 0).trans rfl
    have fk1 : w'.frozen? ⟨w.heap.size, 0, none⟩ = false := blk_frozen (S3.blk 1 rfl) 0
    have hko : KeepsOthers W' w' := ((KeepsOthers.alloc W' _).trans (KeepsOthers.drew _)).trans (KeepsOthers.of_grownBy hg fun j o e ho => by
      obtain ⟨cur, t, f, hh⟩ := OwP.cellsAt hO1 j e
      rw [hh] at ho; cases ho; rfl)
    have S4 := S3.perm2.put 0 (.slice Av (pre.length + 1) cv) rfl
    have hcs : ics (pre.map (rowP rs s)) ++ [.int .i64 p] = ics ((pre ++ [y]).map (rowP rs s)) := by
      rw [← hp]; simp [ics, rowP]
    rw [hcs] at S4
    have HFIN : Aside0 (KeepsOthers W' (w'.setCell ⟨w.heap.size, 0, none⟩ (.slice Av (pre.length + 1) cv)) ∧ KX wl.heap.size (fun k => k = w.heap.size) W' (w'.setCell ⟨w.heap.size, 0, none⟩ (.slice Av (pre.length + 1) cv)) ∧ ∃ v, St wl (fun k => k = w.heap.size) (w'.setCell ⟨w.heap.size, 0, none⟩ (.slice Av (pre.length + 1) cv)) [Pt w.heap.size #[v] 70, OwP 2 1 v (pre ++ [y]).length (ics ((pre ++ [y]).map (rowP rs s)))]) :=
      ⟨hko.trans (KeepsOthers.setCell _ _ _), ⟨Nat.le_trans hko.size (KeepsOthers.setCell _ _ _).size, fun k hk hn => (S4.fr.block k hk hn).trans (hst.fr.block k hk hn).symm⟩, _, by rw [List.length_append]; exact S4⟩
    simp only [Option.map_some]
    clear hst hkx hi0 hz0 hzs hzb S1 hv1 hO1 S2 hO hg hat S3 hp hko S4 hcs
    gi_wp2
    gi_region
    all_goals exact HFIN.out
  case done =>
    rintro D xs W' hD rfl ⟨v, hst⟩ hK
    clear hst0
    obtain ⟨Av, cv, rfl⟩ : ∃ Av cv, v = .slice Av (rs s).length cv := by
      obtain ⟨F3, hO3⟩ := hst.get 1 rfl
      rcases hO3.block with ⟨q, q2, _⟩ | ⟨_, _, _, q, _⟩
      · rw [List.length_finRange] at q2; exact ⟨none, 0, by rw [q, q2]⟩
      · rw [List.length_finRange] at q; exact ⟨_, _, q⟩
    have k0 : W'.cell? ⟨w.heap.size, 0, none⟩ = some (.slice Av (rs s).length cv) := (blk_cell (hst.blk 0 rfl) 0).trans rfl
    have fk0 : W'.frozen? ⟨w.heap.size, 0, none⟩ = false := blk_frozen (hst.blk 0 rfl) 0
    have HST := Aside0.mk hst
    have HD := Aside0.mk (And.intro hD hK)
    clear hst hD hK
    gi_wp2
    have hc : ics ((List.finRange (rs s).length).map (rowP rs s)) = ics ((rs s).map Prod.fst) := by
      refine congrArg ics (List.ext_getElem (by simp) fun i h1 h2 => ?_)
      simp [rowP]
    have S4 := HST.out.put 0 (.slice Av (rs s).length cv) rfl
    rw [hc, List.length_finRange] at S4
    have hVD := (Below.heap_setCell W' ⟨w.heap.size, 0, none⟩ (.slice Av (rs s).length cv) D (by have := HD.out.1; have := HSZ.out; show D ≠ w.heap.size; omega)).trans HD.out.2
    generalize World.setCell _ _ _ = V at S4 hVD ⊢
    refine Marks.leave (B := w.heap.size) (ds := [_]) ⟨⟨D, by have := HD.out.1; have := HSZ.out; omega, rfl, hVD, fun _ h => nomatch h⟩, trivial⟩ fun w' k1 k2 => ?_
    obtain ⟨e0, S5⟩ := own_end HB0.out (Nat.le_refl _) S4 k1 k2
    exact ⟨_, by simp [results, Try.results39, go_sem, e0], _, rfl, S5⟩
  case stop => exact fun D cd pre W' _ _ h => h.elim
end
abbrev SOr := S33
def zO : SOr := ⟨0, 0, 0, 0, 0, 0⟩
def isO (id : Int) (o : SOr) : Bool := decide (o.f0 = id)
def rowF (id : Int) : List RowM → Option (Nat × Nat)
  | [] => none
  | r :: l => match r.2.findIdx? (isO id) with
    | some k => some (0, k)
    | none => (rowF id l).map fun x => (x.1 + 1, x.2)
def fndM (rs : Nat → List RowM) (id : Int) : Option (Nat × Nat × Nat) := match rowF id (rs 1) with
  | some x => some (1, x)
  | none => (rowF id (rs 2)).map fun x => (2, x)
def fndV (g : Nat) : Option (Nat × Nat × Nat) → Value
  | some (s, i, k) => .tuple #[.pointer (some ⟨g, s - 1, none⟩), .int .i64 (i : Int), .int .i64 (k : Int), .bool true]
  | none => .tuple #[.pointer none, .int .i64 0, .int .i64 0, .bool false]
theorem ixQ_some {P : SOr → Bool} {q : List SOr} (h : 0 ≤ ixQ P q) : ∃ k, q.findIdx? P = some k ∧ ixQ P q = (k : Int) := by
  unfold ixQ at h ⊢
  cases e : q.findIdx? P with
  | some k => exact ⟨k, rfl, rfl⟩
  | none => rw [e] at h; simp at h
theorem ixQ_neg {P : SOr → Bool} {q : List SOr} (h : ixQ P q < 0) : q.findIdx? P = none := by
  unfold ixQ at h
  cases e : q.findIdx? P with
  | some k => rw [e] at h; simp at h; omega
  | none => rfl
theorem rowF_none {id : Int} : ∀ {l : List RowM}, (∀ (i : Nat) (h : i < l.length), ixQ (isO id) (l[i]).2 < 0) → rowF id l = none
  | [], _ => rfl
  | r :: l, h => by
    have h0 := ixQ_neg (h 0 (by simp))
    have ih := rowF_none (l := l) fun i hi => h (i + 1) (by simp; omega)
    simp only [List.getElem_cons_zero] at h0
    rw [rowF, h0, ih]; rfl
theorem rowF_some {id : Int} : ∀ {l : List RowM} {i : Nat} (hi : i < l.length), (∀ (z : Nat) (h : z < l.length), z < i → ixQ (isO id) (l[z]).2 < 0) → 0 ≤ ixQ (isO id) (l[i]).2 → ∃ k : Nat, rowF id l = some (i, k) ∧ ixQ (isO id) (l[i]).2 = (k : Int)
  | r :: l, 0, hi, h, h0 => by
    obtain ⟨k, e, e2⟩ := ixQ_some h0
    simp only [List.getElem_cons_zero] at e e2 ⊢
    exact ⟨k, by rw [rowF, e], e2⟩
  | r :: l, i + 1, hi, h, h0 => by
    have e := ixQ_neg (h 0 (by simp) (by omega))
    simp only [List.getElem_cons_zero] at e
    obtain ⟨k, e1, e2⟩ := rowF_some (l := l) (i := i) (by simp at hi; omega) (fun z hz hlt => h (z + 1) (by simp; omega) (by omega)) h0
    exact ⟨k, by rw [rowF, e, e1]; rfl, e2⟩
theorem FoundV.model {g : Nat} {rs : Nat → List RowM} {id : Int} {R : Value} (h : FoundV (fun s => ⟨g, s - 1, none⟩) (fun s => (rs s).length) (ixF rs id) R) : R = fndV g (fndM rs id) := by
  rcases h with ⟨y, h1, h2, rfl⟩ | ⟨h0, y, h1, h2, rfl⟩ | ⟨h1, h2, rfl⟩
  · obtain ⟨k, e1, e2⟩ := rowF_some (id := id) (l := rs 1) (i := y.1) y.2 (fun z hz hlt => h1 ⟨z, hz⟩ hlt) h2
    have e3 : ixF rs id 1 y = (k : Int) := e2
    rw [fndM, e1, e3]; rfl
  · have e0 : rowF id (rs 1) = none := rowF_none fun i hi => h0 ⟨i, hi⟩
    obtain ⟨k, e1, e2⟩ := rowF_some (id := id) (l := rs 2) (i := y.1) y.2 (fun z hz hlt => h1 ⟨z, hz⟩ hlt) h2
    have e3 : ixF rs id 2 y = (k : Int) := e2
    rw [fndM, e0, e1, e3]; rfl
  · have e0 : rowF id (rs 1) = none := rowF_none fun i hi => h1 ⟨i, hi⟩
    have e1 : rowF id (rs 2) = none := rowF_none fun i hi => h2 ⟨i, hi⟩
    rw [fndM, e0, e1]; rfl
theorem rowF_at {id : Int} : ∀ {l : List RowM} {i k : Nat}, rowF id l = some (i, k) → ∃ p q x, l[i]? = some (p, q) ∧ q[k]? = some x ∧ x.f0 = id
  | r :: l, i, k, h => by
    rw [rowF] at h
    split at h
    · rename_i k' e
      cases h
      obtain ⟨hl, hp, _⟩ := List.findIdx?_eq_some_iff_getElem.1 e
      exact ⟨r.1, r.2, _, rfl, List.getElem?_eq_getElem hl, of_decide_eq_true hp⟩
    · obtain ⟨x, hx, e⟩ := Option.map_eq_some_iff.1 h
      cases e
      obtain ⟨p, q, y, h1, h2, h3⟩ := rowF_at (i := x.1) (k := x.2) hx
      exact ⟨p, q, y, h1, h2, h3⟩
theorem fndM_at {rs : Nat → List RowM} {id : Int} {s i k : Nat} (h : fndM rs id = some (s, i, k)) : (s = 1 ∨ s = 2) ∧ rowF id (rs s) = some (i, k) := by
  unfold fndM at h
  cases e : rowF id (rs 1) with
  | some x => rw [e] at h; cases h; exact ⟨.inl rfl, e⟩
  | none =>
    rw [e] at h
    obtain ⟨x, hx, e2⟩ := Option.map_eq_some_iff.1 h
    cases e2
    exact ⟨.inr rfl, hx⟩
section
variable {g m : Nat} {rs : Nat → List RowM} {A : Nat → Option Addr} {c : Nat → Nat} {w : World}
theorem BkF.fnd (h : BkF g rs m A c w) (id : Int) : Calls Try.prog 70 #[.pointer (some ⟨g, 0, none⟩), .int .u64 id] w fun e w' => e = .returned (fndV g (fndM rs id)) ∧ Below w.heap.size w w' :=
  (h.find id).mono fun e w' ⟨R, h1, h2, h3⟩ => ⟨by rw [h1, h2.model], h3⟩
def getM (rs : Nat → List RowM) (id : Int) : Option SOr := (fndM rs id).bind fun x => ((rs x.1)[x.2.1]?).bind fun r => r.2[x.2.2]?
set_option maxHeartbeats 8000000 in
set_option maxRecDepth 100000 in
theorem BkF.get (h : BkF g rs m A c w) (id : Int) : Calls Try.prog 41 #[.pointer (some ⟨g, 0, none⟩), .int .u64 id] w fun e w' => e = .returned (.tuple #[.agg (oc ((getM rs id).getD zO)).toArray, .bool (getM rs id).isSome]) ∧ Below w.heap.size w w' := by
  have hu := Try.underlying33
  have HF := Aside0.mk h
  have S0 := St.start w (fun _ => False)
  have hm := h.hm
  cases hf : fndM rs id with
  | none =>
    have hg : getM rs id = none := by rw [getM, hf]; rfl
    rw [hg]
    have HC := Aside0.mk (fun W (hb : Below w.heap.size w W) => (HF.out.below hb).fnd id)
    rw [hf] at HC
    clear h hf hg hm
    simp only [fndV] at HC
    go_enter Try.func41, Try.ntmps41
    go_wp2_with (first | ((with_reducible refine gate_dst (N := 4) rfl ?_); refine box_event ?hg (N := 4) ?hd (cs := #[.int .u64 0, .int .i64 0, .int .i64 0, .int .i64 0, .int .i64 0, .int .u64 0]) (t := 33) ?hr ?_; (case hd => rfl); (case hg => rfl); (case hr => first | (go_simp; done) | (go_simp; rfl)); intro gr hg_ w1 hbB hb; have S1 := S0.box hg_ hb hbB; clear S0 hg_ hbB hb) | (go_at_call 70; refine (HC.out _ S1.below).mono ?_; rintro e w2 ⟨rfl, hb⟩; have S2 := S1.call hb; clear hb S1; have x0 : w2.cell? ⟨gr, 0, none⟩ = some (.int .u64 0) := (blk_cell (S2.blk 0 rfl) 0).trans rfl; have fx0 : w2.frozen? ⟨gr, 0, none⟩ = false := blk_frozen (S2.blk 0 rfl) 0; have x1 : w2.cell? ⟨gr, 1, none⟩ = some (.int .i64 0) := (blk_cell (S2.blk 0 rfl) 1).trans rfl; have fx1 : w2.frozen? ⟨gr, 1, none⟩ = false := blk_frozen (S2.blk 0 rfl) 1; have x2 : w2.cell? ⟨gr, 2, none⟩ = some (.int .i64 0) := (blk_cell (S2.blk 0 rfl) 2).trans rfl; have fx2 : w2.frozen? ⟨gr, 2, none⟩ = false := blk_frozen (S2.blk 0 rfl) 2; have x3 : w2.cell? ⟨gr, 3, none⟩ = some (.int .i64 0) := (blk_cell (S2.blk 0 rfl) 3).trans rfl; have fx3 : w2.frozen? ⟨gr, 3, none⟩ = false := blk_frozen (S2.blk 0 rfl) 3; have x4 : w2.cell? ⟨gr, 4, none⟩ = some (.int .i64 0) := (blk_cell (S2.blk 0 rfl) 4).trans rfl; have fx4 : w2.frozen? ⟨gr, 4, none⟩ = false := blk_frozen (S2.blk 0 rfl) 4; have x5 : w2.cell? ⟨gr, 5, none⟩ = some (.int .u64 0) := (blk_cell (S2.blk 0 rfl) 5).trans rfl; have fx5 : w2.frozen? ⟨gr, 5, none⟩ = false := blk_frozen (S2.blk 0 rfl) 5))
    have S3 := ((((((S2.put 0 (.int .u64 0) rfl).put 1 (.int .i64 0) rfl).put 2 (.int .i64 0) rfl).put 3 (.int .i64 0) rfl).put 4 (.int .i64 0) rfl).put 5 (.int .u64 0) rfl)
    generalize World.setCell _ _ _ = V at S3 ⊢
    have e0 := blk_cell (S3.blk 0 rfl) 0
    have e1 := blk_cell (S3.blk 0 rfl) 1
    have e2 := blk_cell (S3.blk 0 rfl) 2
    have e3 := blk_cell (S3.blk 0 rfl) 3
    have e4 := blk_cell (S3.blk 0 rfl) 4
    have e5 := blk_cell (S3.blk 0 rfl) 5
    simp [Array.setIfInBounds] at e0 e1 e2 e3 e4 e5
    refine bodyPost_ret (v := .tuple #[.agg #[.int .u64 0, .int .i64 0, .int .i64 0, .int .i64 0, .int .i64 0, .int .u64 0], .bool false]) (by simp [results, Try.results41, go_sem, e0, e1, e2, e3, e4, e5]) rfl ⟨?_, S3.below⟩
    rfl
  | some x =>
    obtain ⟨s, i, k⟩ := x
    obtain ⟨hs, hr⟩ := fndM_at hf
    obtain ⟨p, q, x, h1, h2, hid_⟩ := rowF_at hr
    clear hid_
    have hg : getM rs id = some x := by rw [getM, hf]; simp only [Option.bind_some]; rw [h1]; exact h2
    rw [hg]
    have HC := Aside0.mk (fun W (hb : Below w.heap.size w W) => (HF.out.below hb).fnd id)
    rw [hf] at HC
    have hi := (List.getElem?_eq_some_iff.1 h1).1
    have hk := (List.getElem?_eq_some_iff.1 h2).1
    obtain ⟨ad, ha⟩ := h.hA s (by omega)
    have HR : Aside0 (∀ W, Below w.heap.size w W → W.cell? ⟨g, s - 1, none⟩ = some (.slice (A s) (rs s).length (c s)) ∧ ∃ Aq cq ad', W.cell? ⟨(ad.add (i * 2)).block, (ad.add (i * 2)).off + 1, none⟩ = some (.slice Aq q.length cq) ∧ Aq = some ad' ∧ W.cell? (ad'.add (k * 6)) = some (.int .u64 x.f0) ∧ W.cell? ⟨(ad'.add (k * 6)).block, (ad'.add (k * 6)).off + 1, none⟩ = some (.int .i64 x.f1) ∧ W.cell? ⟨(ad'.add (k * 6)).block, (ad'.add (k * 6)).off + 2, none⟩ = some (.int .i64 x.f2) ∧ W.cell? ⟨(ad'.add (k * 6)).block, (ad'.add (k * 6)).off + 3, none⟩ = some (.int .i64 x.f3) ∧ W.cell? ⟨(ad'.add (k * 6)).block, (ad'.add (k * 6)).off + 4, none⟩ = some (.int .i64 x.f4) ∧ W.cell? ⟨(ad'.add (k * 6)).block, (ad'.add (k * 6)).off + 5, none⟩ = some (.int .u64 x.f5)) := ⟨fun W hb => by
      have h' := HF.out.below hb
      obtain ⟨v, _, k2, F, hQ⟩ := h'.hr s i p q h1 ad ha
      obtain ⟨Aq, cq, rfl, hx⟩ := hQ.reads
      obtain ⟨ad', e', c0, c1, c2, c3, c4, c5⟩ := hx k x h2
      exact ⟨h'.head s hs, Aq, cq, ad', k2, e', c0, c1, c2, c3, c4, c5⟩⟩
    have hi0 : (0 : Int) ≤ (i : Int) := Int.natCast_nonneg i
    have hk0 : (0 : Int) ≤ (k : Int) := Int.natCast_nonneg k
    have hi1 : (i : Int) < ((rs s).length : Int) := by omega
    have hk1 : (k : Int) < (q.length : Int) := by omega
    rw [ha] at HR
    clear h hf hg hm hr h1 h2 hi hk ha hs
    simp only [fndV] at HC
    go_enter Try.func41, Try.ntmps41
    go_wp2_with (first | ((with_reducible refine gate_dst (N := 4) rfl ?_); refine box_event ?hg (N := 4) ?hd (cs := #[.int .u64 0, .int .i64 0, .int .i64 0, .int .i64 0, .int .i64 0, .int .u64 0]) (t := 33) ?hr ?_; (case hd => rfl); (case hg => rfl); (case hr => first | (go_simp; done) | (go_simp; rfl)); intro gr hg_ w1 hbB hb; have S1 := S0.box hg_ hb hbB; clear S0 hg_ hbB hb) | (go_at_call 70; refine (HC.out _ S1.below).mono ?_; rintro e w2 ⟨rfl, hb⟩; have S2 := S1.call hb; clear hb S1; obtain ⟨y0, Aq, cq, ad', y1, rfl, y2, y3, y4, y5, y6, y7⟩ := HR.out _ S2.below; have x0 : w2.cell? ⟨gr, 0, none⟩ = some (.int .u64 0) := (blk_cell (S2.blk 0 rfl) 0).trans rfl; have fx0 : w2.frozen? ⟨gr, 0, none⟩ = false := blk_frozen (S2.blk 0 rfl) 0; have x1 : w2.cell? ⟨gr, 1, none⟩ = some (.int .i64 0) := (blk_cell (S2.blk 0 rfl) 1).trans rfl; have fx1 : w2.frozen? ⟨gr, 1, none⟩ = false := blk_frozen (S2.blk 0 rfl) 1; have x2 : w2.cell? ⟨gr, 2, none⟩ = some (.int .i64 0) := (blk_cell (S2.blk 0 rfl) 2).trans rfl; have fx2 : w2.frozen? ⟨gr, 2, none⟩ = false := blk_frozen (S2.blk 0 rfl) 2; have x3 : w2.cell? ⟨gr, 3, none⟩ = some (.int .i64 0) := (blk_cell (S2.blk 0 rfl) 3).trans rfl; have fx3 : w2.frozen? ⟨gr, 3, none⟩ = false := blk_frozen (S2.blk 0 rfl) 3; have x4 : w2.cell? ⟨gr, 4, none⟩ = some (.int .i64 0) := (blk_cell (S2.blk 0 rfl) 4).trans rfl; have fx4 : w2.frozen? ⟨gr, 4, none⟩ = false := blk_frozen (S2.blk 0 rfl) 4; have x5 : w2.cell? ⟨gr, 5, none⟩ = some (.int .u64 0) := (blk_cell (S2.blk 0 rfl) 5).trans rfl; have fx5 : w2.frozen? ⟨gr, 5, none⟩ = false := blk_frozen (S2.blk 0 rfl) 5))
    have S3 := ((((((S2.put 0 (.int .u64 x.f0) rfl).put 1 (.int .i64 x.f1) rfl).put 2 (.int .i64 x.f2) rfl).put 3 (.int .i64 x.f3) rfl).put 4 (.int .i64 x.f4) rfl).put 5 (.int .u64 x.f5) rfl)
    generalize World.setCell _ _ _ = V at S3 ⊢
    have e0 := blk_cell (S3.blk 0 rfl) 0
    have e1 := blk_cell (S3.blk 0 rfl) 1
    have e2 := blk_cell (S3.blk 0 rfl) 2
    have e3 := blk_cell (S3.blk 0 rfl) 3
    have e4 := blk_cell (S3.blk 0 rfl) 4
    have e5 := blk_cell (S3.blk 0 rfl) 5
    simp [Array.setIfInBounds] at e0 e1 e2 e3 e4 e5
    refine bodyPost_ret (v := .tuple #[.agg #[.int .u64 x.f0, .int .i64 x.f1, .int .i64 x.f2, .int .i64 x.f3, .int .i64 x.f4, .int .u64 x.f5], .bool true]) (by simp [results, Try.results41, go_sem, e0, e1, e2, e3, e4, e5]) rfl ⟨?_, S3.below⟩
    rfl
end
def Full (rs : Nat → List RowM) : Prop := ∀ s (j : Nat) p q, (rs s)[j]? = some (p, q) → q ≠ []
def bestM (l : List RowM) : Option SOr := match l with
  | [] => none
  | r :: _ => some (r.2.headD zO)
section
variable {g m : Nat} {rs : Nat → List RowM} {A : Nat → Option Addr} {c : Nat → Nat} {w : World}
theorem BkF.best (h : BkF g rs m A c w) (hne : Full rs) (s : Nat) (hs : s = 1 ∨ s = 2) : Calls Try.prog 40 #[.pointer (some ⟨g, 0, none⟩), .int .i64 (s : Int)] w fun e w' => e = .returned (.tuple #[.agg (oc ((bestM (rs s)).getD zO)).toArray, .bool (bestM (rs s)).isSome]) ∧ Below w.heap.size w w' := by
  have := ladder_best (some ⟨g, 0, none⟩) (s : Int) ⟨g, s - 1, none⟩ (A s) (rs s).length (c s) w (h.hm s) (blk_lt h.hb) (h.hA s) (fun y => ((rs s)[y.1]).2.headD zO) (if hp : 0 < (rs s).length then ((rs s)[0]).2.headD zO else ⟨0, 0, 0, 0, 0, 0⟩) rfl
    (fun W' hk y ad ha => by
      have h' := h.kx rfl hk
      obtain ⟨v, _, k2, F, hQ⟩ := h'.row s y ad ha
      obtain ⟨x, q, hx⟩ : ∃ x q, ((rs s)[y.1]).2 = x :: q := by
        cases e : ((rs s)[y.1]).2 with
        | nil => exact absurd e (hne s y.1 _ _ (List.getElem?_eq_getElem y.2))
        | cons x q => exact ⟨x, q, rfl⟩
      rw [hx] at hQ
      obtain ⟨qa, cq, _, hl, rfl, hc⟩ := hQ.head
      refine ⟨qa, q.length + 1, cq, by omega, k2, ?_⟩
      have hd : ((rs s)[y.1]).2.headD zO = x := by rw [hx]; rfl
      simp only [hd]
      exact hc W' rfl)
    (fun W' hk => (h.kx rfl hk).side s hs) (fun W' hk => (h.kx rfl hk).head s hs)
  refine this.mono ?_
  rintro e w' ⟨rfl, hb⟩
  refine ⟨?_, hb⟩
  cases hl : rs s with
  | nil => simp [bestM, oc, zO]
  | cons r l => simp [bestM, oc]
set_option maxHeartbeats 8000000 in
set_option maxRecDepth 100000 in
theorem BkF.none_ (h : BkF g rs m A c w) : Calls Try.prog 69 #[.pointer (some ⟨g, 0, none⟩)] w fun e w' => e = .returned (.bool false) ∧ w' = w := ladder_none h.hb
set_option maxHeartbeats 8000000 in
set_option maxRecDepth 100000 in
theorem BkF.len (h : BkF g rs m A c w) : Calls Try.prog 68 #[.pointer (some ⟨g, 0, none⟩)] w fun e w' => e = .returned (.int .i64 (m : Int)) ∧ Below w.heap.size w w' := by
  have k3 : w.cell? ⟨g, 3, none⟩ = some (.int .i64 (m : Int)) := (blk_cell h.hb 3).trans rfl
  have k2 : w.cell? ⟨g, 2, none⟩ = some (.bool true) := (blk_cell h.hb 2).trans rfl
  have HN := Aside0.mk h.none_
  have HB := Aside0.mk (Below.refl w.heap.size w)
  clear h
  go_enter Try.func68, Try.ntmps68
  go_wp2_with (go_at_call 69; refine HN.out.mono ?_; rintro e w1 ⟨rfl, rfl⟩)
  go_ret
  exact ⟨rfl, HB.out⟩
end
theorem Stars.perm {l l' : List Part} (h : l.Perm l') : ∀ {G : Nat → Prop} {w : World}, Stars l G w → Stars l' G w := by
  induction h with
  | nil => exact fun h => h
  | cons x _ ih => exact fun ⟨F, h1, h2, h3, h4⟩ => ⟨F, h1, h2, h3, ih h4⟩
  | swap x y l => exact fun h => h.swap
  | trans _ _ ih1 ih2 => exact fun h => ih2 (ih1 h)
theorem St.perm {W w : World} {F0 : Nat → Prop} {l l' : List Part} (h : St W F0 w l) (p : l.Perm l') : St W F0 w l' := ⟨h.1, h.2.perm p⟩
theorem elsQ_app (a b : List (Value × RowM)) : elsQ (a ++ b) = elsQ a ++ elsQ b := List.map_append
theorem elsQ_cons (e : Value × RowM) (b : List (Value × RowM)) : elsQ (e :: b) = QuP e.1 e.2.2 :: elsQ b := rfl
theorem elsQ_mid (a b : List (Value × RowM)) (e : Value × RowM) : (elsQ (a ++ e :: b)).Perm (QuP e.1 e.2.2 :: elsQ (a ++ b)) := by
  rw [elsQ_app, elsQ_cons, elsQ_app]
  exact List.perm_middle
def updS (rs : Nat → List RowM) (s : Nat) (x : List RowM) (t : Nat) : List RowM := if t = s then x else rs t
theorem St.bookSide {W w : World} {F0 : Nat → Prop} {l : List Part} {g m : Nat} {rs : Nat → List RowM} (h : St W F0 w (BookP g (rs 1) (rs 2) m :: l)) (s : Nat) (hs : s = 1 ∨ s = 2) : ∃ (cs : Array Value) (vs : Value) (es : List (Value × RowM)) (O : Part),
    cs[s - 1]? = some vs ∧ cs.size = 4 ∧ cs[2]? = some (.bool true) ∧ cs[3]? = some (.int .i64 m) ∧ rs s = es.map Prod.snd ∧
    St W F0 w (Pt g cs 108 :: OwP 115 2 vs es.length (rcs es) :: (elsQ es ++ O :: l)) ∧
    ∀ (w' : World) (vs' : Value) (es' : List (Value × RowM)) (m' : Nat), St W F0 w' (Pt g ((cs.setIfInBounds (s - 1) vs').setIfInBounds 3 (.int .i64 m')) 108 :: OwP 115 2 vs' es'.length (rcs es') :: (elsQ es' ++ O :: l)) →
      St W F0 w' (BookP g (updS rs s (es'.map Prod.snd) 1) (updS rs s (es'.map Prod.snd) 2) m' :: l) := by
  obtain ⟨v0, v1, h1⟩ := h.bookOpen
  rcases hs with rfl | rfl
  · obtain ⟨es, he, h2⟩ := (h1.front 1 rfl).sideOpen
    refine ⟨#[v0, v1, .bool true, .int .i64 m], v0, es, SideP v1 (rs 2), rfl, rfl, rfl, rfl, he, h2.perm ?_, fun w' vs' es' m' h3 => ?_⟩
    · show List.Perm (_ :: ((Pt g _ _ :: SideP v1 (rs 2) :: l) ++ elsQ es)) _
      refine (List.Perm.cons _ (List.perm_append_comm.trans List.perm_middle)).trans (List.Perm.swap ..)
    · have h4 : St W F0 w' (OwP 115 2 vs' es'.length (rcs es') :: ((Pt g #[vs', v1, .bool true, .int .i64 m'] 108 :: SideP v1 (rs 2) :: l) ++ elsQ es')) := h3.perm (by
        refine (List.Perm.swap ..).trans (List.Perm.cons _ ?_)
        exact List.perm_middle.symm.trans List.perm_append_comm)
      exact (h4.sideShut.perm2).bookShut
  · obtain ⟨es, he, h2⟩ := (h1.front 2 rfl).sideOpen
    refine ⟨#[v0, v1, .bool true, .int .i64 m], v1, es, SideP v0 (rs 1), rfl, rfl, rfl, rfl, he, h2.perm ?_, fun w' vs' es' m' h3 => ?_⟩
    · show List.Perm (_ :: ((Pt g _ _ :: SideP v0 (rs 1) :: l) ++ elsQ es)) _
      refine (List.Perm.cons _ (List.perm_append_comm.trans List.perm_middle)).trans (List.Perm.swap ..)
    · have h4 : St W F0 w' (OwP 115 2 vs' es'.length (rcs es') :: ((Pt g #[v0, vs', .bool true, .int .i64 m'] 108 :: SideP v0 (rs 1) :: l) ++ elsQ es')) := h3.perm (by
        refine (List.Perm.swap ..).trans (List.Perm.cons _ ?_)
        exact List.perm_middle.symm.trans List.perm_append_comm)
      exact (h4.sideShut.perm (by exact (List.Perm.swap ..).trans (List.Perm.cons _ (List.Perm.swap ..)))).bookShut
theorem OwP.set {e sz n cap gb j : Nat} {cs : List Value} {w : World} {F : Nat → Prop} {u : Value} (h : OwP e sz (.slice (some ⟨gb, 0, none⟩) n cap) n cs w F) (hj : j < n * sz) (h1 : u.oneCell' = true) : OwP e sz (.slice (some ⟨gb, 0, none⟩) n cap) n (cs.set j u) (w.setCell ⟨gb, j, none⟩ u) F := by
  rcases h.block with ⟨q, _, _⟩ | ⟨g', cap', cur, q, hF, hh, r1, r2, r3, r4, r5⟩
  · cases q
  · injection q with q1 q2 q3
    obtain rfl : gb = g' := by injection q1 with q1; injection q1
    subst q3
    refine OwP.of hF (blk_put hh j u rfl) r1 r2 (by simpa using r3) ?_ (by rw [List.length_set]; exact r5) fun x hx => ?_
    · rw [← r4, Array.toList_setIfInBounds, List.take_set]
    · rcases List.mem_or_eq_of_mem_set hx with q | q
      · exact h.2.2 x q
      · rw [q]; exact h1
theorem St.putOwn {W w : World} {F0 : Nat → Prop} {l : List Part} {e sz n cap gb j : Nat} {cs : List Value} {u : Value} (h : St W F0 w (OwP e sz (.slice (some ⟨gb, 0, none⟩) n cap) n cs :: l)) (hj : j < n * sz) (h1 : u.oneCell' = true) : St W F0 (w.setCell ⟨gb, j, none⟩ u) (OwP e sz (.slice (some ⟨gb, 0, none⟩) n cap) n (cs.set j u) :: l) := by
  obtain ⟨F, hA, hF, hu⟩ := h.upd
  exact hu _ _ F (Fr.set (Fr.refl _ _) (.inl (hA.1 gb rfl)) u) (fun k hk => .inl hk) OwP.loc (hA.set hj h1)
theorem rcs_set (a b : List (Value × RowM)) (p : Int) (q q' : List SOr) (v v' : Value) : (rcs (a ++ (v, p, q) :: b)).set (a.length * 2 + 1) v' = rcs (a ++ (v', p, q') :: b) := by
  rw [rcs_append, rcs_append, List.set_append_right (h := by rw [rcs_len]; omega), rcs_len, show a.length * 2 + 1 - a.length * 2 = 1 by omega]
  rfl
theorem OwP.slice {e sz n : Nat} {v : Value} {cs : List Value} {w : World} {F : Nat → Prop} (h : OwP e sz v n cs w F) : ∃ A c, v = .slice A n c := by
  rcases h.block with ⟨q, q2, _⟩ | ⟨_, _, _, q, _⟩
  · exact ⟨none, 0, by rw [q, q2]⟩
  · exact ⟨_, _, q⟩
theorem OwP.one {e sz n : Nat} {v : Value} {cs : List Value} {w : World} {F : Nat → Prop} (h : OwP e sz v n cs w F) : v.oneCell' = true := by
  obtain ⟨A, c, rfl⟩ := h.slice
  rfl
theorem OwP.some_ {e sz n : Nat} {v : Value} {cs : List Value} {w : World} {F : Nat → Prop} (h : OwP e sz v n cs w F) (hp : 0 < n) : ∃ gb cap, v = .slice (some ⟨gb, 0, none⟩) n cap ∧ ∀ j u, cs[j]? = some u → w.cell? ⟨gb, j, none⟩ = some u := by
  rcases h.block with ⟨_, q, _⟩ | ⟨gb, cap, cur, q, _, hh, _, _, _, r4, _⟩
  · omega
  · exact ⟨gb, cap, q, fun j u hj => by have := cells_at hh r4 j u hj; rw [Nat.zero_add] at this; exact this⟩
theorem OwP.frz {e sz n gb cap : Nat} {cs : List Value} {w : World} {F : Nat → Prop} (h : OwP e sz (.slice (some ⟨gb, 0, none⟩) n cap) n cs w F) (j : Nat) : w.frozen? ⟨gb, j, none⟩ = false := by
  rcases h.block with ⟨q, _, _⟩ | ⟨g', cap', cur, q, _, hh, _⟩
  · cases q
  · injection q with q1 q2 q3
    obtain rfl : gb = g' := by injection q1 with q1; injection q1
    exact blk_frozen hh j
theorem perm3 {A B C : Part} {R : List Part} : (A :: B :: C :: R).Perm (C :: B :: A :: R) := (List.Perm.cons A (List.Perm.swap C B R)).trans ((List.Perm.swap C A _).trans (List.Perm.cons C (List.Perm.swap B A R)))
structure Few (rs : Nat → List RowM) (m : Nat) : Prop where
  r : ∀ s, (rs s).length ≤ 1000
  q : ∀ s (j : Nat) p q, (rs s)[j]? = some (p, q) → q.length ≤ 1000
  m1 : m ≤ 1000
  m0 : ∀ s (j : Nat) p q, (rs s)[j]? = some (p, q) → q ≠ [] → 1 ≤ m
theorem BookP.rsS {g m : Nat} {rs0 rs1 : List RowM} {W : World} {F : Nat → Prop} (h : BookP g rs0 rs1 m W F) : ∃ A c, BkF g (rsB rs0 rs1) m A c W :=
  St.bookRead (St.start1 (F0 := F) BookP.loc h)
theorem set_self {cs : Array Value} {i : Nat} {v : Value} (h : cs[i]? = some v) : cs.setIfInBounds i v = cs := by
  obtain ⟨hl, he⟩ := Array.getElem?_eq_some_iff.1 h
  refine Array.ext (by simp) fun j h1 h2 => ?_
  rw [Array.getElem_setIfInBounds]
  split
  · rename_i e; subst e; exact he.symm
  · rfl
theorem rowRead {w : World} {F : Nat → Prop} {ea eb : List (Value × RowM)} {gb cap n : Nat} {p : Int} {q : List SOr} {vq : Value} (h : OwP 115 2 (.slice (some ⟨gb, 0, none⟩) n cap) n (rcs (ea ++ (vq, (p, q)) :: eb)) w F) (hn : 0 < n) : w.cell? ⟨gb, ea.length * 2, none⟩ = some (.int .i64 p) ∧ w.cell? ⟨gb, ea.length * 2 + 1, none⟩ = some vq := by
  obtain ⟨gb', cap', e', hr'⟩ := h.some_ hn
  cases e'
  exact ⟨hr' (ea.length * 2) _ (by rw [rcs_append, List.getElem?_append_right (by rw [rcs_len]; omega), rcs_len, show ea.length * 2 - ea.length * 2 = 0 by omega]; rfl), hr' (ea.length * 2 + 1) _ (by rw [rcs_append, List.getElem?_append_right (by rw [rcs_len]; omega), rcs_len, show ea.length * 2 + 1 - ea.length * 2 = 1 by omega]; rfl)⟩
end Go.Proofs.Ytlihfiajbhpokaa.Ldo
