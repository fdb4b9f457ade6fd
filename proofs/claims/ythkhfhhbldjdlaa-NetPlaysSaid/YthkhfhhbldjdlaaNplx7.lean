/- Printed by this session's wip/drive.py over the translation; some functions by hand. -/
import Derived.Test.YthkhfhhbldjdlaaNplx0
import Derived.Test.YthkhfhhbldjdlaaNplx2
import Derived.Test.YthkhfhhbldjdlaaNplx3
import Derived.Test.YthkhfhhbldjdlaaNplx4
import Derived.Test.YthkhfhhbldjdlaaNplx5
import Derived.Test.YthkhfhhbldjdlaaNplx6
namespace Go.Proofs.Ythkhfhhbldjdlaa.Npl
open Go.RowKit Go.Proofs.YthkhfhhbldjdlaaW.PrintWords Go.Proofs.YthkhfhhbldjdlaaW.PrintLast Go.Proofs.YthkhfhhbldjdlaaW.PrintMore
attribute [local go_sem] max2_int min2_int max_two min_two max_three min_three max_four min_four   -- for this text's walks alone
set_option linter.unusedVariables false
set_option linter.unusedSimpArgs false

/-! ### jobberlaw37_NetPlays: function 5 (by hand) -/
section
abbrev noVal : Value := .slice none 0 0
theorem refZero : refCells (fun _ => noVal) (fun _ => false) = (List.replicate 256 noVal ++ List.replicate 256 (Value.bool false)).toArray := by
  apply Array.ext_getElem?
  intro i
  rw [refCells_get, List.getElem?_toArray, List.getElem?_append, List.getElem?_replicate, List.getElem?_replicate, List.length_replicate]
  by_cases c : i < 256
  · rw [if_pos (by omega), if_pos c, if_pos c, if_pos c]
  · rw [if_neg c, if_neg c]
    by_cases d : i < 512
    · rw [if_pos d, if_pos (by omega)]
    · rw [if_neg d, if_neg (by omega)]
theorem refZeroV (W : World) : (zeroValue 44).run Try.prog W = .ok (.agg (refCells (fun _ => noVal) (fun _ => false))) W := by
  rw [refZero]
  kernel_rfl
theorem refStart {W w w2 : World} {F0 : Nat → Prop} {l : List Part} {g : Nat} (h : St W F0 w l) (e : g = w.heap.size) (hb : Below w.heap.size w w2) (hg : w2.heap[g]? = some (.cells (refCells (fun _ => noVal) (fun _ => false)) 44 (0, 0))) : St W F0 w2 (RefP g (fun _ => []) (fun _ => false) :: l) :=
  h.new hb RefP.loc ⟨Nat.le_of_eq e.symm, _, hg, fun q hq => ⟨none, 0, rfl, Nat.le_refl _, Kd.F_nil _ _ _⟩⟩
theorem docStart : Doc (fun _ => []) (fun _ => false) (fun _ => []) (fun _ => false) :=
  ⟨fun _ _ _ _ => rfl, fun _ _ _ _ => rfl, fun _ _ _ _ _ => rfl, fun _ => Nat.zero_le _, fun _ => Nat.zero_le _, fun _ _ hx => by cases hx⟩
set_option maxHeartbeats 8000000 in
set_option maxRecDepth 100000 in
theorem plays_lives (A : Option Addr) (c : Nat) (l : List S46) (w : World) (hC : k46.C w A l.length l) (hl : lightB l = false) :
    Calls Try.prog 5 #[.slice A l.length c] w fun e w' => e = .returned (.bool true) ∧ Below w.heap.size w w' := by
  obtain ⟨n, hn⟩ : ∃ n, l.length = n := ⟨_, rfl⟩
  have HL : Aside0 (∀ W, Below w.heap.size w W → Calls Try.prog 19 #[.slice A n c] W fun e w' => e = .returned (.bool false) ∧ Below W.heap.size W w') := ⟨fun W hb => by
    have := net_light A c l W (Kd.C_below hC hb)
    rw [hl, hn] at this
    exact this⟩
  rw [hn]
  clear hC hl hn
  go_enter Try.func5, Try.ntmps5
  go_wp2_with (first
    | (go_at_call 19; refine (HL.out _ (below_alloc (Below.refl _ _) _)).mono ?_; rintro e w1 ⟨rfl, hb⟩; have hg1 := (hb.block w.heap.size (by rw [size_alloc]; omega)).trans (blk_new w _); have HB1 := Aside0.mk (below_step (below_alloc (Below.refl _ _) _) hb); clear hb)
    | (go_at_call 11; refine (net_lives _).mono ?_; rintro e w2 ⟨rfl, hb⟩; have hg2 := (hb.block w.heap.size (blk_lt hg1)).trans hg1; have z0 : w2.cell? ⟨w.heap.size, 0, none⟩ = some (.bool false) := (blk_cell hg2 0).trans rfl; have fz0 := blk_frozen hg2 0; have HB2 := Aside0.mk (below_step HB1.out hb); clear hb))
  have z9 : (w2.setCell ⟨w.heap.size, 0, none⟩ (.bool true)).cell? ⟨w.heap.size, 0, none⟩ = some (.bool true) := (blk_cell (blk_put (cs := #[.bool false]) hg2 0 (.bool true) rfl) 0).trans rfl
  refine bodyPost_ret (v := .bool true) (by simp [results, Try.results5, go_sem, z9]) rfl ?_
  exact ⟨rfl, ((Fr.of_below (F := fun _ => False) HB2.out).set (.inr (Nat.le_refl _)) _).below⟩
theorem do_state {w W : World} {g r N : Nat} {B : Lit → List (List Int)} {C : Lit → Bool} {Q : Nat → List ByteArray} {G : Nat → Bool} {rest : List Part} {A : Option Addr} {c m : Nat} {x : List Int} {a b k : Int} (kd : Int) (S : St w (fun _ => False) W (NetP g N B C :: RefP r Q G :: rest)) (D : Doc B C Q G) (hN : N < 1000000) (ha : WI a) (hb : WI b) (hk : WI k) (hC : (Kd.int .u8).C w A x.length x) (hx : x.length ≤ 1000) (hm : x.length = m) :
    Calls Try.prog 20 #[.pointer (some ⟨g, 0, none⟩), .pointer (some ⟨r, 0, none⟩), .agg #[.int .i64 kd, .int .i64 a, .int .i64 b, .int .i64 k, .slice A m c]] W fun e w' => e = .returned (.bool true) ∧
      ∃ (N' : Nat) (B' : Lit → List (List Int)) (C' : Lit → Bool) (Q' : Nat → List ByteArray) (G' : Nat → Bool), N' ≤ N + 1 ∧ Doc B' C' Q' G' ∧ St w (fun _ => False) w' (NetP g N' B' C' :: RefP r Q' G' :: rest) := by
  subst hm
  obtain ⟨F, hF0, hj⟩ := S.merge.joinC Stars.loc
  obtain ⟨hA, hk2⟩ := hj W (Below.refl _ _)
  have S0 : St W F W [NetP g N B C, RefP r Q G] := ⟨Fr.refl _ _, hA.mono (fun k hk => .inl hk)⟩
  refine (step_any S0 D hN ha hb hk kd (fun W' hf => Kd.C_below hC ((S.fr.trans hf hF0).below)) hx).mono ?_
  rintro e w' ⟨rfl, N', B', C', Q', G', hN', D', S'⟩
  exact ⟨rfl, N', B', C', Q', G', hN', D', (hk2 w' _ S').1⟩
theorem count_state {w W : World} {g N : Nat} {B : Lit → List (List Int)} {C : Lit → Bool} {l : List Part} {a b : Int} {F0 : Nat → Prop} (S : St w F0 W l) (i : Nat) (e : l[i]? = some (NetP g N B C)) (ha : WI a) (hb : WI b) (n : Nat) :
    Calls Try.prog 21 #[.pointer (some ⟨g, 0, none⟩), .int .i64 a, .int .i64 b] (W.drewN n) fun e w' => e = .returned (.int .i64 (B (kl a b)).length) ∧ w' = W.drewN n := by
  obtain ⟨F, h⟩ := (S.drew n).get i e
  exact net_count h ha hb
open Go.Shelf
attribute [local go_sem] Oper.semAt_some
theorem lk_1 {k' qi : Nat} (hk : k' < 256) (h : k' / 16 = qi) : (lk k').1.1 = (qi : Int) := by
  show ((k' / 16 % 16 : Nat) : Int) = _
  omega
theorem lk_2 {k' ri : Nat} (h : k' % 16 = ri) : (lk k').1.2 = (ri : Int) := by rw [← h]; rfl
structure Idx (k qi ri : Nat) : Prop where
  e : qi * 16 + ri = k
  q2 : (k : Int).tdiv 16 = qi
  r2 : (k : Int).tmod 16 = ri
  q3 : (qi : Int) < 16
  r3 : (ri : Int) < 16
  wq : wrap64 (qi : Int) = qi
  wr : wrap64 (ri : Int) = ri
  wk : wrap64 ((k : Int) + 1) = k + 1
  lt : (k : Int) < 256
  ge : ¬ (256 : Int) ≤ k
  l1 : (lk k).1.1 = (qi : Int)
  l2 : (lk k).1.2 = (ri : Int)
  iq : WI (qi : Int)
  ir : WI (ri : Int)
theorem idx16 {k : Nat} (h : k < 256) : Idx k (k / 16) (k % 16) := by
  have h1 : k / 16 < 16 := by omega
  have h2 : k % 16 < 16 := by omega
  have h3 : (k : Int) / 16 = ((k / 16 : Nat) : Int) := by omega
  have h4 : (k : Int) % 16 = ((k % 16 : Nat) : Int) := by omega
  refine ⟨by omega, ?_, ?_, by omega, by omega, wrap_small (by omega) (by omega), wrap_small (by omega) (by omega), wrap_small (by omega) (by omega), by omega, by omega, lk_1 h rfl, lk_2 rfl, WI_small (by omega) (by omega), WI_small (by omega) (by omega)⟩
  · rw [Int.tdiv_eq_ediv_of_nonneg (by omega)]; exact h3
  · rw [Int.tmod_eq_emod_of_nonneg (by omega)]; exact h4
theorem sum_small {cnt : Int → Int → Nat} {k k' c0 s8 : Nat} (h1 : ∀ a b, cnt a b ≤ 256) (hk : k ≤ 256) (hc : cnt (lk k').1.1 (lk k').1.2 = c0) (hs : sumL cnt (linksL cnt k) = s8) : wrap64 ((s8 : Int) + c0) = ((s8 + c0 : Nat) : Int) := by
  have h2 := sumL_le cnt (fun a b => Nat.le_trans (h1 a b) (by omega)) (linksL cnt k)
  have h3 := linksL_le cnt k
  have h4 := h1 (lk k').1.1 (lk k').1.2
  have h6 : (linksL cnt k).length * 1000000 ≤ 256 * 1000000 := Nat.mul_le_mul_right _ (by omega)
  rw [wrap_small2 (by omega) (by omega)]
  omega
theorem links_end {cnt : Int → Int → Nat} {k : Nat} (h : linksL cnt 256 = linksL cnt k) : ∀ j, k ≤ j → j < 256 → cnt (lk j).1.1 (lk j).1.2 = 0 := fun j hj hlt => by
  rcases Nat.eq_zero_or_pos (cnt (lk j).1.1 (lk j).1.2) with c | c
  · exact c
  · have h1 := (linksL_pre cnt hj).length_le
    have h2 := (linksL_pre cnt (show j + 1 ≤ 256 from hlt)).length_le
    rw [linksL_pos c, List.length_append, h] at h2
    simp at h2
    omega
theorem WI_m1 : WI (-1) := by decide
set_option maxHeartbeats 16000000 in
set_option maxRecDepth 100000 in
theorem plays_main (A : Option Addr) (c : Nat) (l : List S46) (w : World) (hC : k46.C w A l.length l) (hl : lightB l = true) (hw : ∀ x ∈ l, WI x.f1 ∧ WI x.f2 ∧ WI x.f3) :
    Calls Try.prog 5 #[.slice A l.length c] w fun e w' => e = .returned (.bool true) ∧ Below w.heap.size w w' := by
  have HC := Aside0.mk hC
  obtain ⟨hl4, hl1⟩ := lightB_true hl
  obtain ⟨n, hn⟩ : ∃ n, l.length = n := ⟨_, rfl⟩
  have HL : Aside0 (∀ W, Below w.heap.size w W → Calls Try.prog 19 #[.slice A n c] W fun e w' => e = .returned (.bool true) ∧ Below W.heap.size W w') := ⟨fun W hb => by
    have := net_light A c l W (Kd.C_below hC hb)
    rw [hl, hn] at this
    exact this⟩
  rw [hn] at hl4 HC ⊢
  have HN := Aside0.mk (And.intro hn hl4)
  have HE := Aside0.mk (fun x hx => And.intro (hl1 x hx) (hw x hx))
  have HZ : Aside0 (∃ ZC, ZC = refCells (fun _ => noVal) (fun _ => false) ∧ ∀ W : World, (zeroValue 44).run Try.prog W = .ok (.agg ZC) W) := ⟨_, rfl, refZeroV⟩
  obtain ⟨ZC, hZC, hz⟩ := HZ.out
  have HZC := Aside0.mk hZC
  have HS0 := Aside0.mk ((St.start w (fun _ => False)).alloc (cs := #[.bool false]) (t := 4))
  clear hC hl hn hl4 hl1 hw HZ hZC
  refine (callsIn_wide (n := 4)).1 ?_
  refine callsIn_of_wp_marks Try.func5 rfl trivial ?_ rfl
  simp only [Try.ntmps5, List.size_toArray, List.length_cons, List.length_nil, Nat.reduceAdd, Nat.reduceSub, Array.replicate_succ, Array.replicate_zero, List.push_toArray, List.append_toArray, List.nil_append, List.cons_append]
  gi_wp2_with (first
    | (refine ⟨trivial, ?_⟩; gi_at_call 19; refine (callsIn_wide.2 (HL.out _ (below_alloc (Below.refl _ _) _))).mono ?_; rintro e w1 ⟨rfl, hb⟩; have HS1 := Aside0.mk (HS0.out.call hb); clear hb HS0)
    | (refine ⟨trivial, ?_⟩; gi_at_call 11; refine (callsIn_wide.2 (net_lives _)).mono ?_; rintro e w2 ⟨rfl, hb⟩; have HS2 := Aside0.mk (HS1.out.call hb); clear hb HS1)
    | (refine ⟨trivial, ?_⟩; gi_at_call 12; refine (callsIn_wide.2 (net_new _)).mono ?_; rintro e w3 ⟨g, rfl, S3⟩; have HS3 := Aside0.mk (HS2.out.join0 S3); clear S3 HS2))
  have S4 := ((refStart HS3.out rfl (below_alloc (Below.refl _ _) (.cells ZC 44)) (by rw [← HZC.out]; exact blk_new w3 _)).alloc (cs := #[.pointer (some ⟨g, 0, none⟩)]) (t := 24)).alloc (cs := #[.pointer (some ⟨w3.heap.size, 0, none⟩)]) (t := 37)
  simp only [World.size_alloc] at S4
  obtain ⟨w4, hw4⟩ : ∃ w4, w4 = ((w3.alloc (Obj.cells ZC 44)).alloc (Obj.cells #[Value.pointer (some { block := g, off := 0 })] 24)).alloc (Obj.cells #[Value.pointer (some { block := w3.heap.size, off := 0 })] 37) := ⟨_, rfl⟩
  rw [← hw4] at S4 ⊢
  obtain ⟨r, hr⟩ : ∃ r, r = w3.heap.size := ⟨_, rfl⟩
  rw [← hr] at S4 ⊢
  have HS4 := Aside0.mk ((S4.front 3 rfl).front 3 rfl)
  clear hw4 hr HS3 S4 hz HZC HL
  gi_loopg [24] n (fun gk v24 wr => ∃ i : Int, v24 = .int .i64 i ∧ Aside0 (0 ≤ i ∧ i + gk = n) ∧ Aside0 (∃ (N : Nat) (B : Lit → List (List Int)) (C : Lit → Bool) (Q : Nat → List ByteArray) (G : Nat → Bool), N ≤ i.toNat ∧ Doc B C Q G ∧ St w (fun _ => False) wr [NetP g N B C, RefP r Q G, Pt (r + 1 + 1) #[.pointer (some ⟨r, 0, none⟩)] 37, Pt (r + 1) #[.pointer (some ⟨g, 0, none⟩)] 24, Pt w.heap.size #[.bool false] 4]))
  case atStart => exact ⟨0, rfl, ⟨by omega⟩, ⟨0, _, _, _, _, Nat.le_refl _, docStart, (HS4.out.front 1 rfl)⟩⟩
  case round =>
    clear HS4
    obtain ⟨i, rfl, HI, HB⟩ := hrel
    have hi0 : 0 ≤ i := HI.out.1
    obtain ⟨N, B, C, Q, G, hNi, D, S⟩ := HB.out
    clear HB
    by_cases hlt : i < n
    · have hd : decide (i < (n : Int)) = true := decide_eq_true hlt
      obtain ⟨ad, A4, c4, e1, a0, a1, a2, a3, a4, hc4, hk4⟩ := at_T46 HC.out i hi0 hlt
      cases e1
      have HX := Aside0.mk (HE.out _ (mem_getD_lt l i.toNat z46 (by have := HN.out; omega)))
      obtain ⟨x, hx⟩ : ∃ x, rd_T46 l i = x := ⟨_, rfl⟩
      rw [show l.getD i.toNat z46 = x from hx] at HX
      rw [hx] at a0 a1 a2 a3 a4 hk4 hc4
      obtain ⟨x0, x1, x2, x3, x4⟩ := x
      simp only at a0 a1 a2 a3 a4 hk4 hc4
      obtain ⟨m, hm⟩ : ∃ m, x4.length = m := ⟨_, rfl⟩
      have HK4 := Aside0.mk hk4
      rw [hm] at a4
      have HMM := Aside0.mk hm
      replace a0 := (S.below.cell (World.block_lt_of_cell? w _ a0)).trans a0
      replace a1 := (S.below.cell (World.block_lt_of_cell? w _ a1)).trans a1
      replace a2 := (S.below.cell (World.block_lt_of_cell? w _ a2)).trans a2
      replace a3 := (S.below.cell (World.block_lt_of_cell? w _ a3)).trans a3
      replace a4 := (S.below.cell (World.block_lt_of_cell? w _ a4)).trans a4
      have hb3 := S.blk 3 rfl
      have hb4 := S.blk 2 rfl
      have z3 : ∀ o, (wr.alloc o).cell? ⟨r + 1, 0, none⟩ = some (.pointer (some ⟨g, 0, none⟩)) := fun o => (blk_cell (((below_alloc (Below.refl _ _) o).block _ (blk_lt hb3)).trans hb3) 0).trans rfl
      have z4 : ∀ o, (wr.alloc o).cell? ⟨r + 1 + 1, 0, none⟩ = some (.pointer (some ⟨r, 0, none⟩)) := fun o => (blk_cell (((below_alloc (Below.refl _ _) o).block _ (blk_lt hb4)).trans hb4) 0).trans rfl
      have HS := Aside0.mk S
      have HD := Aside0.mk D
      have HNI := Aside0.mk hNi
      clear hb3 hb4 S D hNi hm hk4 hx hc4
      gi_upto_region 9 with (refine ⟨trivial, ?_⟩; gi_at_call 20; refine (callsIn_wide.2 (do_state x0 ((((HS.out.alloc (cs := #[.int .i64 x0, .int .i64 x1, .int .i64 x2, .int .i64 x3, .slice A4 m c4]) (t := 46)).front 2 rfl).front 2 rfl)) HD.out (by have h1 := HNI.out; have h2 := HI.out; have h3 := HN.out; omega) HX.out.2.1 HX.out.2.2.1 HX.out.2.2.2 HK4.out HX.out.1 HMM.out)).mono ?_; rintro e w6 ⟨rfl, N6, B6, C6, Q6, G6, hN6, D6, S6⟩; have HS6 := Aside0.mk S6; have HD6 := Aside0.mk D6; have HN6 := Aside0.mk hN6; clear hN6 D6 S6 HS HD)
      have hb3 := HS6.out.blk 4 rfl
      have hb4 := HS6.out.blk 3 rfl
      have hbo := HS6.out.blk 2 rfl
      have y3 : w6.cell? ⟨r + 1, 0, none⟩ = some (.pointer (some ⟨g, 0, none⟩)) := (blk_cell hb3 0).trans rfl
      have y4 : w6.cell? ⟨r + 1 + 1, 0, none⟩ = some (.pointer (some ⟨r, 0, none⟩)) := (blk_cell hb4 0).trans rfl
      have o1 : w6.cell? ⟨wr.heap.size, 1, none⟩ = some (.int .i64 x1) := (blk_cell hbo 1).trans rfl
      have o2 : w6.cell? ⟨wr.heap.size, 2, none⟩ = some (.int .i64 x2) := (blk_cell hbo 2).trans rfl
      clear hb3 hb4 hbo z3 z4 a0 a1 a2 a3 a4 HK4
      by_cases hi : isB x1 x2 = true
      · obtain ⟨i', j', rfl, rfl, hi16, hj16⟩ := nat_of_isB hi
        obtain ⟨A7, c7, q1, _, _, _, f1, _⟩ := HS6.out.refRow 1 rfl (p := i' * 16 + j') (by omega)
        have hq : (Q6 (i' * 16 + j')).length = (B6 (kl i' j')).length := by rw [HD6.out.q i' j' hi16 hj16, List.length_map]
        rw [hq] at q1
        obtain ⟨m6, hm6⟩ : ∃ m6, (B6 (kl i' j')).length = m6 := ⟨_, rfl⟩
        rw [hm6] at q1
        have HM6 := Aside0.mk hm6
        have i1 : (i' : Int) < 16 := by omega
        have j1 : (j' : Int) < 16 := by omega
        have HCT : Aside0 (∀ k, Calls Try.prog 21 #[.pointer (some ⟨g, 0, none⟩), .int .i64 (i' : Int), .int .i64 (j' : Int)] (w6.drewN k) fun e w' => e = .returned (.int .i64 m6) ∧ w' = w6.drewN k) := ⟨fun k => by
          rw [← hm6]
          exact count_state HS6.out 0 rfl HX.out.2.1 HX.out.2.2.1 k⟩
        clear hi hq hm6
        refine wpIn_region_quiet_lit rfl (by kernel_rfl) (by kernel_rfl) ?_
        repeat (refine wpQuietIn_step (fun _ _ _ _ => trivial) (fun K hK => ?_); go_simp; first | (refine hK _ ?_; clear hK K) | (apply Exists.intro; refine ⟨fun _ => ?_, hK _ ?_⟩; (gi_at_call 21; refine CallsIn.quiet_of_same (callsIn_wide.2 (HCT.out _))); clear hK K))
        refine wpQuietIn_nil ?_
        intro _ hw'
        obtain ⟨nq, hw''⟩ := hw'
        subst hw''
        gi_wp2
        gi_roundg (gk - 1)
        case measure => have := HI.out; omega
        case rel =>
          have hwr : wrap64 (i + 1) = i + 1 := by have := HN.out; have := HI.out; unfold wrap64; omega
          refine ⟨wrap64 (i + 1), by first | rfl | (simp; done), ⟨by have := HI.out; omega⟩, ⟨N6, B6, C6, Q6, G6, by have h1 := HN6.out; have h2 := HNI.out; have h3 := HI.out; omega, HD6.out, ?_⟩⟩
          have S7 := HS6.out.drew nq
          exact ((((S7.front 2 rfl).drop)))
      · have hi : isB x1 x2 = false := by simpa using hi
        have hcase : x1 < 0 ∨ 0 ≤ x1 ∧ (16 ≤ x1 ∨ x1 < 16 ∧ (x2 < 0 ∨ 0 ≤ x2 ∧ 16 ≤ x2)) := by
          unfold isB at hi
          have := of_decide_eq_false hi
          omega
        clear hi
        have HCT : Aside0 True := ⟨trivial⟩
        rcases hcase with q1 | ⟨q1, q2 | ⟨q2, q3 | ⟨q3, q4⟩⟩⟩
        · have p1 : ¬ (0 : Int) ≤ x1 := by omega
          refine wpIn_region_quiet_lit rfl (by kernel_rfl) (by kernel_rfl) ?_
          repeat (refine wpQuietIn_step (fun _ _ _ _ => trivial) (fun K hK => ?_); go_simp; refine hK _ ?_; clear hK K)
          refine wpQuietIn_nil ?_
          intro _ hw'
          obtain ⟨nq, hw''⟩ := hw'
          subst hw''
          gi_wp2
          gi_roundg (gk - 1)
          case measure => have := HI.out; omega
          case rel =>
            have hwr : wrap64 (i + 1) = i + 1 := by have := HN.out; have := HI.out; unfold wrap64; omega
            refine ⟨wrap64 (i + 1), by first | rfl | (simp; done), ⟨by have := HI.out; omega⟩, ⟨N6, B6, C6, Q6, G6, by have h1 := HN6.out; have h2 := HNI.out; have h3 := HI.out; omega, HD6.out, ?_⟩⟩
            have S7 := HS6.out.drew nq
            exact ((((S7.front 2 rfl).drop)))
        · have p1 : ¬ x1 < 16 := by omega
          refine wpIn_region_quiet_lit rfl (by kernel_rfl) (by kernel_rfl) ?_
          repeat (refine wpQuietIn_step (fun _ _ _ _ => trivial) (fun K hK => ?_); go_simp; refine hK _ ?_; clear hK K)
          refine wpQuietIn_nil ?_
          intro _ hw'
          obtain ⟨nq, hw''⟩ := hw'
          subst hw''
          gi_wp2
          gi_roundg (gk - 1)
          case measure => have := HI.out; omega
          case rel =>
            have hwr : wrap64 (i + 1) = i + 1 := by have := HN.out; have := HI.out; unfold wrap64; omega
            refine ⟨wrap64 (i + 1), by first | rfl | (simp; done), ⟨by have := HI.out; omega⟩, ⟨N6, B6, C6, Q6, G6, by have h1 := HN6.out; have h2 := HNI.out; have h3 := HI.out; omega, HD6.out, ?_⟩⟩
            have S7 := HS6.out.drew nq
            exact ((((S7.front 2 rfl).drop)))
        · have p1 : ¬ (0 : Int) ≤ x2 := by omega
          refine wpIn_region_quiet_lit rfl (by kernel_rfl) (by kernel_rfl) ?_
          repeat (refine wpQuietIn_step (fun _ _ _ _ => trivial) (fun K hK => ?_); go_simp; refine hK _ ?_; clear hK K)
          refine wpQuietIn_nil ?_
          intro _ hw'
          obtain ⟨nq, hw''⟩ := hw'
          subst hw''
          gi_wp2
          gi_roundg (gk - 1)
          case measure => have := HI.out; omega
          case rel =>
            have hwr : wrap64 (i + 1) = i + 1 := by have := HN.out; have := HI.out; unfold wrap64; omega
            refine ⟨wrap64 (i + 1), by first | rfl | (simp; done), ⟨by have := HI.out; omega⟩, ⟨N6, B6, C6, Q6, G6, by have h1 := HN6.out; have h2 := HNI.out; have h3 := HI.out; omega, HD6.out, ?_⟩⟩
            have S7 := HS6.out.drew nq
            exact ((((S7.front 2 rfl).drop)))
        · have p1 : ¬ x2 < 16 := by omega
          refine wpIn_region_quiet_lit rfl (by kernel_rfl) (by kernel_rfl) ?_
          repeat (refine wpQuietIn_step (fun _ _ _ _ => trivial) (fun K hK => ?_); go_simp; refine hK _ ?_; clear hK K)
          refine wpQuietIn_nil ?_
          intro _ hw'
          obtain ⟨nq, hw''⟩ := hw'
          subst hw''
          gi_wp2
          gi_roundg (gk - 1)
          case measure => have := HI.out; omega
          case rel =>
            have hwr : wrap64 (i + 1) = i + 1 := by have := HN.out; have := HI.out; unfold wrap64; omega
            refine ⟨wrap64 (i + 1), by first | rfl | (simp; done), ⟨by have := HI.out; omega⟩, ⟨N6, B6, C6, Q6, G6, by have h1 := HN6.out; have h2 := HNI.out; have h3 := HI.out; omega, HD6.out, ?_⟩⟩
            have S7 := HS6.out.drew nq
            exact ((((S7.front 2 rfl).drop)))
    · have hd : decide (i < (n : Int)) = false := decide_eq_false hlt
      obtain ⟨wo, hwo⟩ : ∃ wo, wo = wr := ⟨_, rfl⟩
      subst hwo
      have hin : i = n := by have := HI.out; omega
      have HNN : Aside0 (N ≤ 400) := ⟨by have := HN.out; omega⟩
      have hb3 := S.blk 3 rfl
      have z3 : ∀ o o', ((wo.alloc o).alloc o').cell? ⟨r + 1, 0, none⟩ = some (.pointer (some ⟨g, 0, none⟩)) := fun o o' => (blk_cell (((below_alloc (Below.refl _ _) o').block _ (by rw [size_alloc]; have := blk_lt hb3; omega)).trans (((below_alloc (Below.refl _ _) o).block _ (blk_lt hb3)).trans hb3)) 0).trans rfl
      have HS := Aside0.mk S
      have HD := Aside0.mk D
      clear hb3 S D hNi HC HN HE HI
      gi_wp2_with (refine ⟨trivial, ?_⟩; gi_at_call 22; refine (callsIn_wide.2 (net_links _ _)).mono ?_; rintro e w' ⟨rfl, rfl⟩)
      clear z3
      obtain ⟨wl, hwl⟩ : ∃ wl, wl = (((wo.alloc (Obj.cells #[Value.int IntKind.i64 0] 3)).alloc (Obj.cells #[Value.int IntKind.i64 0] 3)).alloc (Obj.cells #[Value.pointer (some { block := g, off := 0 })] 24)) := ⟨_, rfl⟩
      have S5 := ((HS.out.alloc (cs := #[.int .i64 0]) (t := 3)).alloc (cs := #[.int .i64 0]) (t := 3)).alloc (cs := #[.pointer (some ⟨g, 0, none⟩)]) (t := 24)
      simp only [World.size_alloc] at S5 ⊢
      rw [← hwl] at S5 ⊢
      have hsz : wl.heap.size = wo.heap.size + 3 := by rw [hwl]; simp
      have hb0 : Below wo.heap.size wo wl := by
        rw [hwl]
        exact ((below_alloc (below_alloc (Below.refl _ _) _ |> fun h => h) _).trans (Below.refl _ _) |> fun h => h).alloc (by rw [size_alloc, size_alloc]; omega) _
      obtain ⟨b, hbz⟩ : ∃ b, b = wo.heap.size := ⟨_, rfl⟩
      rw [← hbz] at S5 hsz ⊢
      have hB7 := S5.blk 2 rfl
      have hB8 := S5.blk 1 rfl
      have hBn := S5.blk 0 rfl
      have HSZ := Aside0.mk (And.intro hsz hbz)
      have HB0 := Aside0.mk hb0
      have HBW := Aside0.mk HS.out.below
      have HBLK := Aside0.mk (And.intro hB7 (And.intro hB8 hBn))
      obtain ⟨cnt, hcnt⟩ : ∃ cnt, cnt = lenB B := ⟨_, rfl⟩
      have HCNT := Aside0.mk hcnt
      have HC : Aside0 (∀ W', Fr (fun k => b ≤ k) wo W' → ∀ a b, WI a → WI b → Calls Try.prog 21 #[.pointer (some ⟨g, 0, none⟩), .int .i64 a, .int .i64 b] W' fun e w' => e = .returned (.int .i64 (cnt a b)) ∧ w' = W') := ⟨fun W' hf a b ha hb => by
        obtain ⟨F, hA⟩ := (HS.out.call (w' := W') ⟨hf.os, hf.tape, hf.output, hf.size, fun k hk => hf.block k hk (fun q => by omega)⟩).get 0 rfl
        rw [hcnt]
        exact net_count hA ha hb⟩
      have hkx : ∀ W', KX wl.heap.size (fun k => k = b ∨ k = b + 1) wl W' → ∀ a b', WI a → WI b' → Calls Try.prog 21 #[.pointer (some ⟨g, 0, none⟩), .int .i64 a, .int .i64 b'] W' fun e w' => e = .returned (.int .i64 (cnt a b')) ∧ w' = W' := fun W' h a b' ha hb => by
        obtain ⟨F, hA⟩ := HS.out.get 0 rfl
        rw [hcnt]
        exact net_count (NetP.loc.step (NetP.loc.bound hA) (Nat.le_trans hb0.size h.1) (fun k hk hlt => (h.2 k (by omega) (by omega)).trans (hb0.block k hlt))) ha hb
      clear hwl S5 hsz hb0 hbz hB7 hB8 hBn hcnt
      refine' wpIn_rangeFunc_ownF rfl (by decide) (gf := 60) (lb := #[.pointer (some ⟨b + 1 + 1, 0, none⟩)]) rfl trivial (enters_of Try.func60 (by kernel_rfl) rfl)
        (links1_stops (some ⟨g, 0, none⟩) cnt (b + 1 + 1) wl.heap.size (fun k => k = b ∨ k = b + 1) wl (Nat.le_refl _) (by have := HSZ.out; omega) (by omega) HBLK.out.2.2 hkx) KX.trans (KX.book (Nat.le_refl _)) (Below.refl _ _) (fun _ => rfl)
        (fun pre W => (∃ k, k ≤ 256 ∧ pre = linksL cnt k ∧ W.heap[b]? = some (.cells #[.int .i64 (k : Nat)] 3 (0, 0)) ∧ W.heap[b + 1]? = some (.cells #[.int .i64 (sumL cnt pre : Nat)] 3 (0, 0))) ∧ Fr (fun k => b ≤ k) wo W ∧ b + 3 ≤ W.heap.size)
        (fun _ pre _ => ¬ pre <+: linksL cnt 256)
        (fun s A B row hs hg hr => ⟨(by
          obtain ⟨k, h1, h2, h3, h4⟩ := hs.1
          exact ⟨k, h1, h2, (hg.block _ (Array.getElem?_eq_some_iff.1 h3).1 (fun e => by have := (hr _ e.symm).1; have := HSZ.out; omega)).trans h3, (hg.block _ (Array.getElem?_eq_some_iff.1 h4).1 (fun e => by have := (hr _ e.symm).1; have := HSZ.out; omega)).trans h4⟩), hs.2.1.trans (Fr.of_grown (F := fun k => wl.heap.size ≤ k) hg (fun k e => (hr k e).1)) (fun k hk => .inl (by have := HSZ.out; omega)), Nat.le_trans hs.2.2 hg.size⟩)
        (fun _ _ _ _ _ hs _ _ => hs)
        ⟨⟨0, by omega, rfl, HBLK.out.1, HBLK.out.2.1⟩, Fr.of_below HB0.out, by have := HSZ.out; omega⟩
        _ ?assign ?body ?done ?stop
      case assign =>
        intro l x W K hK
        gi_wp2
        exact hK
      case body =>
        rintro l pre x W ⟨⟨k, hk, rfl, h7, h8⟩, hfr, hs3⟩ _
        have HS3 := Aside0.mk hs3
        clear hs3
        have HSW := Aside0.mk (HS.out.call (w' := W) ⟨hfr.os, hfr.tape, hfr.output, hfr.size, fun k hk => hfr.block k hk (fun q => by have := HSZ.out; omega)⟩)
        have HFR := Aside0.mk hfr
        have HP7 := Aside0.mk h7
        have HP8 := Aside0.mk h8
        have HK0 := Aside0.mk hk
        clear h7 h8 hfr hk hkx
        gi_wp2
        gi_loopg [] (256 - k) (fun gk wr => ∃ k' : Nat, k ≤ k' ∧ k' ≤ 256 ∧ k' + gk = 256 ∧ Aside0 (linksL cnt k' = linksL cnt k) ∧ Aside0 (wr.heap[b]? = some (.cells #[.int .i64 (k' : Nat)] 3 (0, 0))) ∧ Aside0 (Fr (fun q => q = b) W wr))
        case atStart => exact ⟨k, Nat.le_refl _, HK0.out, by have := HK0.out; omega, ⟨rfl⟩, HP7, ⟨Fr.refl _ _⟩⟩
        case round =>
          obtain ⟨k', hk1, hk2, hk3, HLK, H7, HFW⟩ := hrel
          have hfr2 : Fr (fun k => b ≤ k) wo wr := HFR.out.trans HFW.out (fun i hi => .inl (by omega))
          have HSX := Aside0.mk (HS.out.call (w' := wr) ⟨hfr2.os, hfr2.tape, hfr2.output, hfr2.size, fun k hk => hfr2.block k hk (fun q => by have := HSZ.out; omega)⟩)
          have y7 : wr.cell? ⟨b, 0, none⟩ = some (.int .i64 k') := (blk_cell H7.out 0).trans rfl
          have f7 := blk_frozen H7.out 0
          have y4 : wr.cell? ⟨r + 1 + 1, 0, none⟩ = some (.pointer (some ⟨r, 0, none⟩)) := (blk_cell (HSX.out.blk 2 rfl) 0).trans rfl
          clear hfr2
          by_cases hlt : k' < 256
          · obtain ⟨qi, hqi⟩ : ∃ qi, k' / 16 = qi := ⟨_, rfl⟩
            obtain ⟨ri, hri⟩ : ∃ ri, k' % 16 = ri := ⟨_, rfl⟩
            have HX := idx16 hlt
            rw [hqi, hri] at HX
            clear hqi hri
            obtain ⟨A7, c7, q1, _, _, _, f1, _⟩ := HSX.out.refRow 1 rfl (p := qi * 16 + ri) (by rw [HX.e]; exact hlt)
            obtain ⟨c0, hc0⟩ : ∃ c0, cnt (lk k').1.1 (lk k').1.2 = c0 := ⟨_, rfl⟩
            rw [show (Q (qi * 16 + ri)).length = c0 by rw [HX.e, row_len HD.out hlt, ← HCNT.out]; exact hc0] at q1
            have HC0 := Aside0.mk hc0
            clear hc0
            have hwk := HX.wk
            have hz0 : c0 = 0 ∨ ¬ c0 = 0 := Decidable.em _
            rcases hz0 with hz3 | hz3
            · have hz2 : ((c0 : Int) == 0) = true := by rw [hz3]; rfl
              gi_upto_region 16 with (fail)
              refine r16_zero (g := g) rfl y7 y4 q1 HX.q2 HX.r2 HX.q3 HX.r3 HX.wq HX.wr HX.lt HX.ge hz2 ?_
              intros
              gi_wp2
              gi_roundg (gk - 1)
              case measure => clear hwk; omega
              case rel =>
                clear hwk
                exact ⟨k' + 1, by omega, by omega, by omega, ⟨(linksL_zero (by rw [HC0.out]; omega)).trans HLK.out⟩, ⟨blk_put (cs := #[.int .i64 k']) H7.out 0 _ (by first | rfl | simp)⟩, ⟨(HFW.out.trans (Fr.of_below (F := fun _ => False) (below_drew (Below.refl _ _))) (fun _ h => h.elim)).set (.inl rfl) _⟩⟩
            · have hz2 : ((c0 : Int) == 0) = false := beq_of_ne (fun h => hz3 (Int.ofNat.inj h))
              have y2 : wr.cell? ⟨w.heap.size, 0, none⟩ = some (.bool false) := (blk_cell (HSX.out.blk 4 rfl) 0).trans rfl
              have f2 := blk_frozen (HSX.out.blk 4 rfl) 0
              have y3 : wr.cell? ⟨r + 1, 0, none⟩ = some (.pointer (some ⟨g, 0, none⟩)) := (blk_cell (HSX.out.blk 3 rfl) 0).trans rfl
              gi_upto_region 16 with (fail)
              refine r16_more (g := g) rfl y7 y4 q1 HX.q2 HX.r2 HX.q3 HX.r3 HX.wq HX.wr HX.lt HX.ge hz2 ?_
              intros
              gi_wp2
              by_cases ha : x.1.1 = (qi : Int)
              · by_cases hb : x.1.2 = (ri : Int)
                · have HXK : Aside0 (x = lk k') := ⟨Subtype.ext (Prod.ext (ha.trans HX.l1.symm) (hb.trans HX.l2.symm))⟩
                  obtain ⟨s8, hs8⟩ : ∃ s8, sumL cnt (linksL cnt k) = s8 := ⟨_, rfl⟩
                  have HS8 := Aside0.mk hs8
                  have HB8 : Aside0 (wr.heap[b + 1]? = some (.cells #[.int .i64 (s8 : Nat)] 3 (0, 0))) := ⟨by
                    have h1 := HP8.out
                    rw [hs8] at h1
                    exact (HFW.out.block _ (blk_lt h1) (by clear hwk; omega)).trans h1⟩
                  have HCK : Aside0 (Calls Try.prog 21 #[.pointer (some ⟨g, 0, none⟩), .int .i64 (qi : Int), .int .i64 (ri : Int)] wr.drew.drew fun e w' => e = .returned (.int .i64 (c0 : Int)) ∧ w' = wr.drew.drew) := ⟨by
                    have h1 := HC.out wr.drew.drew (HFR.out.trans (HFW.out.trans (Fr.of_below (F := fun _ => False) (below_drew (below_drew (Below.refl _ _)))) (fun _ h => h.elim)) (fun i hi => .inl (by clear hwk; omega))) qi ri HX.iq HX.ir
                    rw [show cnt (qi : Int) (ri : Int) = c0 by rw [← HX.l1, ← HX.l2]; exact HC0.out] at h1
                    exact h1⟩
                  have y8 : wr.cell? ⟨b + 1, 0, none⟩ = some (.int .i64 s8) := (blk_cell HB8.out 0).trans rfl
                  have f8 := blk_frozen HB8.out 0
                  have w8 := sum_small (fun a b => by rw [HCNT.out]; exact HD.out.len _) HK0.out HC0.out hs8
                  have y7' : ∀ u, (wr.drew.drew.drew.setCell ⟨b + 1, 0, none⟩ u).cell? ⟨b, 0, none⟩ = some (.int .i64 k') := fun u => (World.cell?_setCell_other _ _ _ _ (by intro h; simp only [Addr.mk.injEq] at h; omega)).trans y7
                  clear hs8
                  refine r18_eq (wr := wr.drew) (g := g) rfl y7 y4 y3 q1 HX.q2 HX.r2 HX.q3 HX.r3 HX.wq HX.wr HX.lt HX.ge ha hb HCK ?_
                  intros
                  gi_wp2
                  refine r20 (wr := wr.drew.drew) (g := g) (k' := 0) rfl y8 f8 y4 q1 HX.q3 HX.r3 ha hb w8 ?_
                  intros
                  gi_wp2
                  have h7a : (wr.setCell ⟨b + 1, 0, none⟩ (.int .i64 ((s8 : Int) + c0))).heap[b]? = some (.cells #[.int .i64 (k' : Nat)] 3 (0, 0)) := (Below.heap_setCell _ _ _ _ (by simp)).trans H7.out
                  have h8a : (wr.setCell ⟨b + 1, 0, none⟩ (.int .i64 ((s8 : Int) + c0))).heap[b + 1]? = some (.cells #[.int .i64 ((s8 : Int) + c0)] 3 (0, 0)) := blk_put (cs := #[.int .i64 s8]) HB8.out 0 _ rfl
                  have h7b : ((wr.setCell ⟨b + 1, 0, none⟩ (.int .i64 ((s8 : Int) + c0))).setCell ⟨b, 0, none⟩ (.int .i64 ((k' : Int) + 1))).heap[b]? = some (.cells #[.int .i64 ((k' : Int) + 1)] 3 (0, 0)) := blk_put (cs := #[.int .i64 k']) h7a 0 _ rfl
                  have h8b : ((wr.setCell ⟨b + 1, 0, none⟩ (.int .i64 ((s8 : Int) + c0))).setCell ⟨b, 0, none⟩ (.int .i64 ((k' : Int) + 1))).heap[b + 1]? = some (.cells #[.int .i64 ((s8 : Int) + c0)] 3 (0, 0)) := (Below.heap_setCell _ _ _ _ (by simp)).trans h8a
                  have hfw : Fr (fun q => q = b ∨ q = b + 1) W ((wr.setCell ⟨b + 1, 0, none⟩ (.int .i64 ((s8 : Int) + c0))).setCell ⟨b, 0, none⟩ (.int .i64 ((k' : Int) + 1))).drew.drew.drew := (((HFW.out.mono (fun q h => .inl h)).set (.inl (.inr rfl)) _).set (.inl (.inl rfl)) _).trans (Fr.of_below (F := fun _ => False) (below_drew (below_drew (below_drew (Below.refl _ _))))) (fun _ h => h.elim)
                  refine ⟨KeepsOthers.of_cells hfw (fun q h => by
                    rcases h with rfl | rfl
                    · exact ⟨_, _, _, HP7.out⟩
                    · exact ⟨_, _, _, HP8.out⟩), ⟨hfw.size, fun q hq hx => hfw.block q (by have h1 := HS3.out; have h2 := HSZ.out; clear hwk; omega) hx⟩, ⟨k' + 1, by clear hwk; omega, ?_, ?_, ?_⟩, HFR.out.trans hfw (fun q hq => .inl (by clear hwk; rcases hq with hq | hq <;> omega)), Nat.le_trans HS3.out hfw.size⟩
                  · rw [← HLK.out, HXK.out, linksL_pos (by rw [HC0.out]; clear hwk; omega)]
                  · exact h7b
                  · rw [sumL_snoc, HS8.out, HXK.out, HC0.out]
                    exact h8b
                · have hbx : (x.1.2 != (ri : Int)) = true := by simpa using hb
                  have HNX : Aside0 (¬ x.1.2 = (lk k').1.2) := ⟨by rw [HX.l2]; exact hb⟩
                  refine r18_nb (wr := wr.drew) (g := g) rfl y7 HX.q2 HX.r2 HX.q3 HX.r3 HX.wq HX.wr HX.lt HX.ge ha hbx ?_
                  intros
                  gi_wp2
                  have hfw : Fr (fun q => q = b ∨ q = w.heap.size) W (wr.drew.drew.setCell ⟨w.heap.size, 0, none⟩ (.bool false)) := (((HFW.out.mono (fun q h => .inl h)).trans (Fr.of_below (F := fun _ => False) (below_drew (below_drew (Below.refl _ _)))) (fun _ h => h.elim))).set (.inl (.inr rfl)) _
                  have hpn : ¬ (linksL cnt k ++ [x]) <+: linksL cnt 256 := by
                    rw [← HLK.out]
                    exact pre_next hk2 (fun _ => by rw [HC0.out]; omega) (.inr (fun e => HNX.out (by rw [e])))
                  exact ⟨KeepsOthers.of_cells hfw (fun q h => by
                    rcases h with rfl | rfl
                    · exact ⟨_, _, _, HP7.out⟩
                    · exact ⟨_, _, _, HSW.out.blk 4 rfl⟩), hpn⟩
              · have hax : (x.1.1 != (qi : Int)) = true := by simpa using ha
                have HNX : Aside0 (¬ x.1.1 = (lk k').1.1) := ⟨by rw [HX.l1]; exact ha⟩
                refine r18_na (wr := wr.drew) (g := g) rfl y7 HX.q2 HX.r2 HX.q3 HX.r3 HX.wq HX.wr HX.lt HX.ge hax ?_
                intros
                gi_wp2
                have hfw : Fr (fun q => q = b ∨ q = w.heap.size) W (wr.drew.drew.setCell ⟨w.heap.size, 0, none⟩ (.bool false)) := (((HFW.out.mono (fun q h => .inl h)).trans (Fr.of_below (F := fun _ => False) (below_drew (below_drew (Below.refl _ _)))) (fun _ h => h.elim))).set (.inl (.inr rfl)) _
                have hpn : ¬ (linksL cnt k ++ [x]) <+: linksL cnt 256 := by
                  rw [← HLK.out]
                  exact pre_next hk2 (fun _ => by rw [HC0.out]; omega) (.inr (fun e => HNX.out (by rw [e])))
                exact ⟨KeepsOthers.of_cells hfw (fun q h => by
                  rcases h with rfl | rfl
                  · exact ⟨_, _, _, HP7.out⟩
                  · exact ⟨_, _, _, HSW.out.blk 4 rfl⟩), hpn⟩
          · have hk256 : k' = 256 := by omega
            have hlz : ¬ (k' : Int) < 256 := by omega
            have hge : (256 : Int) ≤ k' := by omega
            have y2 : wr.cell? ⟨w.heap.size, 0, none⟩ = some (.bool false) := (blk_cell (HSX.out.blk 4 rfl) 0).trans rfl
            have f2 := blk_frozen (HSX.out.blk 4 rfl) 0
            gi_upto_region 16 with (fail)
            refine r16_end (g := g) (qi := 0) (ri := 0) rfl y7 hlz ?_
            intros
            gi_wp2
            refine r18_end (wr := wr.drew) (g := g) (qi := 0) (ri := 0) rfl y7 hge ?_
            intros
            gi_wp2
            have hfw : Fr (fun q => q = b ∨ q = w.heap.size) W (wr.drew.drew.setCell ⟨w.heap.size, 0, none⟩ (.bool false)) := (((HFW.out.mono (fun q h => .inl h)).trans (Fr.of_below (F := fun _ => False) (below_drew (below_drew (Below.refl _ _)))) (fun _ h => h.elim))).set (.inl (.inr rfl)) _
            have hpn : ¬ (linksL cnt k ++ [x]) <+: linksL cnt 256 := by
              rw [← HLK.out]
              exact pre_next hk2 (fun h => absurd h (by omega)) (.inl hk256)
            exact ⟨KeepsOthers.of_cells hfw (fun q h => by
              rcases h with rfl | rfl
              · exact ⟨_, _, _, HP7.out⟩
              · exact ⟨_, _, _, HSW.out.blk 4 rfl⟩), hpn⟩
      case done =>
        rintro D xs W hD rfl ⟨⟨k, hk, hpre, h7, h8⟩, hfr, hs3⟩ hKD
        have HS9 := Aside0.mk (HS.out.call (w' := W) ⟨hfr.os, hfr.tape, hfr.output, hfr.size, fun k hk => hfr.block k hk (fun q => by have := HSZ.out; omega)⟩)
        have HFR := Aside0.mk hfr
        have HP7 := Aside0.mk h7
        have HP8 := Aside0.mk h8
        have HDD := Aside0.mk (And.intro hD hKD)
        have HZ : Aside0 (∀ j, k ≤ j → j < 256 → cnt (lk j).1.1 (lk j).1.2 = 0) := ⟨links_end hpre⟩
        clear h7 h8 hfr hs3 hD hKD hpre hkx
        gi_wp2
        gi_loopg [] (256 - k) (fun gk wr => ∃ k' : Nat, k ≤ k' ∧ k' ≤ 256 ∧ k' + gk = 256 ∧ Aside0 (wr.heap[b]? = some (.cells #[.int .i64 (k' : Nat)] 3 (0, 0))) ∧ Aside0 (Fr (fun q => q = b) W wr))
        case atStart => exact ⟨k, Nat.le_refl _, hk, by omega, HP7, ⟨Fr.refl _ _⟩⟩
        case round =>
          obtain ⟨k', hk1, hk2, hk3, H7, HFW⟩ := hrel
          have hfr2 : Fr (fun k => b ≤ k) wo wr := HFR.out.trans HFW.out (fun i hi => .inl (by omega))
          have HSX := Aside0.mk (HS.out.call (w' := wr) ⟨hfr2.os, hfr2.tape, hfr2.output, hfr2.size, fun k hk => hfr2.block k hk (fun q => by have := HSZ.out; omega)⟩)
          have y7 : wr.cell? ⟨b, 0, none⟩ = some (.int .i64 k') := (blk_cell H7.out 0).trans rfl
          have f7 := blk_frozen H7.out 0
          have y4 : wr.cell? ⟨r + 1 + 1, 0, none⟩ = some (.pointer (some ⟨r, 0, none⟩)) := (blk_cell (HSX.out.blk 2 rfl) 0).trans rfl
          clear hfr2
          by_cases hlt : k' < 256
          · obtain ⟨qi, hqi⟩ : ∃ qi, k' / 16 = qi := ⟨_, rfl⟩
            obtain ⟨ri, hri⟩ : ∃ ri, k' % 16 = ri := ⟨_, rfl⟩
            have HX := idx16 hlt
            rw [hqi, hri] at HX
            clear hqi hri
            obtain ⟨A7, c7, q1, _, _, _, f1, _⟩ := HSX.out.refRow 1 rfl (p := qi * 16 + ri) (by rw [HX.e]; exact hlt)
            rw [show (Q (qi * 16 + ri)).length = 0 by rw [HX.e, row_len HD.out hlt, ← HCNT.out]; exact HZ.out _ hk1 hlt] at q1
            have hwk := HX.wk
            have hlz := HX.lt
            gi_upto_region 24 with (fail)
            refine wpIn_wide.2 (r24 (g := g) rfl y7 y4 q1 HX.q2 HX.r2 HX.q3 HX.r3 HX.wq HX.wr ?_)
            intros
            gi_wp2
            gi_roundg (gk - 1)
            case measure => clear hwk; omega
            case rel =>
              clear hwk
              exact ⟨k' + 1, by omega, by omega, by omega, ⟨blk_put (cs := #[.int .i64 k']) H7.out 0 _ (by first | rfl | simp)⟩, ⟨(HFW.out.trans (Fr.of_below (F := fun _ => False) (below_drew (Below.refl _ _))) (fun _ h => h.elim)).set (.inl rfl) _⟩⟩
          · have hlz : ¬ (k' : Int) < 256 := by omega
            have h8w := (HFW.out.block _ (blk_lt HP8.out) (by omega)).trans HP8.out
            have h2w := HSX.out.blk 4 rfl
            have h3w := HSX.out.blk 3 rfl
            have HPT : Aside0 (∀ W', KX wr.heap.size (fun _ => False) wr W' → ∀ a b', WI a → WI b' → Calls Try.prog 21 #[.pointer (some ⟨g, 0, none⟩), .int .i64 a, .int .i64 b'] W' fun e w' => e = .returned (.int .i64 (cnt a b')) ∧ w' = W') := ⟨fun W' h a b' ha hb => by
              obtain ⟨F, hA⟩ := HSX.out.get 0 rfl
              rw [HCNT.out]
              exact net_count (NetP.loc.step (NetP.loc.bound hA) h.1 (fun k hk hlt => h.2 k hlt (fun q => q))) ha hb⟩
            obtain ⟨tot, htot⟩ : ∃ tot : Int, tot = ((sumL cnt (linksL cnt 256) : Nat) : Int) := ⟨_, rfl⟩
            rw [← htot] at h8w
            have HT : Aside0 (Calls Try.prog 18 #[.pointer (some ⟨g, 0, none⟩)] wr.drew fun e w' => e = .returned (.int .i64 tot) ∧ Below wr.drew.heap.size wr.drew w') := ⟨by
              rw [htot]
              exact net_total (some ⟨g, 0, none⟩) cnt wr.drew (fun a b => by rw [HCNT.out]; exact Nat.le_trans (HD.out.len _) (by omega)) (fun W' h => HPT.out W' h)⟩
            have HCZ : Aside0 (∀ w2, Below wr.drew.heap.size wr.drew w2 → Calls Try.prog 21 #[.pointer (some ⟨g, 0, none⟩), .int .i64 (-1), .int .i64 0] w2 fun e w' => e = .returned (.int .i64 0) ∧ w' = w2) := ⟨fun w2 hb => by
              have h1 := HPT.out w2 ⟨hb.size, fun k hk _ => hb.block k hk⟩ (-1) 0 WI_m1 WI0
              rw [show cnt (-1) 0 = 0 by rw [HCNT.out]; show (B (kl (-1) 0)).length = 0; rw [HD.out.off (-1) 0 WI_m1 WI0 rfl]; rfl] at h1
              exact h1⟩
            clear htot
            gi_upto_region 26 with (fail)
            refine wpIn_wide.2 (r26 (bq := undef) (k' := 0) (qi := 0) (ri := 0) rfl h3w h8w h2w HT HCZ ?_)
            intro w2 hw2
            intros
            have h2x := (hw2.block _ (blk_lt h2w)).trans h2w
            have hDr : wr.heap[D]? = some (.deferred (some [])) := (HFW.out.block D (Array.getElem?_eq_some_iff.1 HDD.out.2).1 (by have := HDD.out.1; have := HSZ.out; omega)).trans HDD.out.2
            have hD2 := (hw2.block D (Array.getElem?_eq_some_iff.1 hDr).1).trans hDr
            have hne : D ≠ w.heap.size := fun e => by
              rw [e, h2x] at hD2
              cases Option.some.inj hD2
            have hsw : w.heap.size ≤ b := by rw [HSZ.out.2]; exact HS.out.below.size
            have HF9 : Aside0 (Fr (fun k => w.heap.size ≤ k) w w2) := ⟨(((Fr.of_below HS.out.below).trans HFR.out (fun i hi => .inl (Nat.le_trans hsw hi))).trans HFW.out (fun i hi => .inl (Nat.le_trans hsw (Nat.le_of_eq hi.symm)))).trans (Fr.of_below (F := fun _ => False) hw2) (fun _ h => h.elim)⟩
            have H2X := Aside0.mk h2x
            have HDX := Aside0.mk (And.intro hD2 hne)
            have hDw : w.heap.size ≤ D := by have := HDD.out.1; have := HSZ.out; omega
            clear h2x hDr hD2 h2w h3w h8w hw2
            gi_wp2
            have hD3 : (w2.setCell ⟨w.heap.size, 0, none⟩ (.bool true)).heap[D]? = some (.deferred (some [])) := (Below.heap_setCell w2 ⟨w.heap.size, 0, none⟩ _ D hne).trans HDX.out.1
            refine ⟨by simp, .inl ⟨_, _, rfl, run_takeDeferred hD3, ?_⟩⟩
            have hm3 : ((w2.setCell ⟨w.heap.size, 0, none⟩ (.bool true)).putObj D (.deferred none)).heap[w.heap.size]? = some (.cells #[.bool true] 4 (0, 0)) := (World.putObj_heap_other (Ne.symm hne)).trans (blk_put (cs := #[.bool false]) H2X.out 0 _ rfl)
            have c9 : ((w2.setCell ⟨w.heap.size, 0, none⟩ (.bool true)).putObj D (.deferred none)).cell? ⟨w.heap.size, 0, none⟩ = some (.bool true) := (blk_cell hm3 0).trans rfl
            have hfin : Fr (fun k => w.heap.size ≤ k) w ((w2.setCell ⟨w.heap.size, 0, none⟩ (.bool true)).putObj D (.deferred none)) :=
              (HF9.out.set (.inl (Nat.le_refl _)) _).trans (Fr.of_grown (F := fun k => k = D) (grownBy_putObj' _ D _) (fun k e => (Option.some.inj e).symm)) (fun k hk => .inl (hk ▸ hDw))
            refine ⟨.bool true, by simp [results, Try.results5, go_sem, c9], rfl, ?_⟩
            exact ⟨hfin.os, hfin.tape, hfin.output, hfin.size, fun k hk => hfin.block k hk (Nat.not_le.2 hk)⟩
      case stop =>
        rintro D c pre W _ hp h _
        exact absurd hp h

def jobberlaw37_NetPlays.f (l0 : List S46) : Option Bool := if l0.all (fun x => decide (WI x.f1 ∧ WI x.f2 ∧ WI x.f3)) then some true else none
theorem jobberlaw37_NetPlays.calls (A0 : Option Addr) (c0 : Nat) (l0 : List S46) (r : Bool) (w : World) (hr0 : Kd.C k46 w A0 l0.length l0) (hc0 : l0.length ≤ c0) (h : jobberlaw37_NetPlays.f l0 = some r) :
    Calls Try.prog 5 #[.slice A0 l0.length c0] w fun e w' => e = .returned (.bool r) ∧ Below w.heap.size w w' := by
  unfold jobberlaw37_NetPlays.f at h
  split at h
  · rename_i hw
    obtain rfl := Option.some.inj h
    have hw' : ∀ x ∈ l0, WI x.f1 ∧ WI x.f2 ∧ WI x.f3 := fun x hx => by simpa using List.all_eq_true.1 hw x hx
    by_cases c : lightB l0 = true
    · exact plays_main A0 c0 l0 w hr0 c hw'
    · exact plays_lives A0 c0 l0 w hr0 (by simpa using c)
  · cases h
end

end Go.Proofs.Ythkhfhhbldjdlaa.Npl
