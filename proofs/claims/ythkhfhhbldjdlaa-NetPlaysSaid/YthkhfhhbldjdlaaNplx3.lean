/- Printed by this session's wip/drive.py over the translation; some functions by hand. -/
import Derived.Test.YthkhfhhbldjdlaaNplx0
import Derived.Test.YthkhfhhbldjdlaaNplx2
namespace Go.Proofs.Ythkhfhhbldjdlaa.Npl
open Go.RowKit Go.Proofs.YthkhfhhbldjdlaaW.PrintWords Go.Proofs.YthkhfhhbldjdlaaW.PrintLast Go.Proofs.YthkhfhhbldjdlaaW.PrintMore
attribute [local go_sem] max2_int min2_int max_two min_two max_three min_three max_four min_four   -- for this text's walks alone
set_option linter.unusedVariables false
set_option linter.unusedSimpArgs false

-- NOT PRINTED: function 21 (net_Net_Count)

-- NOT PRINTED: function 52 (net_Net_place)

/-! ### net_Net_Take: function 15 (by hand; for other hand texts alone) -/
section
variable {w : World} {F : Nat → Prop} {g N : Nat} {B : Lit → List (List Int)} {C : Lit → Bool} {a b : Int}
noncomputable def doubleE (B : Lit → List (List Int)) (a b : Int) : Int := if isB a b = true then (if (B (kl a b)).length = 0 then 51 else if 256 ≤ (B (kl a b)).length then 50 else 0) else 2
noncomputable def gotten (B : Lit → List (List Int)) (a b k : Int) : List Int := (B (kl a b)).getD (placeI k (B (kl a b)).length).toNat []
set_option maxHeartbeats 8000000 in
set_option maxRecDepth 100000 in
theorem net_double_err (h : NetP g N B C w F) (ha : WI a) (hb : WI b) (x : Int) (hx : doubleE B a b = x) (h0 : x ≠ 0) (hm : (B (kl a b)).length ≤ 1000000) (hS : ∀ y ∈ B (kl a b), y.length ≤ 1000000) (k : Int) (hk : WI k) :
    Calls Try.prog 16 #[.pointer (some ⟨g, 0, none⟩), .int .i64 a, .int .i64 b, .int .i64 k] w fun e w' => e = .returned (.int .i64 x) ∧ Below w.heap.size w w' := by
  have S0 := (St.start1 NetP.loc h).alloc (cs := #[.int .i64 a, .int .i64 b]) (t := 102)
  have HA := Aside0.mk (And.intro ha hb)
  obtain ⟨m1, m2, S1⟩ := S0.perm2.netOpen
  have HB0 := Aside0.mk (S1.blk 0 rfl)
  have HS0 := Aside0.mk S0
  have HS := Aside0.mk hS
  have HK := Aside0.mk hk
  clear S0 S1 h hS hk
  unfold doubleE at hx
  cases hi : isB a b with
  | false =>
    rw [if_neg (by rw [hi]; decide)] at hx
    subst hx
    have HI := Aside0.mk hi
    clear hi h0 ha hb hm
    go_enter Try.func16, Try.ntmps16
    go_wp2_with (first | (go_at_call 49; refine (net_none _ g m1 _ HB0.out).mono ?_; rintro e w1 ⟨rfl, rfl⟩) | (go_at_call 50; refine (net_is _ a b).mono ?_; rw [HI.out]; rintro e w1 ⟨rfl, hb1⟩; have HB1 := Aside0.mk (below_step (below_alloc (Below.refl _ _) _) hb1); clear hb1))
    go_ret
    exact ⟨rfl, HB1.out⟩
  | true =>
    rw [if_pos hi] at hx
    have HI := Aside0.mk hi
    clear hi
    by_cases hz : (B (kl a b)).length = 0
    · rw [if_pos hz] at hx
      subst hx
      have HZ := Aside0.mk (List.eq_nil_of_length_eq_zero hz)
      clear h0 ha hb hz hm
      go_enter Try.func16, Try.ntmps16
      go_wp2_with (first | (go_at_call 49; refine (net_none _ g m1 _ HB0.out).mono ?_; rintro e w1 ⟨rfl, rfl⟩) | (go_at_call 50; refine (net_is _ a b).mono ?_; rw [HI.out]; rintro e w1 ⟨rfl, hb1⟩; have HB1 := Aside0.mk (below_step (below_alloc (Below.refl _ _) _) hb1); have HS1 := Aside0.mk (HS0.out.call hb1); clear hb1) | (go_at_call 14; obtain ⟨F1, h1⟩ := HS1.out.get 1 rfl; refine (net_peek0 h1 HA.out.1 HA.out.2 HZ.out k).mono ?_; rintro e w2 ⟨rfl, hb2⟩; have HB2 := Aside0.mk (below_step HB1.out hb2); clear hb2 h1))
      go_ret
      exact ⟨rfl, HB2.out⟩
    · rw [if_neg hz] at hx
      by_cases hn : 256 ≤ (B (kl a b)).length
      · rw [if_pos hn] at hx
        subst hx
        obtain ⟨n, hq⟩ : ∃ n, (B (kl a b)).length = n := ⟨_, rfl⟩
        rw [hq] at hn hz hm
        have HQ := Aside0.mk hq
        have HN := Aside0.mk (And.intro (show 0 < n by omega) hm)
        have hd' : (256 : Int) ≤ (n : Int) := by omega
        clear h0 ha hb hz hm hq hn
        go_enter Try.func16, Try.ntmps16
        go_wp2_with (first | (go_at_call 49; refine (net_none _ g m1 _ HB0.out).mono ?_; rintro e w1 ⟨rfl, rfl⟩) | (go_at_call 50; refine (net_is _ a b).mono ?_; rw [HI.out]; rintro e w1 ⟨rfl, hb1⟩; have HB1 := Aside0.mk (below_step (below_alloc (Below.refl _ _) _) hb1); have HS1 := Aside0.mk (HS0.out.call hb1); clear hb1) | (go_at_call 14; obtain ⟨F1, h1⟩ := HS1.out.get 1 rfl; refine (net_peek1 h1 HA.out.1 HA.out.2 n HQ.out HN.out.1 HN.out.2 HS.out k HK.out).mono ?_; rintro e w2 ⟨v, rfl, hR, hb2⟩; obtain ⟨A9, c9, e9⟩ := Kd.R_slice hR; subst e9; have HB2 := Aside0.mk (below_step HB1.out hb2); obtain ⟨m3, m4, S2⟩ := (HS1.out.call hb2).perm2.netOpen; obtain ⟨A1, c1, hl2, _, _⟩ := S2.bagLookN 1 rfl HA.out.1 HA.out.2; rw [HQ.out] at hl2;  have z0 : w2.cell? ⟨g, 0, none⟩ = some (.map (some m3)) := (blk_cell (S2.blk 0 rfl) 0).trans rfl; have fz0 : w2.frozen? ⟨g, 0, none⟩ = false := blk_frozen (S2.blk 0 rfl) 0; have z1 : w2.cell? ⟨g, 1, none⟩ = some (.map (some m4)) := (blk_cell (S2.blk 0 rfl) 1).trans rfl; have fz1 : w2.frozen? ⟨g, 1, none⟩ = false := blk_frozen (S2.blk 0 rfl) 1; have q0 : w2.cell? ⟨w.heap.size, 0, none⟩ = some (.int .i64 a) := (blk_cell (S2.blk 3 rfl) 0).trans rfl; have fq0 : w2.frozen? ⟨w.heap.size, 0, none⟩ = false := blk_frozen (S2.blk 3 rfl) 0; have q1 : w2.cell? ⟨w.heap.size, 1, none⟩ = some (.int .i64 b) := (blk_cell (S2.blk 3 rfl) 1).trans rfl; have fq1 : w2.frozen? ⟨w.heap.size, 1, none⟩ = false := blk_frozen (S2.blk 3 rfl) 1; clear hb2 h1 hR S2))
        go_quiet (fail)
        go_wp2
        go_ret
        exact ⟨rfl, pw_below_drewN HB2.out _⟩
      · rw [if_neg hn] at hx
        exact absurd hx.symm h0
set_option maxHeartbeats 8000000 in
set_option maxRecDepth 100000 in
theorem net_double_ok (h : NetP g N B C w F) (ha : WI a) (hb : WI b) (hx : doubleE B a b = 0) (hS : ∀ y ∈ B (kl a b), y.length ≤ 1000000) (k : Int) (hk : WI k) (hN : N < 1000000) :
    Calls Try.prog 16 #[.pointer (some ⟨g, 0, none⟩), .int .i64 a, .int .i64 b, .int .i64 k] w fun e w' => e = .returned (.int .i64 0) ∧ St w F w' [NetP g (N + 1) (updL B (kl a b) (B (kl a b) ++ [gotten B a b k])) C] := by
  have S0 := (St.start1 NetP.loc h).alloc (cs := #[.int .i64 a, .int .i64 b]) (t := 102)
  have HA := Aside0.mk (And.intro ha hb)
  obtain ⟨m1, m2, S1⟩ := S0.perm2.netOpen
  have HB0 := Aside0.mk (S1.blk 0 rfl)
  have HS0 := Aside0.mk S0
  have HS := Aside0.mk hS
  have HK := Aside0.mk hk
  have HN := Aside0.mk hN
  clear S0 S1 h hS hk hN
  unfold doubleE at hx
  have hi : isB a b = true := by
    cases q : isB a b with
    | false => rw [if_neg (by rw [q]; decide)] at hx; exact absurd hx (by decide)
    | true => rfl
  rw [if_pos hi] at hx
  obtain ⟨ys, hys⟩ : ∃ ys, B (kl a b) = ys := ⟨_, rfl⟩
  obtain ⟨n, hn⟩ : ∃ n, ys.length = n := ⟨_, rfl⟩
  rw [hys, hn] at hx
  have hn0 : 0 < n ∧ n < 256 := by
    by_cases q : n = 0
    · rw [if_pos q] at hx; exact absurd hx (by decide)
    · by_cases q2 : 256 ≤ n
      · rw [if_neg q, if_pos q2] at hx; exact absurd hx (by decide)
      · omega
  have hgx : gotten B a b k = ys.getD (placeI k n).toNat [] := by unfold gotten; rw [hys, hn]
  rw [hgx, hys]
  obtain ⟨x, hxx⟩ : ∃ x, ys.getD (placeI k n).toNat [] = x := ⟨_, rfl⟩
  rw [hxx]
  obtain ⟨zs, hzs⟩ : ∃ zs, ys ++ [x] = zs := ⟨_, rfl⟩
  rw [hzs]
  have HXX := Aside0.mk hxx
  have HYS := Aside0.mk hys
  have HZS := Aside0.mk hzs
  have HNN := Aside0.mk hn
  have HI := Aside0.mk hi
  have HN0 := Aside0.mk hn0
  have hd : ¬ (256 : Int) ≤ (n : Int) := by omega
  clear hi hx ha hb hys hzs hn hn0 hgx hxx
  go_enter Try.func16, Try.ntmps16
  go_wp2_with (first | (go_at_call 49; refine (net_none _ g m1 _ HB0.out).mono ?_; rintro e w1 ⟨rfl, rfl⟩) | (go_at_call 50; refine (net_is _ a b).mono ?_; rw [HI.out]; rintro e w1 ⟨rfl, hb1⟩; have HS1 := Aside0.mk (HS0.out.call hb1); clear hb1) | (go_at_call 14; obtain ⟨F1, h1⟩ := HS1.out.get 1 rfl; refine (net_peek1 h1 HA.out.1 HA.out.2 n (by rw [HYS.out]; exact HNN.out) HN0.out.1 (by have := HN0.out; omega) HS.out k HK.out).mono ?_; rw [HYS.out, HXX.out]; rintro e w2 ⟨v, rfl, hR, hb2⟩; obtain ⟨A9, c9, e9⟩ := Kd.R_slice hR; subst e9; obtain ⟨m3, m4, S2⟩ := ((HS1.out.row hb2 hR).front 2 rfl).netOpen; obtain ⟨A1, c1, hl2, _, _⟩ := S2.bagLookN 1 rfl HA.out.1 HA.out.2; rw [HYS.out, HNN.out] at hl2;  have z0 : w2.cell? ⟨g, 0, none⟩ = some (.map (some m3)) := (blk_cell (S2.blk 0 rfl) 0).trans rfl; have fz0 : w2.frozen? ⟨g, 0, none⟩ = false := blk_frozen (S2.blk 0 rfl) 0; have z1 : w2.cell? ⟨g, 1, none⟩ = some (.map (some m4)) := (blk_cell (S2.blk 0 rfl) 1).trans rfl; have fz1 : w2.frozen? ⟨g, 1, none⟩ = false := blk_frozen (S2.blk 0 rfl) 1; have q0 : w2.cell? ⟨w.heap.size, 0, none⟩ = some (.int .i64 a) := (blk_cell (S2.blk 4 rfl) 0).trans rfl; have fq0 : w2.frozen? ⟨w.heap.size, 0, none⟩ = false := blk_frozen (S2.blk 4 rfl) 0; have q1 : w2.cell? ⟨w.heap.size, 1, none⟩ = some (.int .i64 b) := (blk_cell (S2.blk 4 rfl) 1).trans rfl; have fq1 : w2.frozen? ⟨w.heap.size, 1, none⟩ = false := blk_frozen (S2.blk 4 rfl) 1; have HS2 := Aside0.mk S2; clear hb2 h1 hR S2))
  go_quiet (fail)
  go_wp2_with fail
  clear hl2
  refine wp_named ?_
  intro w3 hw3
  obtain ⟨nx, hnx⟩ : ∃ nx, x.length = nx := ⟨_, rfl⟩
  have S3 : St w F w3 (Pt g #[.map (some m3), .map (some m4)] 55 :: BagP m3 N B :: CutP m4 N C :: Rw (Kd.int .u8) 5 (.slice A9 x.length c9) x :: [Pt w.heap.size #[.int .i64 a, .int .i64 b] 102]) := by rw [hw3]; exact HS2.out.drew _
  rw [hnx] at S3 ⊢
  have HNX := Aside0.mk hnx
  clear hw3 HS2 hnx z0 z1 fz0 fz1 q0 q1 fq0 fq1
  have z0 : w3.cell? ⟨g, 0, none⟩ = some (.map (some m3)) := (blk_cell (S3.blk 0 rfl) 0).trans rfl; have fz0 : w3.frozen? ⟨g, 0, none⟩ = false := blk_frozen (S3.blk 0 rfl) 0; have z1 : w3.cell? ⟨g, 1, none⟩ = some (.map (some m4)) := (blk_cell (S3.blk 0 rfl) 1).trans rfl; have fz1 : w3.frozen? ⟨g, 1, none⟩ = false := blk_frozen (S3.blk 0 rfl) 1
  have q0 : w3.cell? ⟨w.heap.size, 0, none⟩ = some (.int .i64 a) := (blk_cell (S3.blk 4 rfl) 0).trans rfl; have fq0 : w3.frozen? ⟨w.heap.size, 0, none⟩ = false := blk_frozen (S3.blk 4 rfl) 0; have q1 : w3.cell? ⟨w.heap.size, 1, none⟩ = some (.int .i64 b) := (blk_cell (S3.blk 4 rfl) 1).trans rfl; have fq1 : w3.frozen? ⟨w.heap.size, 1, none⟩ = false := blk_frozen (S3.blk 4 rfl) 1
  have S5 := (S3.front 3 rfl).alloc (cs := #[.slice A9 nx c9]) (t := 22)
  have S6 := S5.drew1
  have S6' := S5
  obtain ⟨st, A7, c7, w7, hme, hg7, S7⟩ := (S6.front 3 rfl).bagEntry (by have := HN.out; unfold maxLen; omega) HA.out.1 HA.out.2
  rw [HYS.out, HNN.out] at hme S7
  have hme' : (Instr.mapEntry 52 (.map (some m3)) (.agg #[.int .i64 a, .int .i64 b])).run Try.prog (w3.alloc (.cells #[.slice A9 nx c9] 22)).drew = .ok (.tuple #[.slice A7 n c7, .int .i64 st]) w7 := hme
  have HS7 := Aside0.mk S7
  clear hme hg7 S3 S5 S7
  have y0 : (w3.alloc (.cells #[.slice A9 nx c9] 22)).cell? ⟨g, 0, none⟩ = some (.map (some m3)) := (blk_cell (S6'.blk 2 rfl) 0).trans rfl; have fy0 : (w3.alloc (.cells #[.slice A9 nx c9] 22)).frozen? ⟨g, 0, none⟩ = false := blk_frozen (S6'.blk 2 rfl) 0; have y1 : (w3.alloc (.cells #[.slice A9 nx c9] 22)).cell? ⟨g, 1, none⟩ = some (.map (some m4)) := (blk_cell (S6'.blk 2 rfl) 1).trans rfl; have fy1 : (w3.alloc (.cells #[.slice A9 nx c9] 22)).frozen? ⟨g, 1, none⟩ = false := blk_frozen (S6'.blk 2 rfl) 1; have p0 : (w3.alloc (.cells #[.slice A9 nx c9] 22)).cell? ⟨w.heap.size, 0, none⟩ = some (.int .i64 a) := (blk_cell (S6'.blk 5 rfl) 0).trans rfl; have fp0 : (w3.alloc (.cells #[.slice A9 nx c9] 22)).frozen? ⟨w.heap.size, 0, none⟩ = false := blk_frozen (S6'.blk 5 rfl) 0; have p1 : (w3.alloc (.cells #[.slice A9 nx c9] 22)).cell? ⟨w.heap.size, 1, none⟩ = some (.int .i64 b) := (blk_cell (S6'.blk 5 rfl) 1).trans rfl; have fp1 : (w3.alloc (.cells #[.slice A9 nx c9] 22)).frozen? ⟨w.heap.size, 1, none⟩ = false := blk_frozen (S6'.blk 5 rfl) 1
  clear S6 S6'
  go_region_law (obtain ⟨es, hes0, T0⟩ := (HS7.out.front 1 rfl).rowOpen; have hel : (rowsOf es).length = n := (by rw [← HNN.out, hes0]; simp [rowsOf]); obtain ⟨ok, okp, p1, p2, p3, p4, p5⟩ := (((T0.front 2 rfl).ptVw rfl).front 1 rfl).append_rows; refine Kd.N_append_rows_step (Kd.raw 1) (w0 := w7) 0 (by rfl) (.tmp 47) (.tmp 49) 103 22 (.slice none 0 0) 24 rfl Try.underlying103 netInfo22 rfl (by decide) (by decide) (.slice A7 n c7) (rowsOf es) [[.slice A9 nx c9]] (some ⟨w3.heap.size, 0, none⟩) 1 1 ok okp rfl rfl p1 p2 p3 p4 (Below.refl _ _) (Nat.zero_le _) (by rw [hel]; have := HN0.out; omega) ?_; intro v1 w8 hN _ hg _; obtain ⟨A8, c8, e8⟩ := Kd.N_slice hN; obtain ⟨m8, hm8⟩ : ∃ m8, (rowsOf es ++ [[(.slice A9 nx c9 : Value)]]).length = m8 := ⟨_, rfl⟩; rw [hm8] at e8; subst e8; have S8 := St.rowMore (l := [_, _, _, _]) ((p5 _ _ hN hg).front 2 rfl).rw_sl; rw [← hes0, HZS.out] at S8; clear p1 p2 p3 p4 p5 hN hg T0 hel hes0 hm8; obtain ⟨w9, hes, _, S9⟩ := (S8.front 1 rfl).bagStore; have hes' : (Instr.entryStore 52 (.map (some m3)) (.int .i64 st) (.slice A8 m8 c8)).run Try.prog w8 = .ok () w9 := hes; have HS9 := Aside0.mk S9; clear hes S8 S9)
  all_goals
    go_wp2
    go_ret
    exact ⟨rfl, ((HS9.out.front 1 rfl).netShut (Nat.le_refl _) (Nat.le_succ _)).take 1⟩
end
section
variable {w : World} {F : Nat → Prop} {g N : Nat} {B : Lit → List (List Int)} {C : Lit → Bool} {a b : Int}
set_option maxHeartbeats 8000000 in
set_option maxRecDepth 100000 in
theorem net_take0 (h : NetP g N B C w F) (ha : WI a) (hb : WI b) (hB : B (kl a b) = []) (k : Int) :
    Calls Try.prog 15 #[.pointer (some ⟨g, 0, none⟩), .int .i64 a, .int .i64 b, .int .i64 k] w fun e w' => e = .returned (.tuple #[.slice none 0 0, .bool false]) ∧ Below w.heap.size w w' := by
  have S0 := St.start1 NetP.loc h
  have HA := Aside0.mk (And.intro ha hb)
  have HL := Aside0.mk hB
  clear h ha hb hB
  go_enter Try.func15, Try.ntmps15
  go_wp2_with (go_at_call 52; have S1 := S0.call (below_alloc (Below.refl _ _) (.cells #[.int .i64 a, .int .i64 b] 102)); obtain ⟨F1, h1⟩ := S1.get 0 rfl; refine (net_place0 h1 HA.out.1 HA.out.2 HL.out k).mono ?_; rintro e w1 ⟨rfl, hb1⟩; have HB1 := Aside0.mk hb1; clear hb1 h1)
  go_ret2
  exact ⟨rfl, below_step (below_alloc (Below.refl _ _) _) HB1.out⟩
theorem run_copy_off {P : Program} (w : World) (dT sT ty elem : TypeId) (z g f dLen dCap : Nat) (A : Option Addr) (sLen sCap : Nat) (cur : Array Value) (t : TypeId) (cs : List Value)
    (hu : P.underlying dT = some (.slice elem)) (hs : (P.info? elem).map (·.size) = some z) (hg : w.heap[g]? = some (.cells cur t (0, 0))) (hn : Nat.min sLen dLen * z = cs.length) (hA : A = none → cs = [])
    (hsrc : ∀ a, A = some a → ∀ (j : Nat) v, cs[j]? = some v → w.cell? (a.add j) = some v) (hfit : f + cs.length ≤ cur.size) (h1 : ∀ v ∈ cs, v.oneCell' = true) :
    (Builtin.copy_ #[dT, sT] ty #[.slice (some ⟨g, f, none⟩) dLen dCap, .slice A sLen sCap]).run P w = .ok (goInt (Nat.min sLen dLen)) (w.setRow g (cur.toList.take f ++ cs ++ cur.toList.drop (f + cs.length)).toArray) := by
  cases hq : P.info? elem with
  | none => simp [hq] at hs
  | some i =>
    have hi : i.size = z := by simpa [hq] using hs
    cases A with
    | none =>
      obtain rfl := hA rfl
      have e : w.setRow g (cur.toList.take f ++ ([] : List Value) ++ cur.toList.drop (f + ([] : List Value).length)).toArray = w := by
        simp only [List.append_nil, List.length_nil, Nat.add_zero, List.take_append_drop, Array.toArray_toList]
        exact setRow_self w g cur t (0, 0) hg
      rw [e]
      simp [Builtin.copy_, run_underlying hu, Builtin.lenOf, Builtin.firstCells, sizeOf, typeInfo, hq, storeCells]
    | some a =>
      have hl := run_loadCells_list (P := P) w a cs (hsrc a rfl)
      have hst := run_storeCells_at P g f t cs 0 cur w hg (by simpa using hfit) h1
      simp only [Nat.add_zero] at hst
      simp [Builtin.copy_, run_underlying hu, Builtin.lenOf, Builtin.firstCells, sizeOf, typeInfo, hq, hi, hn, hl, hst]
theorem copy_wp {P : Program} {ops : Array Oper} {rest : List Oper} {o : Oper} {a : Act} {Q : Exit → Act → World → Prop} {W W' : World} (hg : o.guard = none) (dO sO : Operand) (dT sT : TypeId)
    (ho : o.op = .call { callee := .builtin .copy, args := #[dO, sO], argTypes := #[dT, sT] }) {vd vs v : Value} (hd : a.eval dO = vd) (hs : a.eval sO = vs) (hrun : ∀ ty, (Builtin.copy_ #[dT, sT] ty #[vd, vs]).run P W = .ok v W')
    (h : wpList P ops Q rest (a.put o.dst v) W') : wpList P ops Q (o :: rest) a W := by
  refine wpList_plain hg fun K' hK' => ?_
  unfold Oper.wp
  simp [execOp, ho, resolve, invoke, builtin, hd, hs, hrun, Result.andThen]
  exact hK' _ _ h
theorem raw_get {w : World} {v : Value} {A : Option Addr} {n c : Nat} {es : List (Value × List Int)} {F : Nat → Prop} (h : Nw (Kd.raw 1) 22 (.slice A n c) (rowsOf es) w F) : n = es.length ∧ n ≤ c ∧ ∀ j e, es[j]? = some e → ∃ ad, A = some ad ∧ w.cell? (ad.add j) = some e.1 ∧ e.1.oneCell' = true := by
  obtain ⟨h1, h2, hC⟩ := Kd.N_reads' h
  have hl : (rowsOf es).length = es.length := by simp [rowsOf]
  refine ⟨by rw [h1, hl], h2, fun j e he => ?_⟩
  have hj : j < es.length := (List.getElem?_eq_some_iff.1 he).1
  obtain ⟨ad, hA, hr⟩ := hC.2.2 (by rw [hl]; omega)
  obtain ⟨c1, hcl, hK, hcell⟩ := hr j [e.1] (by simp [rowsOf, he])
  have hK' : c1 = [e.1] := hK.1
  subst hK'
  have := hcell 0 e.1 rfl
  rw [show j * (Kd.raw 1).sz + 0 = j by show j * 1 + 0 = j; omega] at this
  exact ⟨ad, hA, this, hK.2.2 _ (List.mem_singleton.2 rfl)⟩
/-- The old row's values are copied but for one. -/
theorem St.setRow {W w : World} {F0 : Nat → Prop} {l : List Part} {g : Nat} {cs cs' : Array Value} {t : TypeId} (h : St W F0 w (Pt g cs t :: l)) : St W F0 (w.setRow g cs') (Pt g cs' t :: l) := by
  obtain ⟨F, hA, hF, hu⟩ := h.upd
  refine hu _ _ F ⟨rfl, rfl, rfl, by simp [World.setRow], fun k hk hn => ?_⟩ (fun k hk => .inl hk) Pt.loc ⟨hA.1, setRow_heap w g cs cs' t (0, 0) hA.2⟩
  have : k ≠ g := fun e => hn (e ▸ hA.1)
  simp [World.setRow, Array.getElem?_modify, Ne.symm this]
set_option maxHeartbeats 8000000 in
set_option maxRecDepth 100000 in
theorem net_take1 (h : NetP g N B C w F) (ha : WI a) (hb : WI b) (m : Nat) (hB : (B (kl a b)).length = m + 1) (hm : m < 1000000) (k : Int) (hk : WI k) (hN : N < 1000000) :
    Calls Try.prog 15 #[.pointer (some ⟨g, 0, none⟩), .int .i64 a, .int .i64 b, .int .i64 k] w fun e w' => ∃ u, e = .returned (.tuple #[u, .bool true]) ∧ St w F w' [NetP g (N + 1) (updL B (kl a b) ((B (kl a b)).eraseIdx (placeI k (m + 1 : Nat)).toNat)) C, SlP u ((B (kl a b)).getD (placeI k (m + 1 : Nat)).toNat [])] := by
  have S0 := St.start1 NetP.loc h
  have HA := Aside0.mk (And.intro ha hb)
  have HL := Aside0.mk hB
  have HK := Aside0.mk hk
  have HN := Aside0.mk hN
  obtain ⟨hp0, hp1⟩ := placeI_lt (which := k) (show (0 : Int) < (m + 1 : Nat) by omega)
  obtain ⟨p, hp⟩ : ∃ p, placeI k (m + 1 : Nat) = p := ⟨_, rfl⟩
  have HP := Aside0.mk hp
  rw [hp] at hp0 hp1 ⊢
  obtain ⟨i, rfl⟩ := Int.eq_ofNat_of_zero_le hp0
  rw [Int.toNat_natCast]
  have hi : i < m + 1 := by omega
  have HI := Aside0.mk hi
  have HM := Aside0.mk hm
  obtain ⟨ys, hys⟩ : ∃ ys, B (kl a b) = ys := ⟨_, rfl⟩
  have HYS := Aside0.mk hys
  rw [hys]
  clear h ha hb hB hk hp hm hN hys hi
  go_enter Try.func15, Try.ntmps15
  go_wp2_with (go_at_call 52; have S1 := S0.alloc (cs := #[.int .i64 a, .int .i64 b]) (t := 102); clear S0; obtain ⟨F1, h1⟩ := S1.get 1 rfl; refine (net_place1 h1 HA.out.1 HA.out.2 (m + 1) HL.out (Nat.succ_pos _) (by have := HM.out; omega) k HK.out).mono ?_; rw [HP.out]; rintro e w1 ⟨rfl, hb1⟩; have S2 := S1.call hb1; clear hb1 h1 S1; obtain ⟨m1, m2, S3⟩ := (S2.front 1 rfl).netOpen; clear S2; obtain ⟨A, c, hl, hcl, _, S4⟩ := (S3.front 1 rfl).bagOut HA.out.1 HA.out.2; rw [HL.out] at hl hcl S4; rw [HYS.out] at S4; obtain ⟨es, hes, S5⟩ := (S4.front 1 rfl).rowOpen; have HES := Aside0.mk hes; have n0 : w1.cell? ⟨g, 0, none⟩ = some (.map (some m1)) := (blk_cell (S3.blk 0 rfl) 0).trans rfl; have fn0 : w1.frozen? ⟨g, 0, none⟩ = false := blk_frozen (S3.blk 0 rfl) 0; have n1 : w1.cell? ⟨g, 1, none⟩ = some (.map (some m2)) := (blk_cell (S3.blk 0 rfl) 1).trans rfl; have fn1 : w1.frozen? ⟨g, 1, none⟩ = false := blk_frozen (S3.blk 0 rfl) 1; have q0 : w1.cell? ⟨w.heap.size, 0, none⟩ = some (.int .i64 a) := (blk_cell (S3.blk 3 rfl) 0).trans rfl; have fq0 : w1.frozen? ⟨w.heap.size, 0, none⟩ = false := blk_frozen (S3.blk 3 rfl) 0; have q1 : w1.cell? ⟨w.heap.size, 1, none⟩ = some (.int .i64 b) := (blk_cell (S3.blk 3 rfl) 1).trans rfl; have fq1 : w1.frozen? ⟨w.heap.size, 1, none⟩ = false := blk_frozen (S3.blk 3 rfl) 1; have HS5 := Aside0.mk S5; have HCL := Aside0.mk hcl; clear S3 S4 S5 hes hcl)
  go_quiet (fail)
  clear hl n0 n1 fn0 fn1 q0 q1 fq0 fq1
  obtain ⟨w2, hw2⟩ : ∃ w2, w2 = w1.drewN nq := ⟨_, rfl⟩
  rw [← hw2]
  have S6 : St w F w2 (Nw (Kd.raw 1) 22 (.slice A (m + 1) c) (rowsOf es) :: ([BagY m1 N (kl a b) B, Pt g #[.map (some m1), .map (some m2)] 55, CutP m2 N C, Pt w.heap.size #[.int .i64 a, .int .i64 b] 102] ++ elsP es)) := by rw [hw2]; exact HS5.out.drew _
  obtain ⟨F6, hF6⟩ := S6.get 0 rfl
  obtain ⟨hlen, hmc, hcell⟩ := raw_get (v := .bool true) hF6
  have hei : i < es.length := by have := HI.out; omega
  obtain ⟨e, he⟩ : ∃ e, es[i]? = some e := ⟨_, List.getElem?_eq_getElem hei⟩
  obtain ⟨ad, rfl, hci, _⟩ := hcell i e he
  obtain ⟨u, x⟩ := e
  have HCE := Aside0.mk hcell
  have HEI := Aside0.mk he
  have HS6 := Aside0.mk S6
  have HLE := Aside0.mk hlen
  obtain ⟨A5, c5, hu5, hx5, hf5⟩ : ∃ A5 c5, u = .slice A5 x.length c5 ∧ x.length ≤ c5 ∧ True := by
    obtain ⟨F7, A5, c5, q1, q2, _⟩ := (S6.rot_).get i (by simpa [List.getElem?_append_left, elsP, hei] using elsP_get he)
    exact ⟨A5, c5, q1, q2, trivial⟩
  have n0 : w2.cell? ⟨g, 0, none⟩ = some (.map (some m1)) := (blk_cell (S6.blk 2 rfl) 0).trans rfl; have fn0 : w2.frozen? ⟨g, 0, none⟩ = false := blk_frozen (S6.blk 2 rfl) 0; have n1 : w2.cell? ⟨g, 1, none⟩ = some (.map (some m2)) := (blk_cell (S6.blk 2 rfl) 1).trans rfl; have fn1 : w2.frozen? ⟨g, 1, none⟩ = false := blk_frozen (S6.blk 2 rfl) 1; have q0 : w2.cell? ⟨w.heap.size, 0, none⟩ = some (.int .i64 a) := (blk_cell (S6.blk 4 rfl) 0).trans rfl; have fq0 : w2.frozen? ⟨w.heap.size, 0, none⟩ = false := blk_frozen (S6.blk 4 rfl) 0; have q1 : w2.cell? ⟨w.heap.size, 1, none⟩ = some (.int .i64 b) := (blk_cell (S6.blk 4 rfl) 1).trans rfl; have fq1 : w2.frozen? ⟨w.heap.size, 1, none⟩ = false := blk_frozen (S6.blk 4 rfl) 1
  clear hF6 hw2 HS5 hcell hlen hei he S6
  obtain ⟨Z, hZ⟩ : ∃ Z, Z = madeCells nilv.cells ((m : Int).toNat * 1) := ⟨_, rfl⟩
  have hZs : Z.size = m := by rw [hZ]; simp [madeCells]
  have hwm : wrap64 (m : Int) = m := by have := HM.out; unfold wrap64; omega
  have hw1 : IntKind.i64.wrap ((i : Int) + 1) = i + 1 := by rw [IntKind.wrap_i64]; have := HM.out; have := HI.out; omega
  have hw1' : wrap64 ((i : Int) + 1) = i + 1 := by unfold wrap64; have := HM.out; have := HI.out; omega
  have hmk : (Instr.makeSlice 103 (.int .i64 (m : Int)) (.int .i64 (m : Int))).run Try.prog w2 = .ok (.slice (some ⟨w2.heap.size, 0, none⟩) m m) (w2.alloc (.cells Z 22)) := by
    obtain ⟨i0, hi0, hz0, hz1, hz2⟩ := info_parts netInfo22
    have := run_make (P := Try.prog) w2 103 22 i0 nilv Try.underlying103 hi0 hz0 .i64 .i64 (m : Int) (m : Int) (by omega) (Int.le_refl _) (by rw [hz2]; have := HM.out; omega) (by have := HM.out; omega)
    rw [hz1, ← hZ] at this
    simpa using this
  have hsl1 : ∀ W : World, (Instr.slice 103 (.slice (some ad) (m + 1) c) none (some (.int .i64 (i : Int))) none).run Try.prog W = .ok (.slice (some ad) i c) W := fun W => by
    rw [cut_h' 103 22 .i64 1 Try.underlying103 (by kernel_rfl) (some ad) (m + 1) c i (by omega) (by have := HI.out; have := HCL.out; omega) W, Int.toNat_natCast]
  obtain ⟨d, hd⟩ : ∃ d, d = m - i := ⟨_, rfl⟩
  obtain ⟨f, hf⟩ : ∃ f, f = if m = i then 0 else i := ⟨_, rfl⟩
  have hsl2 : ∀ W : World, (Instr.slice 103 (.slice (some ⟨w2.heap.size, 0, none⟩) m m) (some (.int .i64 (i : Int))) none none).run Try.prog W = .ok (.slice (some ⟨w2.heap.size, f, none⟩) d d) W := fun W => by
    rw [cut_l' 103 22 .i64 1 Try.underlying103 (by kernel_rfl) (some ⟨w2.heap.size, 0, none⟩) m m i (by omega) (by have := HI.out; omega) W, Int.toNat_natCast, hd, hf]
    by_cases q : m = i
    · rw [if_pos q, if_pos q]
    · rw [if_neg q, if_neg q]; simp [Addr.add]; try omega
  obtain ⟨ad', had⟩ : ∃ ad', ad' = if c = i + 1 then ad else ad.add (i + 1) := ⟨_, rfl⟩
  obtain ⟨c', hc'⟩ : ∃ c', c' = c - (i + 1) := ⟨_, rfl⟩
  have hsl3 : ∀ W : World, (Instr.slice 103 (.slice (some ad) (m + 1) c) (some (.int .i64 ((i : Int) + 1))) none none).run Try.prog W = .ok (.slice (some ad') d c') W := fun W => by
    rw [cut_l' 103 22 .i64 1 Try.underlying103 (by kernel_rfl) (some ad) (m + 1) c ((i : Int) + 1) (by omega) (by have := HI.out; omega) W, had, hc', hd]
    have e1 : ((i : Int) + 1).toNat = i + 1 := by omega
    rw [e1, show m + 1 - (i + 1) = m - i by omega]
    by_cases q : c = i + 1
    · rw [if_pos q, if_pos q]
    · rw [if_neg q, if_neg q]; simp
  obtain ⟨vs, hvs⟩ : ∃ vs, vs = es.map Prod.fst := ⟨_, rfl⟩
  have hvl : vs.length = m + 1 := by rw [hvs, List.length_map, ← HLE.out]
  have hvc : ∀ (j : Nat) v, vs[j]? = some v → w2.cell? (ad.add j) = some v ∧ v.oneCell' = true := fun j v hj => by
    rw [hvs, List.getElem?_map] at hj
    obtain ⟨e, he, rfl⟩ := Option.map_eq_some_iff.1 hj
    obtain ⟨ad2, q1, q2, q3⟩ := HCE.out j e he
    injection q1 with q1
    exact ⟨q1 ▸ q2, q3⟩
  have S7 := HS6.out.alloc (cs := Z) (t := 22)
  obtain ⟨Z1, hZ1⟩ : ∃ Z1, Z1 = (Z.toList.take 0 ++ vs.take i ++ Z.toList.drop (0 + (vs.take i).length)).toArray := ⟨_, rfl⟩
  obtain ⟨w4, hw4⟩ : ∃ w4, w4 = (w2.alloc (.cells Z 22)).setRow w2.heap.size Z1 := ⟨_, rfl⟩
  have hcell3 : ∀ (j : Nat) v, vs[j]? = some v → (w2.alloc (.cells Z 22)).cell? (ad.add j) = some v := fun j v hj => (World.cell?_alloc_lt _ _ _ (World.block_lt_of_cell? w2 _ (hvc j v hj).1)).trans (hvc j v hj).1
  have hti : (vs.take i).length = i := by rw [List.length_take]; have := HI.out; omega
  have hcp1 : ∀ ty, (Builtin.copy_ #[103, 103] ty #[.slice (some ⟨w2.heap.size, 0, none⟩) m m, .slice (some ad) i c]).run Try.prog (w2.alloc (.cells Z 22)) = .ok (goInt (Nat.min i m)) w4 := fun ty => by
    rw [hw4, hZ1]
    refine run_copy_off _ _ _ _ 22 1 w2.heap.size 0 m m (some ad) i c Z 22 (vs.take i) Try.underlying103 (by kernel_rfl) (S7.blk 0 rfl) ?_ (fun q => by cases q) (fun a2 q j v hj => ?_) ?_ (fun v hv => ?_)
    · rw [hti, Nat.mul_one]; exact Nat.min_eq_left (by have := HI.out; omega)
    · cases q
      rw [List.getElem?_take] at hj
      split at hj
      · exact hcell3 j v hj
      · cases hj
    · rw [hti, hZs]; have := HI.out; omega
    · obtain ⟨j, hj⟩ := List.getElem?_of_mem (List.mem_of_mem_take hv)
      exact (hvc j v hj).2
  have S8 : St w F w4 (Pt w2.heap.size Z1 22 :: (Nw (Kd.raw 1) 22 (.slice (some ad) (m + 1) c) (rowsOf es) :: ([BagY m1 N (kl a b) B, Pt g #[.map (some m1), .map (some m2)] 55, CutP m2 N C, Pt w.heap.size #[.int .i64 a, .int .i64 b] 102] ++ elsP es))) := by rw [hw4]; exact S7.setRow (cs' := Z1)
  have hz1l : Z1.toList = vs.take i ++ Z.toList.drop i := by rw [hZ1]; simp [hti]
  have hz1s : Z1.size = m := by
    have : Z1.toList.length = m := by rw [hz1l]; simp [hti, hZs]; have := HI.out; omega
    simpa using this
  obtain ⟨Z2, hZ2⟩ : ∃ Z2, Z2 = (Z1.toList.take f ++ vs.drop (i + 1) ++ Z1.toList.drop (f + (vs.drop (i + 1)).length)).toArray := ⟨_, rfl⟩
  obtain ⟨w5, hw5⟩ : ∃ w5, w5 = w4.drew.setRow w2.heap.size Z2 := ⟨_, rfl⟩
  have htd : (vs.drop (i + 1)).length = d := by rw [List.length_drop, hvl, hd]; omega
  have hfd : f + d ≤ m := by rw [hf, hd]; by_cases q : m = i; · rw [if_pos q]; omega
                             · rw [if_neg q]; have := HI.out; omega
  have hcell4 : ∀ (j : Nat) v, vs[j]? = some v → w4.drew.cell? (ad.add j) = some v := fun j v hj => by
    have hlt := World.block_lt_of_cell? w2 _ (hvc j v hj).1
    have hlt2 : (ad.add j).block < (w2.alloc (.cells Z 22)).heap.size := by rw [World.size_alloc]; omega
    have hb : w4.drew.heap[(ad.add j).block]? = (w2.alloc (.cells Z 22)).heap[(ad.add j).block]? := by
      show w4.heap[(ad.add j).block]? = _
      rw [hw4]
      have : w2.heap.size ≠ (ad.add j).block := by omega
      simp [World.setRow, Array.getElem?_modify, this]
    exact (World.cell?_of_block (a := ad.add j) hb).trans (hcell3 j v hj)
  have hcp2 : ∀ ty, (Builtin.copy_ #[103, 103] ty #[.slice (some ⟨w2.heap.size, f, none⟩) d d, .slice (some ad') d c']).run Try.prog w4.drew = .ok (goInt (Nat.min d d)) w5 := fun ty => by
    rw [hw5, hZ2]
    refine run_copy_off _ _ _ _ 22 1 w2.heap.size f d d (some ad') d c' Z1 22 (vs.drop (i + 1)) Try.underlying103 (by kernel_rfl) (S8.drew1.blk 0 rfl) ?_ (fun q => by cases q) (fun a2 q j v hj => ?_) ?_ (fun v hv => ?_)
    · rw [htd, Nat.mul_one]; exact Nat.min_self _
    · cases q
      rw [List.getElem?_drop] at hj
      have hlt : i + 1 + j < m + 1 := by rw [← hvl]; exact (List.getElem?_eq_some_iff.1 hj).1
      have hne : ¬ c = i + 1 := by have := HCL.out; omega
      rw [had, if_neg hne]
      have e1 : (ad.add (i + 1)).add j = ad.add (i + 1 + j) := by simp [Addr.add, Nat.add_assoc]
      rw [e1]
      exact hcell4 _ _ hj
    · rw [htd, hz1s]; exact hfd
    · obtain ⟨j, hj⟩ := List.getElem?_of_mem (List.mem_of_mem_drop hv)
      exact (hvc j v hj).2
  have hz2 : Z2 = ((es.eraseIdx i).map Prod.fst).toArray := by
    rw [hZ2, ← eraseIdx_map', ← hvs, List.eraseIdx_eq_take_drop_succ]
    congr 1
    rw [htd, hz1l]
    have h1 : (vs.take i ++ Z.toList.drop i).length = m := by rw [← hz1l]; simpa using hz1s
    by_cases q : m = i
    · have hd0 : d = 0 := by omega
      have hdr : vs.drop (i + 1) = [] := List.eq_nil_of_length_eq_zero (by rw [htd, hd0])
      rw [hf, if_pos q, hd0, hdr]
      have : Z.toList.drop i = [] := List.drop_eq_nil_of_le (by simp [hZs]; omega)
      simp [this]
    · have hdr2 : (vs.take i ++ Z.toList.drop i).drop (i + d) = [] := List.drop_eq_nil_of_le (by rw [h1, hd]; have := HI.out; omega)
      rw [hf, if_neg q, hdr2, List.take_append_of_le_length (by rw [hti]; omega), List.take_of_length_le (by rw [hti]; omega)]
      simp
  have S9 : St w F w5 (Pt w2.heap.size ((es.eraseIdx i).map Prod.fst).toArray 22 :: (Nw (Kd.raw 1) 22 (.slice (some ad) (m + 1) c) (rowsOf es) :: ([BagY m1 N (kl a b) B, Pt g #[.map (some m1), .map (some m2)] 55, CutP m2 N C, Pt w.heap.size #[.int .i64 a, .int .i64 b] 102] ++ elsP es))) := by rw [hw5, ← hz2]; exact S8.drew1.setRow
  have S10 := ((St.elsOut (l := [_, _, _, _, _, _]) S9 HEI.out).front 2 rfl).drop
  have hel : (es.eraseIdx i).length = m := by rw [List.length_eraseIdx, if_pos (by rw [← HLE.out]; exact HI.out), ← HLE.out]; omega
  have S11 := St.ptRow (l := [_, _, _, _, _]) (S10.front 1 rfl) hel (by have := HM.out; omega) (fun e he => by
    obtain ⟨j, hj⟩ := List.getElem?_of_mem (List.mem_of_mem_eraseIdx he)
    obtain ⟨_, _, _, q3⟩ := HCE.out j e hj
    exact q3)
  rw [← eraseIdx_map', ← HES.out] at S11
  have HS11 := Aside0.mk (S11.front 2 rfl)
  have hx1 : x = ys.getD i [] := by rw [HES.out, List.getD_eq_getElem?_getD, List.getElem?_map, HEI.out]; rfl
  have HX1 := Aside0.mk hx1
  have HCP1 := Aside0.mk hcp1
  have HCP2 := Aside0.mk hcp2
  have hwg5 : w5.heap[g]? = some (.cells #[.map (some m1), .map (some m2)] 55 (0, 0)) := S11.blk 3 rfl
  have hwq5 : w5.heap[w.heap.size]? = some (.cells #[.int .i64 a, .int .i64 b] 102 (0, 0)) := S11.blk 5 rfl
  have HW4 := Aside0.mk hw4
  have HW5 := Aside0.mk hw5
  clear hcp1 hcp2 S7 S8 S9 S10 S11 hZ hZ1 hZ2 hd hf had hc' hvs hw4 hw5 hvl hvc hcell3 hti hcell4 hz1l hz1s hz2 htd hfd hx1 hel hZs
  by_cases hm0 : m = 0
  · have hmz : ((m : Int) == 0) = true := by rw [hm0]; rfl
    have hdel : ∀ ty, ∃ w6, (Builtin.delete_ #[52, 102] ty #[.map (some m1), .agg #[.int .i64 a, .int .i64 b]]).run Try.prog w5.drew = .ok (.tuple #[]) w6 ∧ St w F w6 [BagP m1 N (updL B (kl a b) []), SlP u x, Pt g #[.map (some m1), .map (some m2)] 55, CutP m2 N C] := fun ty => by
      obtain ⟨w6, h1, _, S12⟩ := ((HS11.out.drew1.front 1 rfl).drop).bagDelY HA.out.1 HA.out.2 ty
      exact ⟨w6, h1, S12.take 4⟩
    obtain ⟨w6, hd1, S12⟩ := hdel 0
    have HS12 := Aside0.mk S12
    have hnil : ys.eraseIdx i = [] := List.eq_nil_of_length_eq_zero (by have h1 := HL.out; rw [HYS.out] at h1; rw [List.length_eraseIdx, if_pos (by have := HI.out; omega)]; omega)
    have HNIL := Aside0.mk hnil
    clear hdel S12 hnil hm0
    go_wp2_with ((with_reducible refine gate_builtin (b := .copy) rfl ?_); refine copy_wp rfl (.tmp 42) (.tmp 45) 103 103 rfl rfl rfl HCP1.out ?_)
    have y0 : w5.cell? ⟨g, 0, none⟩ = some (.map (some m1)) := (blk_cell hwg5 0).trans rfl
    have fy0 := blk_frozen hwg5 0
    have z0 : w5.cell? ⟨w.heap.size, 0, none⟩ = some (.int .i64 a) := (blk_cell hwq5 0).trans rfl
    have z1 : w5.cell? ⟨w.heap.size, 1, none⟩ = some (.int .i64 b) := (blk_cell hwq5 1).trans rfl
    have fz0 := blk_frozen hwq5 0
    have fz1 := blk_frozen hwq5 1
    go_still_tail 7, (by kernel_rfl)
    change wpList _ _ _ _ _ w4.drew
    go_wp2_with ((with_reducible refine gate_builtin (b := .copy) rfl ?_); refine copy_wp rfl (.tmp 49) (.tmp 53) 103 103 rfl rfl rfl HCP2.out ?_)
    go_still_tail 5, (by kernel_rfl)
    change wpList _ _ _ _ _ w5.drew
    go_wp2
    go_ret2
    refine ⟨.slice A5 x.length c5, rfl, ?_⟩
    rw [← HX1.out, ← hu5, HNIL.out]
    exact (St.netShut (((HS12.out.front 3 rfl).front 1 rfl).front 3 rfl) (Nat.le_succ _) (Nat.le_succ _)).take 2
  · have hmz : ((m : Int) == 0) = false := by rw [beq_eq_false_iff_ne]; omega
    have hml : m ≠ 0 := hm0
    obtain ⟨w6, hmu, _, S12⟩ := (HS11.out.drew1).bagPut (by have := HN.out; unfold maxLen; omega) HA.out.1 HA.out.2
    have hmu' : (Instr.mapUpdate 52 (.map (some m1)) (.agg #[.int .i64 a, .int .i64 b]) (.slice (some ⟨w2.heap.size, 0, none⟩) m m)).run Try.prog w5.drew = .ok () w6 := hmu
    have HS12 := Aside0.mk S12
    clear hmu S12 hm0
    go_wp2_with ((with_reducible refine gate_builtin (b := .copy) rfl ?_); refine copy_wp rfl (.tmp 42) (.tmp 45) 103 103 rfl rfl rfl HCP1.out ?_)
    have y0 : w5.cell? ⟨g, 0, none⟩ = some (.map (some m1)) := (blk_cell hwg5 0).trans rfl
    have fy0 := blk_frozen hwg5 0
    have z0 : w5.cell? ⟨w.heap.size, 0, none⟩ = some (.int .i64 a) := (blk_cell hwq5 0).trans rfl
    have z1 : w5.cell? ⟨w.heap.size, 1, none⟩ = some (.int .i64 b) := (blk_cell hwq5 1).trans rfl
    have fz0 := blk_frozen hwq5 0
    have fz1 := blk_frozen hwq5 1
    go_still_tail 7, (by kernel_rfl)
    change wpList _ _ _ _ _ w4.drew
    go_wp2_with ((with_reducible refine gate_builtin (b := .copy) rfl ?_); refine copy_wp rfl (.tmp 49) (.tmp 53) 103 103 rfl rfl rfl HCP2.out ?_)
    go_still_tail 6, (by kernel_rfl)
    change wpList _ _ _ _ _ w5.drew
    go_wp2
    go_ret2
    refine ⟨.slice A5 x.length c5, rfl, ?_⟩
    rw [← HX1.out, ← hu5]
    exact (St.netShut (((HS12.out.front 3 rfl).front 1 rfl).front 3 rfl) (Nat.le_refl _) (Nat.le_succ _)).take 2
end
section
variable {w : World} {F : Nat → Prop} {g N : Nat} {B : Lit → List (List Int)} {C : Lit → Bool} {a b : Int}
set_option maxHeartbeats 8000000 in
set_option maxRecDepth 100000 in
theorem net_cut_err (h : NetP g N B C w F) (hi : isB a b = false) (c : Bool) :
    Calls Try.prog 23 #[.pointer (some ⟨g, 0, none⟩), .int .i64 a, .int .i64 b, .bool c] w fun e w' => e = .returned (.int .i64 2) ∧ Below w.heap.size w w' := by
  obtain ⟨m1, m2, S1⟩ := ((St.start1 NetP.loc h).alloc (cs := #[.int .i64 a, .int .i64 b]) (t := 102)).perm2.netOpen
  have HB0 := Aside0.mk (S1.blk 0 rfl)
  have HI := Aside0.mk hi
  clear S1 h hi
  go_enter Try.func23, Try.ntmps23
  go_wp2_with (first | (go_at_call 49; refine (net_none _ g m1 _ HB0.out).mono ?_; rintro e w1 ⟨rfl, rfl⟩) | (go_at_call 50; refine (net_is _ a b).mono ?_; rw [HI.out]; rintro e w1 ⟨rfl, hb1⟩; have HB1 := Aside0.mk (below_step (below_alloc (Below.refl _ _) _) hb1); clear hb1))
  go_ret
  exact ⟨rfl, HB1.out⟩
set_option maxHeartbeats 8000000 in
set_option maxRecDepth 100000 in
theorem net_cut_ok (h : NetP g N B C w F) (hi : isB a b = true) (hN : N < 1000000) (c : Bool) :
    Calls Try.prog 23 #[.pointer (some ⟨g, 0, none⟩), .int .i64 a, .int .i64 b, .bool c] w fun e w' => e = .returned (.int .i64 0) ∧ St w F w' [NetP g (N + 1) B (updL C (kl a b) c)] := by
  obtain ⟨m1, m2, S1⟩ := ((St.start1 NetP.loc h).alloc (cs := #[.int .i64 a, .int .i64 b]) (t := 102)).perm2.netOpen
  have HB0 := Aside0.mk (S1.blk 0 rfl)
  have HI := Aside0.mk hi
  have HA := Aside0.mk (isB_WI hi)
  have HN := Aside0.mk hN
  clear h hi hN
  go_enter Try.func23, Try.ntmps23
  go_wp2_with (first | (go_at_call 49; refine (net_none _ g m1 _ HB0.out).mono ?_; rintro e w1 ⟨rfl, rfl⟩) | (go_at_call 50; refine (net_is _ a b).mono ?_; rw [HI.out]; rintro e w1 ⟨rfl, hb1⟩; have S2 := S1.call hb1; have z0 : w1.cell? ⟨g, 0, none⟩ = some (.map (some m1)) := (blk_cell (S2.blk 0 rfl) 0).trans rfl; have fz0 : w1.frozen? ⟨g, 0, none⟩ = false := blk_frozen (S2.blk 0 rfl) 0; have z1 : w1.cell? ⟨g, 1, none⟩ = some (.map (some m2)) := (blk_cell (S2.blk 0 rfl) 1).trans rfl; have fz1 : w1.frozen? ⟨g, 1, none⟩ = false := blk_frozen (S2.blk 0 rfl) 1; have q0 : w1.cell? ⟨w.heap.size, 0, none⟩ = some (.int .i64 a) := (blk_cell (S2.blk 3 rfl) 0).trans rfl; have fq0 : w1.frozen? ⟨w.heap.size, 0, none⟩ = false := blk_frozen (S2.blk 3 rfl) 0; have q1 : w1.cell? ⟨w.heap.size, 1, none⟩ = some (.int .i64 b) := (blk_cell (S2.blk 3 rfl) 1).trans rfl; have fq1 : w1.frozen? ⟨w.heap.size, 1, none⟩ = false := blk_frozen (S2.blk 3 rfl) 1; obtain ⟨w2, hmu, _, S3⟩ := (S2.drew1.front 2 rfl).cutPut (by have := HN.out; unfold maxLen; omega) HA.out.1 HA.out.2 c; have hmu' : (Instr.mapUpdate 53 (.map (some m2)) (.agg #[.int .i64 a, .int .i64 b]) (.bool c)).run Try.prog w1.drew = .ok () w2 := hmu; have HS3 := Aside0.mk S3; clear hmu hb1 S1 S2 S3))
  go_still_tail 6, (by kernel_rfl)
  change wpList _ _ _ _ _ w1.drew
  go_wp2
  go_ret
  exact ⟨rfl, (St.netShut ((HS3.out.front 2 rfl).front 2 rfl) (Nat.le_succ _) (Nat.le_refl _)).take 1⟩
noncomputable def loseB (B : Lit → List (List Int)) (b : Int) : Nat → Lit → List (List Int)
  | 0 => B
  | k + 1 => updL (loseB B b k) (kl (k : Int) b) []
noncomputable def loseS (B : Lit → List (List Int)) (b : Int) : Nat → Nat
  | 0 => 0
  | k + 1 => loseS B b k + (loseB B b k (kl (k : Int) b)).length
theorem loseB_le (B : Lit → List (List Int)) (b : Int) (k : Nat) (l : Lit) : (loseB B b k l).length ≤ (B l).length := by
  induction k with
  | zero => exact Nat.le_refl _
  | succ k ih =>
    unfold loseB
    by_cases c : l = kl (k : Int) b
    · rw [c, updL_same]; exact Nat.zero_le _
    · rw [updL_ne _ _ c]; exact ih
theorem loseS_le (B : Lit → List (List Int)) (b : Int) (hB : ∀ l, (B l).length ≤ 1000000) (k : Nat) : loseS B b k ≤ k * 1000000 := by
  induction k with
  | zero => exact Nat.le_refl _
  | succ k ih =>
    have h1 := Nat.le_trans (loseB_le B b k (kl (k : Int) b)) (hB _)
    have e : loseS B b (k + 1) = loseS B b k + (loseB B b k (kl (k : Int) b)).length := rfl
    omega
theorem WI_small {i : Int} (h0 : 0 ≤ i) (h1 : i < 1000000) : WI i := by
  show (Lit.int .i64 i).wf = true
  simp [Lit.wf, IntKind.min, IntKind.max, IntKind.signed, IntKind.bits]; omega
set_option maxHeartbeats 8000000 in
set_option maxRecDepth 100000 in
theorem net_lose (h : NetP g N B C w F) (hb : WI b) (hB : ∀ l, (B l).length ≤ 1000000) :
    Calls Try.prog 17 #[.pointer (some ⟨g, 0, none⟩), .int .i64 b] w fun e w' => e = .returned (.int .i64 (loseS B b 16)) ∧ St w F w' [NetP g N (loseB B b 16) C] := by
  have S0 := St.start1 NetP.loc h
  obtain ⟨m1, m2, S1⟩ := S0.netOpen
  have HB0 := Aside0.mk (S1.blk 0 rfl)
  have HW := Aside0.mk hb
  have HBS := Aside0.mk hB
  have HS0 := Aside0.mk S0
  clear h S0 S1 hb hB
  go_enter Try.func17, Try.ntmps17
  go_wp2_with (go_at_call 49; refine (net_none _ g m1 _ HB0.out).mono ?_; rintro e w1 ⟨rfl, hw1⟩; obtain rfl : w = w1 := hw1.symm; clear hw1)
  go_loopg [4, 9] 16 (fun gk v4 v9 wr => ∃ k : Nat, k ≤ 16 ∧ k + gk = 16 ∧ v9 = .int .i64 (k : Int) ∧ v4 = .int .i64 (loseS B b k) ∧ Aside0 (St w F wr [NetP g N (loseB B b k) C]))
  case atStart => exact ⟨0, by omega, by omega, rfl, rfl, HS0⟩
  case round =>
    obtain ⟨k, hk, hkg, rfl, rfl, HS⟩ := hrel
    by_cases hlt : k < 16
    · have hlz : (k : Int) < 16 := by omega
      have HWK := Aside0.mk (WI_small (i := (k : Int)) (by omega) (by omega))
      obtain ⟨n1, n2, T1⟩ := ((HS.out.alloc (cs := #[.int .i64 (k : Int), .int .i64 b]) (t := 102)).front 1 rfl).netOpen
      obtain ⟨w3, hw3⟩ : ∃ w3, w3 = wr.alloc (.cells #[.int .i64 (k : Int), .int .i64 b] 102) := ⟨_, rfl⟩
      rw [← hw3] at T1
      obtain ⟨A, c, hl, _, _⟩ := T1.bagLookN 1 rfl HWK.out HW.out
      obtain ⟨s, hs⟩ : ∃ s : Nat, loseS B b k = s := ⟨_, rfl⟩
      obtain ⟨ln, hln⟩ : ∃ ln, (loseB B b k (kl (k : Int) b)).length = ln := ⟨_, rfl⟩
      have hs2 : loseS B b (k + 1) = s + ln := by rw [← hs, ← hln]; rfl
      have hsb := loseS_le B b HBS.out (k + 1)
      rw [hs2] at hsb
      have hww : wrap64 ((s : Int) + ln) = s + ln := by unfold wrap64; omega
      have hww2 : IntKind.i64.wrap ((s : Int) + ln) = s + ln := by rw [IntKind.wrap_i64]; omega
      have hwk : wrap64 ((k : Int) + 1) = k + 1 := by unfold wrap64; omega
      rw [hln] at hl
      have HS2 := Aside0.mk hs2
      have HT1 := Aside0.mk T1
      have hbG := T1.blk 0 rfl
      have hbQ := T1.blk 3 rfl
      rw [hs]
      have y0 : w3.cell? ⟨g, 0, none⟩ = some (.map (some n1)) := (blk_cell hbG 0).trans rfl
      have fy0 := blk_frozen hbG 0
      have z0 : w3.cell? ⟨wr.heap.size, 0, none⟩ = some (.int .i64 (k : Int)) := (blk_cell hbQ 0).trans rfl
      have z1 : w3.cell? ⟨wr.heap.size, 1, none⟩ = some (.int .i64 b) := (blk_cell hbQ 1).trans rfl
      have fz0 := blk_frozen hbQ 0
      have fz1 := blk_frozen hbQ 1
      clear hs hln hs2 hsb T1 hbG hbQ HS
      go_wp2_with fail
      rw [← hw3]
      clear hw3
      go_quiet (fail)
      go_wp2_with fail
      clear hl
      obtain ⟨w5, hw5⟩ : ∃ w5, w5 = w3.drewN nq := ⟨_, rfl⟩
      rw [← hw5]
      have T3 : St w F w5 (Pt g #[.map (some n1), .map (some n2)] 55 :: BagP n1 N (loseB B b k) :: CutP n2 N C :: [Pt wr.heap.size #[.int .i64 (k : Int), .int .i64 b] 102]) := by rw [hw5]; exact HT1.out.drew nq
      clear hw5 y0 fy0 z0 z1 fz0 fz1 HT1
      have y0 : w5.cell? ⟨g, 0, none⟩ = some (.map (some n1)) := (blk_cell (T3.blk 0 rfl) 0).trans rfl; have fy0 : w5.frozen? ⟨g, 0, none⟩ = false := blk_frozen (T3.blk 0 rfl) 0; have y1 : w5.cell? ⟨g, 1, none⟩ = some (.map (some n2)) := (blk_cell (T3.blk 0 rfl) 1).trans rfl; have fy1 : w5.frozen? ⟨g, 1, none⟩ = false := blk_frozen (T3.blk 0 rfl) 1
      have z0 : w5.cell? ⟨wr.heap.size, 0, none⟩ = some (.int .i64 (k : Int)) := (blk_cell (T3.blk 3 rfl) 0).trans rfl; have fz0 : w5.frozen? ⟨wr.heap.size, 0, none⟩ = false := blk_frozen (T3.blk 3 rfl) 0; have z1 : w5.cell? ⟨wr.heap.size, 1, none⟩ = some (.int .i64 b) := (blk_cell (T3.blk 3 rfl) 1).trans rfl; have fz1 : w5.frozen? ⟨wr.heap.size, 1, none⟩ = false := blk_frozen (T3.blk 3 rfl) 1
      obtain ⟨w4, hd1, _, T2⟩ := (T3.drew1.front 1 rfl).bagDel HWK.out HW.out 0
      have hd2 : (Builtin.delete_ #[52, 102] 0 #[.map (some n1), .agg #[.int .i64 (k : Int), .int .i64 b]]).run Try.prog w5.drew = .ok (.tuple #[]) w4 := hd1
      have HT2 := Aside0.mk T2
      clear hd1 T2 T3
      go_still_tail 5, (by kernel_rfl)
      change wpList _ _ _ _ _ w5.drew
      go_wp2
      go_roundg (gk - 1)
      case measure => omega
      case rel => exact ⟨k + 1, by omega, by omega, by first | rfl | go_num, by rw [HS2.out]; first | rfl | go_num, ⟨(St.netShut (HT2.out.front 1 rfl) (Nat.le_refl _) (Nat.le_refl _)).take 1⟩⟩
    · have hk16 : k = 16 := by omega
      subst hk16
      go_wp2
      go_ret
      exact ⟨rfl, HS.out⟩
end

-- NOT PRINTED: function 14 (net_Net_Peek)

-- NOT PRINTED: function 16 (net_Net_Double)

-- NOT PRINTED: function 22 (net_Net_Links)

-- NOT PRINTED: function 18 (net_Net_Total)

end Go.Proofs.Ythkhfhhbldjdlaa.Npl
