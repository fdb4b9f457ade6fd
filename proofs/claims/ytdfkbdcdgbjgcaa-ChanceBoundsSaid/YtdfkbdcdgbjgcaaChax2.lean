/- Printed by this session's wip/drive.py over the translation; some functions by hand. -/
import Derived.Test.YtdfkbdcdgbjgcaaChax0
import Derived.Test.YtdfkbdcdgbjgcaaChax1
namespace Go.Proofs.Ytdfkbdcdgbjgcaa.Cha
open Go.RowKit Go.Proofs.YtdfkbdcdgbjgcaaW.PrintWords Go.Proofs.YtdfkbdcdgbjgcaaW.PrintLast Go.Proofs.YtdfkbdcdgbjgcaaW.PrintMore
attribute [local go_sem] max2_int min2_int max_two min_two max_three min_three max_four min_four   -- for this text's walks alone
set_option linter.unusedVariables false
set_option linter.unusedSimpArgs false

/-! ### jobberref05_Source_Pick: function 25 (by hand) -/
def wtR (x : Int) : Int := if x ≥ 1 then IntKind.u64.wrap (mn x 1000) else 0
def cumStep (s : List Int × Int) (x : Int) : List Int × Int := (s.1 ++ [IntKind.u64.wrap (s.2 + wtR x)], IntKind.u64.wrap (s.2 + wtR x))
def cumS (ws : List Int) : List Int × Int := ws.foldl cumStep ([], 0)
def fsS (xs : List Int) (n : Int) : Nat → Int → Int
  | 0, _ => 0
  | k + 1, i => if rd xs i > n then i else fsS xs n k (wrap64 (i + 1))
def pickR (ws : List Int) (l : List Int) : Int × List Int := if (cumS ws).2 = 0 then (0, l) else (fsS (cumS ws).1 (belowR (cumS ws).2 l).1 (cumS ws).1.length 0, (belowR (cumS ws).2 l).2)
theorem cum_step {ws : List Int} {i : Int} (h0 : 0 ≤ i) (h1 : i < (ws.length : Int)) (s : List Int × Int) : (ws.take (i + 1).toNat).foldl cumStep s = cumStep ((ws.take i.toNat).foldl cumStep s) (rd ws i) := by
  have hl : i.toNat < ws.length := by omega
  rw [show (i + 1).toNat = i.toNat + 1 by omega, List.take_add_one, List.foldl_append, List.getElem?_eq_getElem hl]
  have e : rd ws i = ws[i.toNat] := by unfold rd; simp [hl]
  rw [e]; rfl
theorem cum_rng (ws : List Int) : 0 ≤ (cumS ws).2 ∧ (cumS ws).2 < 18446744073709551616 := by
  unfold cumS
  have : ∀ (ws : List Int) (s : List Int × Int), 0 ≤ s.2 ∧ s.2 < 18446744073709551616 → 0 ≤ (ws.foldl cumStep s).2 ∧ (ws.foldl cumStep s).2 < 18446744073709551616 := by
    intro ws
    induction ws with
    | nil => intro s h; exact h
    | cons x ws ih => intro s h; exact ih _ (u64_rng _)
  exact this ws ([], 0) (by simp)
set_option maxHeartbeats 4000000 in
set_option maxRecDepth 100000 in
theorem ref_pick (w0 W : World) (p : Option Addr) (l : List Int) (A : Option Addr) (c : Nat) (ws : List Int) (hw : Kd.C (Kd.int .i64) w0 A ws.length ws) (hwl : ws.length ≤ 1000000) (hs : Src 30 w0 W p l) (hpl : ∀ a, p = some a → a.block < W.heap.size) (hB : Below w0.heap.size w0 W) (hp : p ≠ none) :
    Calls Try.prog 25 #[.pointer p, .slice A ws.length c] W fun e w' => e = .returned (.int .i64 (pickR ws l).1) ∧ Src 30 w0 w' p (pickR ws l).2 ∧ Stp w0 p W w' := by
  have inf := Aside0.mk (show (Try.prog.info? 31).map (fun i => (i.zero, i.size, i.bytes)) = some (some (.int .u64 0), 1, 8) by kernel_rfl)
  have HWC := Aside0.mk hw
  have HWL := Aside0.mk hwl
  have HS := Aside0.mk hs
  have HPL := Aside0.mk hpl
  have HB := Aside0.mk hB
  have HPN := Aside0.mk hp
  have HBL := Aside0.mk (fun (w2 : World) (h2 : Below W.heap.size W w2) => ref_below w0 w2 p l (cumS ws).2 (cum_rng ws).1 (cum_rng ws).2 (hs.below h2) (below_step hB h2) hp)
  obtain ⟨cu, hcu⟩ : ∃ cu, cumS ws = cu := ⟨_, rfl⟩
  have HCU := Aside0.mk hcu
  have HPK : Aside0 (pickR ws l = if cu.2 = 0 then (0, l) else (fsS cu.1 (belowR cu.2 l).1 cu.1.length 0, (belowR cu.2 l).2)) := ⟨by unfold pickR; rw [hcu]⟩
  obtain ⟨pr, hpr⟩ : ∃ pr, pickR ws l = pr := ⟨_, rfl⟩
  have HPR := Aside0.mk (HPK.out.symm.trans hpr)
  rw [hpr]
  rw [hcu] at HBL
  clear hpr HPK
  clear hw hwl hs hpl hB hp hcu
  go_enter Try.func25, Try.ntmps25
  go_wp2
  go_loopg [5, 6, 7] ws.length (fun kq v5 v6 v7 wr => ∃ (i a : Int) (xs : List Int), v7 = .int .i64 i ∧ v6 = .int .u64 a ∧ Aside0 (0 ≤ i ∧ i + kq = ws.length) ∧ Aside0 ((ws.take i.toNat).foldl cumStep ([], 0) = (xs, a)) ∧ Aside0 (xs.length = i.toNat) ∧ Aside0 (Kd.R (Kd.int .u64) 31 wr W.heap.size (fun k => W.heap.size ≤ k) v5 xs) ∧ Aside0 (Below W.heap.size W wr))
  case atStart => exact ⟨0, 0, [], rfl, rfl, ⟨by omega⟩, ⟨rfl⟩, ⟨rfl⟩, ⟨Kd.R_nil _ _ _ _ _⟩, ⟨Below.refl _ _⟩⟩
  case round =>
    obtain ⟨i, a, xs, rfl, rfl, HI, HX, HXL, HR5, HBR⟩ := hrel
    by_cases hlt : i < (ws.length : Int)
    · have hd : decide (i < (ws.length : Int)) = true := decide_eq_true hlt
      obtain ⟨ad, e1, hx⟩ := Kd.at_int HWC.out i HI.out.1 hlt
      subst e1
      replace hx := ((below_step HB.out HBR.out).cell (World.block_lt_of_cell? w0 _ hx)).trans hx
      have ST := Aside0.mk (cum_step HI.out.1 hlt ([], 0))
      have hw := Aside0.mk (show wrap64 (i + 1) = i + 1 by have := HWL.out; have := HI.out; unfold wrap64; omega)
      have p1 := eq_true HI.out.1
      have p2 := eq_true hlt
      by_cases q : rd ws i ≥ 1
      · have dq : decide (1 ≤ rd ws i) = true := decide_eq_true q
        obtain ⟨m, hm⟩ : ∃ m, mn (rd ws i) 1000 = m := ⟨_, rfl⟩
        have e2 : (if 1000 < rd ws i then 1000 else rd ws i) = m := hm
        have HWT : Aside0 (wtR (rd ws i) = IntKind.u64.wrap m) := ⟨by unfold wtR; rw [if_pos q, hm]⟩
        have HMM := Aside0.mk (show 0 ≤ m ∧ m ≤ 1000 by rw [← hm]; unfold mn; split <;> omega)
        clear hm q
        go_wp2_with ((with_reducible refine gate_builtin (b := .append) (xs := #[.tmp 31, .tmp 33]) rfl ?_); at_builtin; refine Kd.R_append (Kd.int .u64) (w0 := W) W.heap.size rfl (.tmp 31) (.tmp 33) 66 31 (.int .u64 0) 8 rfl Try.underlying66 inf.out rfl (by decide) (by omega) u5 xs (IntKind.u64.wrap (a + IntKind.u64.wrap m)) [.int .u64 (IntKind.u64.wrap (a + IntKind.u64.wrap m))] (fun k => W.heap.size ≤ k) (fun _ => False) rfl rfl rfl (fun _ hk => hk.elim) (fun k hk => Nat.le_trans (below_size HBR.out) hk) HR5.out HBR.out (below_size HBR.out) (by have := HXL.out; have := HWL.out; have := HI.out; omega) ?_; intro vB wB hoB hbB hgB hatB; have HOD := Aside0.mk hoB; have HBB := Aside0.mk hbB; clear hoB hbB hgB hatB)
        go_roundg (gk - 1)
        case measure => have := HI.out; omega
        case rel => exact ⟨wrap64 (i + 1), _, _, rfl, rfl, ⟨by have := HI.out; rw [hw.out]; omega⟩, ⟨by rw [hw.out, ST.out, HX.out, cumStep]; simp only [HWT.out]⟩, ⟨by rw [List.length_append, hw.out]; have := HXL.out; have := HI.out; simp; omega⟩, HOD, HBB⟩
      · have dq : decide (1 ≤ rd ws i) = false := decide_eq_false q
        have HWT : Aside0 (wtR (rd ws i) = 0) := ⟨by unfold wtR; rw [if_neg q]⟩
        clear q
        go_wp2_with ((with_reducible refine gate_builtin (b := .append) (xs := #[.tmp 31, .tmp 33]) rfl ?_); at_builtin; refine Kd.R_append (Kd.int .u64) (w0 := W) W.heap.size rfl (.tmp 31) (.tmp 33) 66 31 (.int .u64 0) 8 rfl Try.underlying66 inf.out rfl (by decide) (by omega) u5 xs (IntKind.u64.wrap a) [.int .u64 (IntKind.u64.wrap a)] (fun k => W.heap.size ≤ k) (fun _ => False) rfl rfl rfl (fun _ hk => hk.elim) (fun k hk => Nat.le_trans (below_size HBR.out) hk) HR5.out HBR.out (below_size HBR.out) (by have := HXL.out; have := HWL.out; have := HI.out; omega) ?_; intro vB wB hoB hbB hgB hatB; have HOD := Aside0.mk hoB; have HBB := Aside0.mk hbB; clear hoB hbB hgB hatB)
        go_roundg (gk - 1)
        case measure => have := HI.out; omega
        case rel => exact ⟨wrap64 (i + 1), _, _, rfl, rfl, ⟨by have := HI.out; rw [hw.out]; omega⟩, ⟨by rw [hw.out, ST.out, HX.out, cumStep]; simp only [HWT.out, Int.add_zero]⟩, ⟨by rw [List.length_append, hw.out]; have := HXL.out; have := HI.out; simp; omega⟩, HOD, HBB⟩
    · have hd : decide (i < (ws.length : Int)) = false := decide_eq_false hlt
      have hcu : cu = (xs, a) := by
        rw [← HCU.out, cumS, ← HX.out, show i.toNat = ws.length by have := HI.out; omega, List.take_length]
      subst hcu
      by_cases z : a = 0
      · have dz : (a == 0) = true := beq_iff_eq.mpr z
        have HE : Aside0 (pr = (0, l)) := ⟨by rw [← HPR.out]; exact if_pos z⟩
        have he := HE.out
        subst he
        clear z
        go_wp2
        go_ret
        exact ⟨rfl, HS.out.below HBR.out, Stp.of_below HB.out HBR.out⟩
      · have dz : (a == 0) = false := beq_eq_false_iff_ne.mpr z
        have HB2L : Aside0 (Calls Try.prog 21 #[.pointer p, .int .u64 a] wr fun e w' => e = .returned (.int .u64 (belowR a l).1) ∧ Src 30 w0 w' p (belowR a l).2 ∧ Stp w0 p wr w') := ⟨HBL.out wr HBR.out⟩
        have HPR2 : Aside0 ((fsS xs (belowR a l).1 xs.length 0, (belowR a l).2) = pr) := ⟨by rw [← HPR.out]; exact (if_neg z).symm⟩
        obtain ⟨r, hr⟩ : ∃ r, belowR a l = r := ⟨_, rfl⟩
        rw [hr] at HB2L HPR2
        have hp2 := HPR2.out
        subst hp2
        clear z hr
        go_wp2_with (go_at_call 21; refine HB2L.out.mono ?_; rintro e w2 ⟨rfl, hs2, ht2⟩; have HS2 := Aside0.mk hs2; have HT2 := Aside0.mk ((Stp.of_below HB.out HBR.out).trans ht2); have HR2 := Aside0.mk (Kd.R_step HR5.out (fun k ho hlt => ht2.2.2 k hlt (fun a ha => by have := HPL.out a ha; omega))); clear hs2 ht2)
        obtain ⟨A5, c5, e5⟩ := Kd.R_slice HR2.out
        subst e5
        go_loopg [10] xs.length (fun kq v10 wr => ∃ (j : Int), v10 = .int .i64 j ∧ Aside0 (0 ≤ j ∧ j + kq = xs.length) ∧ Aside0 (fsS xs r.1 kq j = fsS xs r.1 xs.length 0) ∧ Aside0 (wr = w2))
        case atStart => exact ⟨0, rfl, ⟨by omega⟩, ⟨rfl⟩, ⟨rfl⟩⟩
        case round =>
          obtain ⟨j, rfl, HJ, HN, HWR⟩ := hrel
          have hwr := HWR.out
          subst hwr
          by_cases hlj : j < (xs.length : Int)
          · have hdj : decide (j < (xs.length : Int)) = true := decide_eq_true hlj
            obtain ⟨g, cap, hv, hge, hltg, cells, hcl⟩ := Kd.R_form HR2.out (by have := HJ.out; omega)
            injection hv with e1 e2 e3
            subst e1 e3
            obtain ⟨z1, z2⟩ := Kd.R_celln 0 HR2.out j HJ.out.1 hlj
            replace z1 : wr.cell? ⟨g, j.toNat, none⟩ = some (.int .u64 (rd xs j)) := z1
            have p1 := eq_true HJ.out.1
            have p2 := eq_true hlj
            clear hcl
            cases gk with
            | zero => exact absurd HJ.out.2 (by omega)
            | succ gk =>
              have hn := HN.out
              rw [fsS] at hn
              by_cases q : rd xs j > r.1
              · rw [if_pos q] at hn
                have HNN := Aside0.mk hn
                have dq : decide (r.1 < rd xs j) = true := decide_eq_true q
                clear hn q
                go_wp2
                go_ret
                exact ⟨by rw [← HNN.out]; rfl, HS2.out, HT2.out⟩
              · rw [if_neg q] at hn
                have HNN := Aside0.mk hn
                have dq : decide (r.1 < rd xs j) = false := decide_eq_false q
                have hw := Aside0.mk (show wrap64 (j + 1) = j + 1 by have := HWL.out; have := HJ.out; have := HXL.out; have := HI.out; unfold wrap64; omega)
                clear hn q
                go_wp2
                go_roundg gk
                case measure => omega
                case rel => exact ⟨wrap64 (j + 1), rfl, ⟨by have := HJ.out; rw [hw.out]; omega⟩, HNN, ⟨rfl⟩⟩
          · have hdj : decide (j < (xs.length : Int)) = false := decide_eq_false hlj
            have HE : Aside0 ((0 : Int) = fsS xs r.1 xs.length 0) := ⟨by
              have hn := HN.out
              rw [show gk = 0 by have := HJ.out; omega] at hn
              exact hn⟩
            go_wp2
            go_ret
            exact ⟨by rw [← HE.out]; rfl, HS2.out, HT2.out⟩

/-! ### jobberlaw05_ask: function 28 (by hand) -/
def askS (a : S34) (l : List Int) : Int × List Int := if a.f0 = 0 then (wrap64 (hdS l), l.tail) else if a.f0 = 1 then (wrap64 (belowS a.f1 l).1, (belowS a.f1 l).2) else if a.f0 = 2 then betweenS a.f2 a.f3 l else pickS a.f4 l
set_option maxHeartbeats 4000000 in
set_option maxRecDepth 100000 in
theorem chance_ask (w0 W : World) (p : Option Addr) (l : List Int) (a : S34) (A : Option Addr) (c : Nat) (hw : Kd.C (Kd.int .i64) w0 A a.f4.length a.f4) (h0 : 0 ≤ a.f1) (h1 : a.f1 < 18446744073709551616) (hs : Src 44 w0 W p l) (hpl : ∀ a, p = some a → a.block < W.heap.size) (hB : Below w0.heap.size w0 W) :
    Calls Try.prog 28 #[.pointer p, .agg #[.int .i64 a.f0, .int .u64 a.f1, .int .i64 a.f2, .int .i64 a.f3, .slice A a.f4.length c]] W fun e w' => e = .returned (.int .i64 (askS a l).1) ∧ Src 44 w0 w' p (askS a l).2 ∧ Stp w0 p W w' := by
  have hu := Try.underlying34
  obtain ⟨W1, hW1⟩ : ∃ W1, W1 = W.alloc (.cells #[.int .i64 a.f0, .int .u64 a.f1, .int .i64 a.f2, .int .i64 a.f3, .slice A a.f4.length c] 34) := ⟨_, rfl⟩
  have hb01 : Below W.heap.size W W1 := by rw [hW1]; exact below_alloc (Below.refl _ _) _
  have hBK : W1.heap[W.heap.size]? = some (.cells #[.int .i64 a.f0, .int .u64 a.f1, .int .i64 a.f2, .int .i64 a.f3, .slice A a.f4.length c] 34 (0, 0)) := by rw [hW1]; exact blk_new W _
  have z0 : W1.cell? ⟨W.heap.size, 0, none⟩ = some (.int .i64 a.f0) := (blk_cell hBK 0).trans rfl
  have z1 : W1.cell? ⟨W.heap.size, 1, none⟩ = some (.int .u64 a.f1) := (blk_cell hBK 1).trans rfl
  have z2 : W1.cell? ⟨W.heap.size, 2, none⟩ = some (.int .i64 a.f2) := (blk_cell hBK 2).trans rfl
  have z3 : W1.cell? ⟨W.heap.size, 3, none⟩ = some (.int .i64 a.f3) := (blk_cell hBK 3).trans rfl
  have z4 : W1.cell? ⟨W.heap.size, 4, none⟩ = some (.slice A a.f4.length c) := (blk_cell hBK 4).trans rfl
  have HB1 := below_step hB hb01
  have hs1 := hs.below hb01
  have HST := Aside0.mk (Stp.of_below (p := p) hB hb01)
  have H0 := Aside0.mk (chance_byte w0 W1 p l hs1 HB1)
  have H1 := Aside0.mk (chance_below w0 W1 p l a.f1 h0 h1 hs1 HB1)
  have H2 := Aside0.mk (chance_between w0 W1 p l a.f2 a.f3 hs1 HB1)
  have H3 := Aside0.mk (chance_pick w0 W1 p l A c a.f4 hw hs1 (fun b hb => Nat.lt_of_lt_of_le (hpl b hb) hb01.size) HB1)
  have HW := Aside0.mk hW1
  by_cases c0 : a.f0 = 0
  · have d0 : (a.f0 == 0) = true := beq_iff_eq.mpr c0
    have e : askS a l = (wrap64 (hdS l), l.tail) := if_pos c0
    rw [e]
    clear hw h0 h1 hs hpl hB hW1 hb01 hBK HB1 hs1 c0 e
    go_enter Try.func28, Try.ntmps28
    go_upto_region 1 with (fail)
    rw [← HW.out]
    go_wp2_with (go_at_call 18; refine H0.out.mono ?_; rintro e w2 ⟨rfl, hs2, ht2⟩; have HS2 := Aside0.mk hs2; have HT2 := Aside0.mk (HST.out.trans ht2); clear hs2 ht2)
    go_ret
    exact ⟨rfl, HS2.out, HT2.out⟩
  have d0 : (a.f0 == 0) = false := beq_eq_false_iff_ne.mpr c0
  by_cases c1 : a.f0 = 1
  · have d1 : (a.f0 == 1) = true := beq_iff_eq.mpr c1
    have e : askS a l = (wrap64 (belowS a.f1 l).1, (belowS a.f1 l).2) := by unfold askS; rw [if_neg c0, if_pos c1]
    rw [e]
    clear hw h0 h1 hs hpl hB hW1 hb01 hBK HB1 hs1 c0 e c1
    go_enter Try.func28, Try.ntmps28
    go_upto_region 1 with (fail)
    rw [← HW.out]
    go_wp2_with (go_at_call 20; refine H1.out.mono ?_; rintro e w2 ⟨rfl, hs2, ht2⟩; have HS2 := Aside0.mk hs2; have HT2 := Aside0.mk (HST.out.trans ht2); clear hs2 ht2)
    go_ret
    exact ⟨rfl, HS2.out, HT2.out⟩
  have d1 : (a.f0 == 1) = false := beq_eq_false_iff_ne.mpr c1
  by_cases c2 : a.f0 = 2
  · have d2 : (a.f0 == 2) = true := beq_iff_eq.mpr c2
    have e : askS a l = betweenS a.f2 a.f3 l := by unfold askS; rw [if_neg c0, if_neg c1, if_pos c2]
    rw [e]
    clear hw h0 h1 hs hpl hB hW1 hb01 hBK HB1 hs1 c0 e c1 c2
    go_enter Try.func28, Try.ntmps28
    go_upto_region 1 with (fail)
    rw [← HW.out]
    go_wp2_with (go_at_call 22; refine H2.out.mono ?_; rintro e w2 ⟨rfl, hs2, ht2⟩; have HS2 := Aside0.mk hs2; have HT2 := Aside0.mk (HST.out.trans ht2); clear hs2 ht2)
    go_ret
    exact ⟨rfl, HS2.out, HT2.out⟩
  · have d2 : (a.f0 == 2) = false := beq_eq_false_iff_ne.mpr c2
    have e : askS a l = pickS a.f4 l := by unfold askS; rw [if_neg c0, if_neg c1, if_neg c2]
    rw [e]
    clear hw h0 h1 hs hpl hB hW1 hb01 hBK HB1 hs1 c0 e c1 c2
    go_enter Try.func28, Try.ntmps28
    go_upto_region 1 with (fail)
    rw [← HW.out]
    go_wp2_with (go_at_call 24; refine H3.out.mono ?_; rintro e w2 ⟨rfl, hs2, ht2⟩; have HS2 := Aside0.mk hs2; have HT2 := Aside0.mk (HST.out.trans ht2); clear hs2 ht2)
    go_ret
    exact ⟨rfl, HS2.out, HT2.out⟩

/-! ### jobberlaw05_ChancePlays: function 3 (by hand) -/
theorem u64w (x : Int) : IntKind.u64.wrap x = x % 18446744073709551616 := rfl
theorem u64_range (y : Int) (h0 : 0 ≤ y) (h1 : y < 2 ^ 64) : IntKind.u64.wrap y = y := by rw [u64w]; omega
theorem or_add {x b : Int} (hb : 0 ≤ b) (hb1 : b < 256) : Go.bits .or .u64 (IntKind.u64.wrap (x * 256)) (IntKind.u64.wrap b) = IntKind.u64.wrap (IntKind.u64.wrap (x * 256) + IntKind.u64.wrap b) := by
  rw [u64w, u64w, u64w]
  have e1 : b % 18446744073709551616 = b := by omega
  rw [e1]
  obtain ⟨k, hk⟩ : ∃ k : Nat, x * 256 % 18446744073709551616 = ((256 * k : Nat) : Int) := ⟨(x % 72057594037927936).toNat, by omega⟩
  obtain ⟨c, rfl⟩ := Int.eq_ofNat_of_zero_le hb
  have hlt : x * 256 % 18446744073709551616 < 18446744073709551616 := by omega
  rw [hk] at hlt ⊢
  rw [(bits_nat .u64 64 (by decide) u64_range (256 * k) c (by omega) (by omega)).2]
  have e2 : 256 * k ||| c = 256 * k + c := by
    have := Nat.two_pow_add_eq_or_of_lt (i := 8) (b := c) (by omega) k
    simpa using this.symm
  rw [e2]
  omega
def Bytes (l : List Int) : Prop := ∀ x ∈ l, 0 ≤ x ∧ x < 256
theorem some_eq : ∀ (n : Nat) (l : List Int) (x : Int), Bytes l → someR n l x = someS n l x ∧ Bytes (someS n l x).2
  | 0, l, x, h => ⟨rfl, h⟩
  | n + 1, l, x, h => by
    have ht : Bytes l.tail := fun y hy => h y (List.mem_of_mem_tail hy)
    have hd : 0 ≤ hdS l ∧ hdS l < 256 := by
      cases l with
      | nil => simp [hdS]
      | cons b l => exact h b (by simp)
    rw [someR, someS, or_add hd.1 hd.2]
    exact some_eq n l.tail _ ht
theorem bl_spec : ∀ (f x : Nat), x < 2 ^ f → x < 2 ^ Lib.bitLenAux f x ∧ (x ≠ 0 → 2 ^ Lib.bitLenAux f x ≤ 2 * x)
  | 0, x, h => by simp at h; subst h; simp [Lib.bitLenAux]
  | f + 1, x, h => by
    unfold Lib.bitLenAux
    by_cases c : x = 0
    · subst c; simp
    · rw [if_neg c]
      have ih := bl_spec f (x / 2) (by rw [Nat.pow_succ] at h; omega)
      rw [Nat.add_comm, Nat.pow_succ]
      refine ⟨by omega, fun _ => ?_⟩
      by_cases d : x / 2 = 0
      · have : x = 1 := by omega
        subst this
        have e : Lib.bitLenAux f (1 / 2) = 0 := by cases f <;> simp [Lib.bitLenAux]
        rw [e]; simp
      · have := ih.2 d; omega
theorem cnt_spec : ∀ (f x : Nat), x < 256 ^ f → x < 256 ^ cntR f x ∧ (x ≠ 0 → 256 ^ cntR f x ≤ 256 * x)
  | 0, x, h => by simp at h; subst h; simp [cntR]
  | f + 1, x, h => by
    unfold cntR
    by_cases c : x = 0
    · subst c; simp
    · rw [if_neg c]
      have ih := cnt_spec f (x / 256) (by rw [Nat.pow_succ] at h; omega)
      rw [Nat.add_comm, Nat.pow_succ]
      refine ⟨by omega, fun _ => ?_⟩
      by_cases d : x / 256 = 0
      · have e : cntR f (x / 256) = 0 := by rw [d]; cases f <;> simp [cntR]
        rw [e]; simp; omega
      · have := ih.2 d; omega
theorem cnt_len {x : Nat} (h : x < 2 ^ 64) : cntR 8 x = (Lib.bitLen x + 7) / 8 := by
  by_cases c : x = 0
  · subst c; decide
  have h1 : x < 2 ^ Lib.bitLen x ∧ (x ≠ 0 → 2 ^ Lib.bitLen x ≤ 2 * x) := bl_spec 64 x h
  have h2 := cnt_spec 8 x (by have e : (256 : Nat) ^ 8 = 2 ^ 64 := by decide
                              omega)
  have b2 := h1.2 c
  have d2 := h2.2 c
  obtain ⟨b, hb⟩ : ∃ b, Lib.bitLen x = b := ⟨_, rfl⟩
  obtain ⟨d, hd⟩ : ∃ d, cntR 8 x = d := ⟨_, rfl⟩
  rw [hb] at h1 b2 ⊢
  rw [hd] at h2 d2 ⊢
  have e256 : (256 : Nat) ^ d = 2 ^ (8 * d) := by rw [Nat.pow_mul]
  rw [e256] at h2 d2
  -- x < 2^b, 2^b ≤ 2x, x < 2^(8d), 2^(8d) ≤ 256 x
  have l1 : 2 ^ b ≤ 2 ^ (8 * d) * 1 + 2 ^ (8 * d) - 0 := by omega
  have b1 : b < 8 * d + 1 := by
    have : 2 ^ b < 2 ^ (8 * d + 1) := by rw [Nat.pow_succ]; omega
    exact (Nat.pow_lt_pow_iff_right (by omega)).mp this
  have b3 : 8 * d < b + 8 := by
    have : 2 ^ (8 * d) < 2 ^ (b + 8) := by rw [Nat.pow_add]; omega
    exact (Nat.pow_lt_pow_iff_right (by omega)).mp this
  omega
theorem below_eq {n : Int} {l : List Int} (h0 : 0 ≤ n) (h1 : n < 18446744073709551616) (h : Bytes l) : belowR n l = belowS n l ∧ Bytes (belowS n l).2 := by
  unfold belowR belowS
  by_cases c : n < 2
  · rw [if_pos c, if_pos c]; exact ⟨rfl, h⟩
  · rw [if_neg c, if_neg c]
    have e : cntR 8 (n - 1).toNat = manyS n := by unfold manyS; exact cnt_len (by omega)
    have hs := some_eq (manyS n) l 0 h
    rw [e, hs.1]
    exact ⟨rfl, hs.2⟩
theorem between_eq {low high : Int} {l : List Int} (h : Bytes l) : betweenR low high l = betweenS low high l ∧ Bytes (betweenS low high l).2 := by
  unfold betweenR betweenS
  by_cases c : high ≤ low
  · rw [if_pos c, if_pos c]; exact ⟨rfl, h⟩
  · rw [if_neg c, if_neg c]
    have hw : wayS low high = (IntKind.u64.wrap (IntKind.u64.wrap high - IntKind.u64.wrap low) + 1) % 18446744073709551616 := rfl
    have hr : 0 ≤ IntKind.u64.wrap (IntKind.u64.wrap high - IntKind.u64.wrap low) ∧ IntKind.u64.wrap (IntKind.u64.wrap high - IntKind.u64.wrap low) < 18446744073709551616 := by
      have e := u64w (IntKind.u64.wrap high - IntKind.u64.wrap low)
      omega
    by_cases d : wayS low high = 0
    · rw [if_pos d, if_pos (by omega)]
      have hs := some_eq 8 l 0 h
      rw [hs.1]
      exact ⟨rfl, hs.2⟩
    · rw [if_neg d, if_neg (by omega)]
      have hb := below_eq (n := wayS low high) (by omega) (by omega) h
      rw [hb.1]
      exact ⟨rfl, hb.2⟩

def wtN (x : Int) : Int := if x < 1 then 0 else if x < 1000 then x else 1000
theorem wtN_rng (x : Int) : 0 ≤ wtN x ∧ wtN x ≤ 1000 := by unfold wtN; split <;> (try split) <;> omega
theorem wtS_eq (x : Int) : wtS x = wtN x := by
  unfold wtS wtN mn mx
  rw [u64w]
  repeat' split
  all_goals omega
theorem wtR_eq (x : Int) : wtR x = wtN x := by
  unfold wtR wtN mn
  repeat' split
  all_goals (try rw [u64w])
  all_goals omega
def sumN (ws : List Int) : Int := ws.foldl (fun a x => a + wtN x) 0
theorem sumN_from (ws : List Int) : ∀ a : Int, ws.foldl (fun a x => a + wtN x) a = a + sumN ws := by
  induction ws with
  | nil => intro a; simp [sumN]
  | cons x ws ih => intro a; unfold sumN; simp only [List.foldl_cons]; rw [ih, ih (0 + wtN x)]; omega
theorem sumN_cons (x : Int) (ws : List Int) : sumN (x :: ws) = wtN x + sumN ws := by
  have := sumN_from ws (0 + wtN x)
  unfold sumN at this ⊢
  simp only [List.foldl_cons]
  omega
theorem sumN_rng (ws : List Int) : 0 ≤ sumN ws ∧ sumN ws ≤ 1000 * ws.length := by
  induction ws with
  | nil => simp [sumN]
  | cons x ws ih => rw [sumN_cons]; have := wtN_rng x; simp only [List.length_cons]; omega
theorem all_eq (ws : List Int) (hw : ws.length ≤ 1000000) : allS ws = sumN ws := by
  unfold allS
  have : ∀ (ws : List Int) (a : Int), 0 ≤ a → a + 1000 * ws.length < 18446744073709551616 → ws.foldl (fun a x => IntKind.u64.wrap (a + wtS x)) a = a + sumN ws := by
    intro ws
    induction ws with
    | nil => intro a _ _; simp [sumN]
    | cons x ws ih =>
      intro a h0 h1
      simp only [List.length_cons] at h1
      have hx := wtN_rng x
      simp only [List.foldl_cons]
      rw [wtS_eq, show IntKind.u64.wrap (a + wtN x) = a + wtN x by rw [u64w]; omega, ih _ (by omega) (by omega), sumN_cons]
      omega
  rw [this ws 0 (by omega) (by omega)]; omega
/-- the place told by sums, from a sum on -/
def place : List Int → Int → Int → Int
  | [], _, _ => 0
  | x :: ws, i, n => if n < wtN x then i else place ws (i + 1) (n - wtN x)
theorem rd_mid (a : List Int) (x : Int) (b : List Int) (i : Int) (hi : i = a.length) : rd (a ++ x :: b) i = x := by
  subst hi
  unfold rd
  simp
theorem pk_eq (ws : List Int) (hw : ws.length ≤ 1000000) : ∀ (b a : List Int) (n : Int), ws = a ++ b → 0 ≤ n → n < 18446744073709551616 → pkS ws b.length (a.length : Int) n = place b (a.length : Int) n := by
  intro b
  induction b with
  | nil => intro a n _ _ _; rfl
  | cons x b ih =>
    intro a n e h0 h1
    have hl : a.length + (b.length + 1) = ws.length := by rw [e]; simp
    simp only [List.length_cons, pkS, place]
    rw [show rd ws (a.length : Int) = x by rw [e]; exact rd_mid a x b _ rfl, wtS_eq]
    have hx := wtN_rng x
    by_cases c : n < wtN x
    · rw [if_pos c, if_pos c]
    · rw [if_neg c, if_neg c]
      have h2 := ih (a ++ [x]) (n - wtN x) (by rw [e]; simp) (by omega) (by omega)
      rw [show wrap64 ((a.length : Int) + 1) = (a.length : Int) + 1 by unfold wrap64; omega, show IntKind.u64.wrap (n - wtN x) = n - wtN x by rw [u64w]; omega]
      simpa using h2
/-- the sums, from a sum on -/
def sums : List Int → Int → List Int
  | [], _ => []
  | x :: ws, s => (s + wtN x) :: sums ws (s + wtN x)
theorem sums_length : ∀ (ws : List Int) (s : Int), (sums ws s).length = ws.length
  | [], _ => rfl
  | x :: ws, s => by simp [sums, sums_length ws]
theorem cum_eq (ws : List Int) (hw : ws.length ≤ 1000000) : cumS ws = (sums ws 0, sumN ws) := by
  unfold cumS
  have : ∀ (ws : List Int) (a : List Int) (s : Int), 0 ≤ s → s + 1000 * ws.length < 18446744073709551616 → ws.foldl cumStep (a, s) = (a ++ sums ws s, s + sumN ws) := by
    intro ws
    induction ws with
    | nil => intro a s _ _; simp [sums, sumN]
    | cons x ws ih =>
      intro a s h0 h1
      simp only [List.length_cons] at h1
      have hx := wtN_rng x
      simp only [List.foldl_cons, cumStep]
      rw [wtR_eq, show IntKind.u64.wrap (s + wtN x) = s + wtN x by rw [u64w]; omega, ih _ _ (by omega) (by omega), sumN_cons, sums]
      simp only [List.append_assoc, List.singleton_append]
      congr 1
      omega
  rw [this ws [] 0 (by omega) (by omega)]
  simp
theorem fs_eq (xs : List Int) (n : Int) (hl : xs.length ≤ 1000000) : ∀ (b a : List Int) (s : Int) (c : List Int), xs = a ++ sums c s → b = sums c s → fsS xs n b.length (a.length : Int) = place c (a.length : Int) (n - s) := by
  intro b
  induction b with
  | nil =>
    intro a s c e hb
    cases c with
    | nil => rfl
    | cons x c => simp [sums] at hb
  | cons y b ih =>
    intro a s c e hb
    cases c with
    | nil => simp [sums] at hb
    | cons x c =>
      rw [sums] at e hb
      injection hb with h1 h2
      have hl2 : a.length + (b.length + 1) = xs.length := by rw [e, List.length_append, List.length_cons, h2]
      simp only [List.length_cons, fsS, place]
      rw [show rd xs (a.length : Int) = s + wtN x by rw [e]; exact rd_mid a _ _ _ rfl]
      by_cases d : s + wtN x > n
      · rw [if_pos d, if_pos (by omega)]
      · rw [if_neg d, if_neg (by omega)]
        have h3 := ih (a ++ [s + wtN x]) (s + wtN x) c (by rw [e]; simp) h2
        rw [show wrap64 ((a.length : Int) + 1) = (a.length : Int) + 1 by unfold wrap64; omega, show n - s - wtN x = n - (s + wtN x) by omega]
        simpa using h3
theorem place_nought : ∀ (ws : List Int) (i : Int), sumN ws = 0 → place ws i 0 = 0
  | [], _, _ => rfl
  | x :: ws, i, h => by
    rw [sumN_cons] at h
    have hx := wtN_rng x
    have hs := (sumN_rng ws).1
    rw [place, if_neg (by omega), show (0 : Int) - wtN x = 0 by omega]
    exact place_nought ws _ (by omega)
theorem some_rng : ∀ (n : Nat) (l : List Int) (x : Int), Bytes l → (0 ≤ x ∧ x < 18446744073709551616) → 0 ≤ (someS n l x).1 ∧ (someS n l x).1 < 18446744073709551616
  | 0, l, x, _, h => h
  | n + 1, l, x, hl, h => by
    have ht : Bytes l.tail := fun y hy => hl y (List.mem_of_mem_tail hy)
    have hd : 0 ≤ hdS l ∧ hdS l < 256 := by
      cases l with
      | nil => simp [hdS]
      | cons b l => exact hl b (by simp)
    rw [someS, or_add hd.1 hd.2]
    exact some_rng n l.tail _ ht (u64_rng _)
theorem below_rng {n : Int} {l : List Int} (h0 : 0 ≤ n) (h1 : n < 18446744073709551616) (h : Bytes l) : 0 ≤ (belowS n l).1 ∧ ((belowS n l).1 < n ∨ (belowS n l).1 = 0) ∧ (belowS n l).1 < 18446744073709551616 := by
  unfold belowS
  by_cases c : n < 2
  · rw [if_pos c]; simp
  · rw [if_neg c]
    have hs := some_rng (manyS n) l 0 h (by omega)
    rw [Int.tmod_eq_emod_of_nonneg hs.1]
    have h2 := Int.emod_nonneg (someS (manyS n) l 0).1 (b := n) (by omega)
    have h3 := Int.emod_lt_of_pos (someS (manyS n) l 0).1 (b := n) (by omega)
    dsimp only
    omega
theorem pick_eq {ws l : List Int} (hw : ws.length ≤ 1000000) (h : Bytes l) : pickR ws l = pickS ws l ∧ Bytes (pickS ws l).2 := by
  have hs := sumN_rng ws
  unfold pickR pickS
  rw [cum_eq ws hw, all_eq ws hw]
  have hb := below_eq (n := sumN ws) (l := l) hs.1 (by omega) h
  have hr := below_rng (n := sumN ws) (l := l) hs.1 (by omega) h
  have hp := pk_eq ws hw ws [] (belowS (sumN ws) l).1 rfl hr.1 hr.2.2
  have hp2 : pkS ws ws.length 0 (belowS (sumN ws) l).1 = place ws 0 (belowS (sumN ws) l).1 := hp
  rw [hp2]
  refine ⟨?_, hb.2⟩
  by_cases c : sumN ws = 0
  · dsimp only
    rw [if_pos c, c]
    have e : belowS 0 l = (0, l) := if_pos (by omega)
    rw [e]
    dsimp only
    rw [place_nought ws 0 c]
  · dsimp only
    rw [if_neg c, hb.1]
    have hf := fs_eq (sums ws 0) (belowS (sumN ws) l).1 (by rw [sums_length]; exact hw) (sums ws 0) [] 0 ws rfl rfl
    have hf2 : fsS (sums ws 0) (belowS (sumN ws) l).1 (sums ws 0).length 0 = place ws 0 ((belowS (sumN ws) l).1 - 0) := hf
    rw [hf2, Int.sub_zero]

theorem light_tells (l0 : List Int) (l1 : List S34) (hm : l1.length ≤ 9223372036854775807) (d : Nat) : ∀ (k : Nat) (i : Int), 0 ≤ i → i ≤ l1.length → (l1.length : Int) - i = d → d < k →
    ∃ r, jobberlaw05_light.l0 k l0 l1 l1 (l1.length : Int) i = some r ∧ (r = true → l1.length ≤ 60 ∧ l0.length ≤ 1000 ∧ ∀ j : Int, i ≤ j → j < l1.length → (rd_T34 l1 j).f4.length ≤ 60) := by
  induction d with
  | zero =>
    intro k i h0 h1 hd hk
    obtain ⟨k, rfl⟩ : ∃ m, k = m + 1 := ⟨k - 1, by omega⟩
    simp only [jobberlaw05_light.l0]
    rw [if_neg (by omega)]
    by_cases c : (l0.length : Int) ≤ 1000
    · rw [if_pos c]
      exact ⟨_, rfl, fun h => by have := of_decide_eq_true h; exact ⟨by omega, by omega, fun j _ _ => by omega⟩⟩
    · rw [if_neg c]
      exact ⟨_, rfl, fun h => by cases h⟩
  | succ d ih =>
    intro k i h0 h1 hd hk
    obtain ⟨k, rfl⟩ : ∃ m, k = m + 1 := ⟨k - 1, by omega⟩
    simp only [jobberlaw05_light.l0]
    rw [if_pos (by omega), if_pos h0, if_pos (by omega)]
    by_cases c : (((rd_T34 l1 i).f4).length : Int) > 60
    · rw [if_pos c]
      exact ⟨_, rfl, fun h => by cases h⟩
    · rw [if_neg c]
      obtain ⟨r, hr, h⟩ := ih k (i + 1) (by omega) (by omega) (by omega) (by omega)
      rw [show wrap64 (i + 1) = i + 1 by unfold wrap64; omega]
      refine ⟨r, hr, fun hh => ⟨(h hh).1, (h hh).2.1, fun j h2 h3 => ?_⟩⟩
      by_cases e : j = i
      · subst e; omega
      · exact (h hh).2.2 j (by omega) h3
theorem light_any (l0 : List Int) (l1 : List S34) (hm : l1.length ≤ 9223372036854775807) : ∃ k r, jobberlaw05_light.f k l0 l1 = some r ∧ (r = true → l1.length ≤ 60 ∧ l0.length ≤ 1000 ∧ ∀ j : Int, 0 ≤ j → j < l1.length → (rd_T34 l1 j).f4.length ≤ 60) := by
  obtain ⟨r, hr, h⟩ := light_tells l0 l1 hm l1.length (l1.length + 1) 0 (by omega) (by omega) (by omega) (by omega)
  exact ⟨_, r, hr, h⟩
theorem Src.lt {t : TypeId} {w0 W : World} {p : Option Addr} {l : List Int} (h : Src t w0 W p l) : ∀ a, p = some a → a.block < W.heap.size := by
  intro a ha
  rcases h with ⟨h, _⟩ | ⟨g, A, c, hp, h1, _⟩
  · rw [h] at ha; cases ha
  · rw [hp] at ha; cases ha; exact blk_lt h1
theorem Stp.blk {w0 W W2 : World} {p : Option Addr} {g : Nat} {o : Obj} (h : Stp w0 p W W2) (hb : W.heap[g]? = some o) (hn : ∀ a, p = some a → g ≠ a.block) : W2.heap[g]? = some o := (h.2.2 g (blk_lt hb) hn).trans hb
theorem wp_abs {P : Program} {c : Code} {Q : Exit → Act → World → Prop} {a : Act} {W : World} (F : World → Prop) (hF : F W) (h : ∀ W3, F W3 → c.wp P Q a W3) : c.wp P Q a W := h W hF
theorem Src.keepd {t : TypeId} {w0 W W2 : World} {p q : Option Addr} {l : List Int} (h : Src t w0 W p l) (hk : Stp w0 q W.drew W2) (hne : ∀ a b, p = some a → q = some b → a.block ≠ b.block) : Src t w0 W2 p l := Src.keep (h.below (below_drew (Below.refl _ _))) hk hne
theorem hd_rng {l : List Int} (h : Bytes l) : 0 ≤ hdS l ∧ hdS l < 256 := by
  cases l with
  | nil => simp [hdS]
  | cons b l => exact h b (by simp)
theorem bytes_tail {l : List Int} (h : Bytes l) : Bytes l.tail := fun y hy => h y (List.mem_of_mem_tail hy)
def jobberlaw05_ChancePlays.f (l0 : List Int) (l1 : List (S34)) : Option Bool := if (∀ x ∈ l0, 0 ≤ x ∧ x < 256) ∧ (∀ x ∈ l1, 0 ≤ x.f1 ∧ x.f1 < 18446744073709551616) then some true else none
set_option maxHeartbeats 8000000 in
set_option maxRecDepth 100000 in
theorem jobberlaw05_ChancePlays.calls (A0 : Option Addr) (c0 : Nat) (l0 : List Int) (A1 : Option Addr) (c1 : Nat) (l1 : List (S34)) (r : Bool) (w : World) (hr0 : Kd.C (Kd.int .u8) w A0 l0.length l0) (hc0 : l0.length ≤ c0) (hr1 : Kd.C k34 w A1 l1.length l1) (hc1 : l1.length ≤ c1) (h : jobberlaw05_ChancePlays.f l0 l1 = some r) :
    Calls Try.prog 3 #[.slice A0 l0.length c0, .slice A1 l1.length c1] w fun e w' => e = .returned (.bool r) ∧ Below w.heap.size w w' := by
  unfold jobberlaw05_ChancePlays.f at h
  by_cases hh : (∀ x ∈ l0, 0 ≤ x ∧ x < 256) ∧ (∀ x ∈ l1, 0 ≤ x.f1 ∧ x.f1 < 18446744073709551616)
  case neg => rw [if_neg hh] at h; cases h
  rw [if_pos hh] at h
  obtain rfl := Option.some.inj h
  obtain ⟨hb0, hb1⟩ := hh
  obtain ⟨k, lr, hk, hlr⟩ := light_any l0 l1 hr1.2.1
  have HLI := Aside0.mk (jobberlaw05_light.calls k A0 c0 l0 A1 c1 l1 lr w hr0 hc0 hr1 hc1 hk)
  have HLV := Aside0.mk chance_lives
  have hu30 := Try.underlying30
  have hu34 := Try.underlying34
  have HC0 := Aside0.mk hc0
  have HR0 := Aside0.mk hr0
  have HR1 := Aside0.mk hr1
  have HB0 : Aside0 (Bytes l0) := ⟨hb0⟩
  have HB1 := Aside0.mk hb1
  have HLR := Aside0.mk hlr
  have HNW := Aside0.mk (fun (W : World) (hB : Below w.heap.size w W) => chance_new w W A0 c0 l0 hr0 hc0 hB)
  clear hr0 hc0 hr1 hc1 h hb0 hb1 hk hlr
  cases lr with
  | false =>
    clear HLR
    go_enter Try.func3, Try.ntmps3
    go_wp2_with (first | (go_at_call 15; refine HLI.out.mono ?_; rintro e w1 ⟨rfl, hb⟩; have HX1 := Aside0.mk hb; clear hb) | (go_at_call 16; refine (HLV.out _).mono ?_; rintro e w2 ⟨rfl, hb⟩; have HX2 := Aside0.mk (below_step HX1.out hb); clear hb))
    go_ret
    exact ⟨rfl, HX2.out⟩
  | true =>
    have HS := Aside0.mk (HLR.out rfl)
    clear HLR
    go_enter Try.func3, Try.ntmps3
    go_wp2_with (first | (go_at_call 15; refine HLI.out.mono ?_; rintro e w1 ⟨rfl, hb⟩; have HX1 := Aside0.mk hb; clear hb) | (go_at_call 17; refine (HNW.out _ HX1.out).mono ?_; rintro e w2 ⟨p, rfl, hp, hp2, hp3, hp4⟩; have HP := Aside0.mk hp; have HP2 := Aside0.mk hp2; have HP3 := Aside0.mk hp3; have HX2 := Aside0.mk (below_step HX1.out hp4); clear hp hp2 hp3 hp4) | ((with_reducible refine gate_dst (N := 19) rfl ?_); refine box_event ?hg (N := 19) ?hd (cs := #[.slice A0 l0.length c0]) (t := 30) ?hr ?_; (case hd => rfl); (case hg => rfl); (case hr => first | (go_simp; done) | (go_simp; rfl)); intro gB hg w3 hbox hb; have HBK := Aside0.mk hbox; have HB3 := Aside0.mk hb; have HG := Aside0.mk hg; clear hb hbox hg))
    have HNE : Aside0 (∀ a, p = some a → gB ≠ a.block) := ⟨fun a ha => by have := (HP2.out a ha).2; have := HG.out; omega⟩
    have HS0 := Aside0.mk (HP3.out.below HB3.out)
    have HW0 : Aside0 (Src 30 w w3 (some ⟨gB, 0, none⟩) l0) := ⟨.inr ⟨gB, A0, c0, rfl, HBK.out, by have := HX2.out.size; have := HG.out; omega, HC0.out, HR0.out⟩⟩
    have HX3 := Aside0.mk (below_step HX2.out HB3.out)
    have HPN := HP
    clear HP2 HP3 HB3 HBK HG HX2 HX1 HLI HNW HP
    go_loopg [22] l1.length (fun kq v22 wr => ∃ (i : Int) (ls : List Int), v22 = .int .i64 i ∧ Aside0 (0 ≤ i ∧ i + kq = l1.length) ∧ Aside0 (Bytes ls) ∧ Aside0 (Src 44 w wr p ls) ∧ Aside0 (Src 30 w wr (some ⟨gB, 0, none⟩) ls) ∧ Aside0 (Below w.heap.size w wr))
    case atStart => exact ⟨0, l0, rfl, ⟨by omega⟩, HB0, HS0, HW0, HX3⟩
    case round =>
      clear HS0 HW0 HX3 HB0
      obtain ⟨i, ls, rfl, HI, HBY, HSP, HSW, HB⟩ := hrel
      by_cases hlt : i < (l1.length : Int)
      · have hd : decide (i < (l1.length : Int)) = true := decide_eq_true hlt
        obtain ⟨ad, A4, c4, e1, hx0, hx1, hx2, hx3, hx4, hl4, hi4⟩ := at_T34 HR1.out i HI.out.1 hlt
        subst e1
        replace hx0 := (HB.out.cell (World.block_lt_of_cell? w _ hx0)).trans hx0
        replace hx1 := (HB.out.cell (World.block_lt_of_cell? w _ hx1)).trans hx1
        replace hx2 := (HB.out.cell (World.block_lt_of_cell? w _ hx2)).trans hx2
        replace hx3 := (HB.out.cell (World.block_lt_of_cell? w _ hx3)).trans hx3
        replace hx4 := (HB.out.cell (World.block_lt_of_cell? w _ hx4)).trans hx4
        have HA4 := Aside0.mk hi4
        have HQ := Aside0.mk (HB1.out (rd_T34 l1 i) (by unfold rd_T34; rw [List.getD_eq_getElem?_getD, List.getElem?_eq_getElem (show i.toNat < l1.length by have := HI.out; omega)]; exact List.getElem_mem _))
        have HW4 := Aside0.mk (HS.out.2.2 i HI.out.1 hlt)
        have p1 := eq_true HI.out.1
        have p2 := eq_true hlt
        obtain ⟨x, hx⟩ : ∃ x, rd_T34 l1 i = x := ⟨_, rfl⟩
        rw [hx] at hx0 hx1 hx2 hx3 hx4 HA4 HQ HW4
        clear hx hl4 hi4
        have hw := Aside0.mk (show wrap64 (i + 1) = i + 1 by have := HI.out; have := HS.out.1; unfold wrap64; omega)
        cases gk with
        | zero => exact absurd HI.out.2 (by omega)
        | succ gk =>
          go_upto_region 7 with ((with_reducible refine gate_dst (N := 8) rfl ?_); refine box_event ?hg (N := 8) ?hd (cs := #[.int .i64 0, .int .u64 0, .int .i64 0, .int .i64 0, .slice none 0 0]) (t := 34) ?hr ?_; (case hd => rfl); (case hg => rfl); (case hr => first | (go_simp; done) | (go_simp; rfl)); intro gA hg w4 hbox hb; have HBK := Aside0.mk hbox; have HB4 := Aside0.mk hb; have HG := Aside0.mk hg; clear hb hbox hg; have hcz0 : w4.cell? ⟨gA, 0, none⟩ = some (.int .i64 0) := (blk_cell HBK.out 0).trans rfl; have hcz1 : w4.cell? ⟨gA, 1, none⟩ = some (.int .u64 0) := (blk_cell HBK.out 1).trans rfl; have hcz2 : w4.cell? ⟨gA, 2, none⟩ = some (.int .i64 0) := (blk_cell HBK.out 2).trans rfl; have hcz3 : w4.cell? ⟨gA, 3, none⟩ = some (.int .i64 0) := (blk_cell HBK.out 3).trans rfl; have hcz4 : w4.cell? ⟨gA, 4, none⟩ = some (.slice none 0 0) := (blk_cell HBK.out 4).trans rfl; have hfz0 := blk_frozen HBK.out 0; have hfz1 := blk_frozen HBK.out 1; have hfz2 := blk_frozen HBK.out 2; have hfz3 := blk_frozen HBK.out 3; have hfz4 := blk_frozen HBK.out 4)
          refine wp_abs (fun W3 => W3.heap[gA]? = some (.cells #[.int .i64 x.f0, .int .u64 x.f1, .int .i64 x.f2, .int .i64 x.f3, .slice A4 x.f4.length c4] 34 (0, 0)) ∧ Below wr.heap.size wr W3) ⟨?_, ?_⟩ ?_
          case refine_1 => exact blk_put (blk_put (blk_put (blk_put (blk_put HBK.out 0 _ rfl) 1 _ rfl) 2 _ rfl) 3 _ rfl) 4 _ rfl
          case refine_2 => exact below_set (below_set (below_set (below_set (below_set HB4.out (by rw [HG.out]; exact Nat.le_refl _)) (by rw [HG.out]; exact Nat.le_refl _)) (by rw [HG.out]; exact Nat.le_refl _)) (by rw [HG.out]; exact Nat.le_refl _)) (by rw [HG.out]; exact Nat.le_refl _)
          clear hcz0 hcz1 hcz2 hcz3 hcz4 hfz0 hfz1 hfz2 hfz3 hfz4 hx0 hx1 hx2 hx3 hx4
          intro W3 hW3
          have HB3 := Aside0.mk (below_step HB.out hW3.2)
          have HSP3 := Aside0.mk (HSP.out.below hW3.2)
          have HSW3 := Aside0.mk (HSW.out.below hW3.2)
          have HGA : Aside0 (wr.heap.size ≤ gA) := ⟨by rw [HG.out]; exact Nat.le_refl _⟩
          have HNA : Aside0 (∀ a, p = some a → gA ≠ a.block) := ⟨fun a ha => by have := HSP.out.lt a ha; have := HGA.out; omega⟩
          have HNB : Aside0 (gA ≠ gB) := ⟨by have h_ : gB < wr.heap.size := HSW.out.lt _ rfl; have := HGA.out; omega⟩
          have HBA := Aside0.mk hW3.1
          clear hW3 HBK HB4 HG HSP HSW HB
          have z0 : W3.cell? ⟨gA, 0, none⟩ = some (.int .i64 x.f0) := (blk_cell HBA.out 0).trans rfl
          have z1 : W3.cell? ⟨gA, 1, none⟩ = some (.int .u64 x.f1) := (blk_cell HBA.out 1).trans rfl
          have z2 : W3.cell? ⟨gA, 2, none⟩ = some (.int .i64 x.f2) := (blk_cell HBA.out 2).trans rfl
          have z3 : W3.cell? ⟨gA, 3, none⟩ = some (.int .i64 x.f3) := (blk_cell HBA.out 3).trans rfl
          have z4 : W3.cell? ⟨gA, 4, none⟩ = some (.slice A4 x.f4.length c4) := (blk_cell HBA.out 4).trans rfl
          have HKD : Aside0 (∀ w5 (o : Obj), Stp w p W3.drew w5 → W3.heap[gA]? = some o → w5.heap[gA]? = some o) := ⟨fun w5 o ht hb => ht.blk (W := W3.drew) hb HNA.out⟩
          have HKW : Aside0 (∀ w5 (o : Obj), Stp w p W3 w5 → W3.heap[gA]? = some o → w5.heap[gA]? = some o) := ⟨fun w5 o ht hb => ht.blk hb HNA.out⟩
          by_cases q0 : x.f0 = 0
          · have d0 : (x.f0 == 0) = true := beq_iff_eq.mpr q0
            clear q0
            have HC1 := Aside0.mk (chance_byte w W3 p ls HSP3.out HB3.out)
            have HC2 : Aside0 (∀ w5, Src 30 w w5 (some ⟨gB, 0, none⟩) ls → Below w.heap.size w w5 → _) := ⟨fun w5 hw5 hb5 => ref_byte w w5 (some ⟨gB, 0, none⟩) ls hw5 hb5 (by simp)⟩
            obtain ⟨y, hy⟩ : ∃ y, hdS ls = y := ⟨_, rfl⟩
            obtain ⟨LS, hLS⟩ : ∃ LS, ls.tail = LS := ⟨_, rfl⟩
            rw [hy, hLS] at HC1
            simp only [hy, hLS] at HC2
            have HBY2 : Aside0 (Bytes LS) := ⟨by rw [← hLS]; exact bytes_tail HBY.out⟩
            clear hy hLS
            go_wp2_with (first | (go_at_call 18; (with_reducible refine HC1.out.mono ?_); rintro e W5 ⟨rfl, hs5, ht5⟩; have HS5 := Aside0.mk hs5; have HT5 := Aside0.mk ht5; have HC3 := Aside0.mk (HC2.out W5 (HSW3.out.keep ht5 (fun a b h1 h2 => by cases h1; exact HNE.out b h2)) ht5.1); have y1 := (blk_cell (HKW.out W5 _ ht5 HBA.out) 1).trans rfl; clear hs5 ht5) | (go_at_call 19; (with_reducible refine HC3.out.mono ?_); rintro e W6 ⟨rfl, hs6, ht6⟩; have HSW6 := Aside0.mk hs6; have HSP6 := Aside0.mk (HS5.out.keep ht6 (fun a b h1 h2 => by cases h2; exact fun h3 => HNE.out a h1 h3.symm)); have HB6 := Aside0.mk ht6.1; clear hs6 ht6))
            go_wp2
            have HLF : Aside0 (∀ n, Calls Try.prog 26 #[.pointer p] (W6.drewN n) fun e w' => e = .returned (.int .i64 (LS.length : Int)) ∧ W6.drewN n = w') := ⟨fun n => (chance_left w (W6.drewN n) p LS (HSP6.out.below (pw_below_drewN (Below.refl _ _) n))).mono (fun e w' h => ⟨h.1, h.2.symm⟩)⟩
            obtain ⟨Aq, cq, hzq⟩ : ∃ A c, W6.cell? ⟨gB, 0, none⟩ = some (.slice A LS.length c) := by
              rcases HSW6.out with ⟨h, _⟩ | ⟨g, A, c, h, h1, _⟩
              · cases h
              · cases h; exact ⟨A, c, (blk_cell h1 0).trans rfl⟩
            go_region_held3 (fun w' => w'.cell? ⟨gB, 0, none⟩ = some (.slice Aq LS.length cq)) (go_keep)
              (first | (go_at_call 26; refine (HLF.out _).mono ?_; rintro e w7 ⟨rfl, rfl⟩))
            go_wp2
            go_roundg gk
            case measure => omega
            case rel => exact ⟨wrap64 (i + 1), LS, rfl, ⟨by have := HI.out; rw [hw.out]; omega⟩, HBY2, ⟨HSP6.out.below ⟨rfl, rfl, rfl, Nat.le_refl _, fun _ _ => rfl⟩⟩, ⟨HSW6.out.below ⟨rfl, rfl, rfl, Nat.le_refl _, fun _ _ => rfl⟩⟩, ⟨below_step HB6.out ⟨rfl, rfl, rfl, Nat.le_refl _, fun _ _ => rfl⟩⟩⟩
          have d0 : (x.f0 == 0) = false := beq_eq_false_iff_ne.mpr q0
          by_cases q1 : x.f0 = 1
          · have d1 : (x.f0 == 1) = true := beq_iff_eq.mpr q1
            clear q0 q1
            have HC1 := Aside0.mk (chance_below w W3.drew p ls x.f1 HQ.out.1 HQ.out.2 (HSP3.out.below (below_drew (Below.refl _ _))) (below_drew HB3.out))
            have HC2 : Aside0 (∀ w5, Src 30 w w5 (some ⟨gB, 0, none⟩) ls → Below w.heap.size w w5 → _) := ⟨fun w5 hw5 hb5 => ref_below w w5 (some ⟨gB, 0, none⟩) ls x.f1 HQ.out.1 HQ.out.2 hw5 hb5 (by simp)⟩
            have HEQ := Aside0.mk (below_eq HQ.out.1 HQ.out.2 HBY.out).1
            rw [HEQ.out] at HC2
            obtain ⟨y, hy⟩ : ∃ y, (belowS x.f1 ls).1 = y := ⟨_, rfl⟩
            obtain ⟨LS, hLS⟩ : ∃ LS, (belowS x.f1 ls).2 = LS := ⟨_, rfl⟩
            simp only [hy, hLS] at HC1
            simp only [hy, hLS] at HC2
            have HBY2 : Aside0 (Bytes LS) := ⟨by rw [← hLS]; exact (below_eq HQ.out.1 HQ.out.2 HBY.out).2⟩
            clear hy hLS
            go_wp2
            go_region_held3 (fun w' => w'.cell? ⟨gA, 1, none⟩ = some (.int .u64 x.f1)) (first | exact Y5 | exact Y6 | go_keep) (first | (go_at_call 20; (with_reducible refine HC1.out.mono ?_); rintro e W5 ⟨rfl, hs5, ht5⟩; have HS5 := Aside0.mk hs5; have HT5 := Aside0.mk ht5; have HC3 := Aside0.mk (HC2.out W5 (HSW3.out.keepd ht5 (fun a b h1 h2 => by cases h1; exact HNE.out b h2)) ht5.1); have Z5 := Aside0.mk (HKD.out W5 _ ht5 HBA.out); have Y5 : W5.cell? ⟨gA, 1, none⟩ = some (.int .u64 x.f1) := (blk_cell Z5.out 1).trans rfl; clear hs5 ht5) | (go_at_call 21; (with_reducible refine HC3.out.mono ?_); rintro e W6 ⟨rfl, hs6, ht6⟩; have HSW6 := Aside0.mk hs6; have HSP6 := Aside0.mk (HS5.out.keep ht6 (fun a b h1 h2 => by cases h2; exact fun h3 => HNE.out a h1 h3.symm)); have HB6 := Aside0.mk ht6.1; have Z6 := Aside0.mk (ht6.blk Z5.out (fun a h_ => by cases h_; exact HNB.out)); have Y6 : W6.cell? ⟨gA, 1, none⟩ = some (.int .u64 x.f1) := (blk_cell Z6.out 1).trans rfl; clear hs6 ht6))
            go_wp2
            have HLF : Aside0 (∀ n, Calls Try.prog 26 #[.pointer p] (W6.drewN n) fun e w' => e = .returned (.int .i64 (LS.length : Int)) ∧ W6.drewN n = w') := ⟨fun n => (chance_left w (W6.drewN n) p LS (HSP6.out.below (pw_below_drewN (Below.refl _ _) n))).mono (fun e w' h => ⟨h.1, h.2.symm⟩)⟩
            obtain ⟨Aq, cq, hzq⟩ : ∃ A c, W6.cell? ⟨gB, 0, none⟩ = some (.slice A LS.length c) := by
              rcases HSW6.out with ⟨h, _⟩ | ⟨g, A, c, h, h1, _⟩
              · cases h
              · cases h; exact ⟨A, c, (blk_cell h1 0).trans rfl⟩
            go_region_held3 (fun w' => w'.cell? ⟨gB, 0, none⟩ = some (.slice Aq LS.length cq)) (go_keep)
              (first | (go_at_call 26; refine (HLF.out _).mono ?_; rintro e w7 ⟨rfl, rfl⟩))
            go_wp2
            go_roundg gk
            case measure => omega
            case rel => exact ⟨wrap64 (i + 1), LS, rfl, ⟨by have := HI.out; rw [hw.out]; omega⟩, HBY2, ⟨HSP6.out.below ⟨rfl, rfl, rfl, Nat.le_refl _, fun _ _ => rfl⟩⟩, ⟨HSW6.out.below ⟨rfl, rfl, rfl, Nat.le_refl _, fun _ _ => rfl⟩⟩, ⟨below_step HB6.out ⟨rfl, rfl, rfl, Nat.le_refl _, fun _ _ => rfl⟩⟩⟩
          have d1 : (x.f0 == 1) = false := beq_eq_false_iff_ne.mpr q1
          by_cases q2 : x.f0 = 2
          · have d2 : (x.f0 == 2) = true := beq_iff_eq.mpr q2
            clear q0 q1 q2
            have HC1 := Aside0.mk (chance_between w W3.drew p ls x.f2 x.f3 (HSP3.out.below (below_drew (Below.refl _ _))) (below_drew HB3.out))
            have HC2 : Aside0 (∀ w5, Src 30 w w5 (some ⟨gB, 0, none⟩) ls → Below w.heap.size w w5 → _) := ⟨fun w5 hw5 hb5 => ref_between w w5 (some ⟨gB, 0, none⟩) ls x.f2 x.f3 hw5 hb5 (by simp)⟩
            have HEQ := Aside0.mk (between_eq (low := x.f2) (high := x.f3) HBY.out).1
            rw [HEQ.out] at HC2
            obtain ⟨y, hy⟩ : ∃ y, (betweenS x.f2 x.f3 ls).1 = y := ⟨_, rfl⟩
            obtain ⟨LS, hLS⟩ : ∃ LS, (betweenS x.f2 x.f3 ls).2 = LS := ⟨_, rfl⟩
            simp only [hy, hLS] at HC1
            simp only [hy, hLS] at HC2
            have HBY2 : Aside0 (Bytes LS) := ⟨by rw [← hLS]; exact (between_eq HBY.out).2⟩
            clear hy hLS
            go_wp2
            go_region_held3 (fun w' => w'.cell? ⟨gA, 2, none⟩ = some (.int .i64 x.f2) ∧ w'.cell? ⟨gA, 3, none⟩ = some (.int .i64 x.f3)) (first | exact Y5 | exact Y6 | go_keep) (first | (go_at_call 22; (with_reducible refine HC1.out.mono ?_); rintro e W5 ⟨rfl, hs5, ht5⟩; have HS5 := Aside0.mk hs5; have HT5 := Aside0.mk ht5; have HC3 := Aside0.mk (HC2.out W5 (HSW3.out.keepd ht5 (fun a b h1 h2 => by cases h1; exact HNE.out b h2)) ht5.1); have Z5 := Aside0.mk (HKD.out W5 _ ht5 HBA.out); have Y5 : W5.cell? ⟨gA, 2, none⟩ = some (.int .i64 x.f2) ∧ W5.cell? ⟨gA, 3, none⟩ = some (.int .i64 x.f3) := ⟨(blk_cell Z5.out 2).trans rfl, (blk_cell Z5.out 3).trans rfl⟩; clear hs5 ht5) | (go_at_call 23; (with_reducible refine HC3.out.mono ?_); rintro e W6 ⟨rfl, hs6, ht6⟩; have HSW6 := Aside0.mk hs6; have HSP6 := Aside0.mk (HS5.out.keep ht6 (fun a b h1 h2 => by cases h2; exact fun h3 => HNE.out a h1 h3.symm)); have HB6 := Aside0.mk ht6.1; have Z6 := Aside0.mk (ht6.blk Z5.out (fun a h_ => by cases h_; exact HNB.out)); have Y6 : W6.cell? ⟨gA, 2, none⟩ = some (.int .i64 x.f2) ∧ W6.cell? ⟨gA, 3, none⟩ = some (.int .i64 x.f3) := ⟨(blk_cell Z6.out 2).trans rfl, (blk_cell Z6.out 3).trans rfl⟩; clear hs6 ht6))
            go_wp2
            have HLF : Aside0 (∀ n, Calls Try.prog 26 #[.pointer p] (W6.drewN n) fun e w' => e = .returned (.int .i64 (LS.length : Int)) ∧ W6.drewN n = w') := ⟨fun n => (chance_left w (W6.drewN n) p LS (HSP6.out.below (pw_below_drewN (Below.refl _ _) n))).mono (fun e w' h => ⟨h.1, h.2.symm⟩)⟩
            obtain ⟨Aq, cq, hzq⟩ : ∃ A c, W6.cell? ⟨gB, 0, none⟩ = some (.slice A LS.length c) := by
              rcases HSW6.out with ⟨h, _⟩ | ⟨g, A, c, h, h1, _⟩
              · cases h
              · cases h; exact ⟨A, c, (blk_cell h1 0).trans rfl⟩
            go_region_held3 (fun w' => w'.cell? ⟨gB, 0, none⟩ = some (.slice Aq LS.length cq)) (go_keep)
              (first | (go_at_call 26; refine (HLF.out _).mono ?_; rintro e w7 ⟨rfl, rfl⟩))
            go_wp2
            go_roundg gk
            case measure => omega
            case rel => exact ⟨wrap64 (i + 1), LS, rfl, ⟨by have := HI.out; rw [hw.out]; omega⟩, HBY2, ⟨HSP6.out.below ⟨rfl, rfl, rfl, Nat.le_refl _, fun _ _ => rfl⟩⟩, ⟨HSW6.out.below ⟨rfl, rfl, rfl, Nat.le_refl _, fun _ _ => rfl⟩⟩, ⟨below_step HB6.out ⟨rfl, rfl, rfl, Nat.le_refl _, fun _ _ => rfl⟩⟩⟩
          have d2 : (x.f0 == 2) = false := beq_eq_false_iff_ne.mpr q2
          · clear q0 q1 q2
            have HC1 := Aside0.mk (chance_pick w W3.drew p ls A4 c4 x.f4 HA4.out (HSP3.out.below (below_drew (Below.refl _ _))) (HSP3.out.below (below_drew (Below.refl _ _))).lt (below_drew HB3.out))
            have HC2 : Aside0 (∀ w5, Src 30 w w5 (some ⟨gB, 0, none⟩) ls → Below w.heap.size w w5 → _) := ⟨fun w5 hw5 hb5 => ref_pick w w5 (some ⟨gB, 0, none⟩) ls A4 c4 x.f4 HA4.out (by have := HW4.out; omega) hw5 hw5.lt hb5 (by simp)⟩
            have HEQ := Aside0.mk (pick_eq (ws := x.f4) (by have := HW4.out; omega) HBY.out).1
            rw [HEQ.out] at HC2
            obtain ⟨y, hy⟩ : ∃ y, (pickS x.f4 ls).1 = y := ⟨_, rfl⟩
            obtain ⟨LS, hLS⟩ : ∃ LS, (pickS x.f4 ls).2 = LS := ⟨_, rfl⟩
            simp only [hy, hLS] at HC1
            simp only [hy, hLS] at HC2
            have HBY2 : Aside0 (Bytes LS) := ⟨by rw [← hLS]; exact (pick_eq (ws := x.f4) (by have := HW4.out; omega) HBY.out).2⟩
            clear hy hLS
            go_wp2
            go_region_held3 (fun w' => w'.cell? ⟨gA, 4, none⟩ = some (.slice A4 x.f4.length c4)) (first | exact Y5 | exact Y6 | go_keep) (first | (go_at_call 24; (with_reducible refine HC1.out.mono ?_); rintro e W5 ⟨rfl, hs5, ht5⟩; have HS5 := Aside0.mk hs5; have HT5 := Aside0.mk ht5; have HC3 := Aside0.mk (HC2.out W5 (HSW3.out.keepd ht5 (fun a b h1 h2 => by cases h1; exact HNE.out b h2)) ht5.1); have Z5 := Aside0.mk (HKD.out W5 _ ht5 HBA.out); have Y5 : W5.cell? ⟨gA, 4, none⟩ = some (.slice A4 x.f4.length c4) := (blk_cell Z5.out 4).trans rfl; clear hs5 ht5) | (go_at_call 25; (with_reducible refine HC3.out.mono ?_); rintro e W6 ⟨rfl, hs6, ht6⟩; have HSW6 := Aside0.mk hs6; have HSP6 := Aside0.mk (HS5.out.keep ht6 (fun a b h1 h2 => by cases h2; exact fun h3 => HNE.out a h1 h3.symm)); have HB6 := Aside0.mk ht6.1; have Z6 := Aside0.mk (ht6.blk Z5.out (fun a h_ => by cases h_; exact HNB.out)); have Y6 : W6.cell? ⟨gA, 4, none⟩ = some (.slice A4 x.f4.length c4) := (blk_cell Z6.out 4).trans rfl; clear hs6 ht6))
            go_wp2
            have HLF : Aside0 (∀ n, Calls Try.prog 26 #[.pointer p] (W6.drewN n) fun e w' => e = .returned (.int .i64 (LS.length : Int)) ∧ W6.drewN n = w') := ⟨fun n => (chance_left w (W6.drewN n) p LS (HSP6.out.below (pw_below_drewN (Below.refl _ _) n))).mono (fun e w' h => ⟨h.1, h.2.symm⟩)⟩
            obtain ⟨Aq, cq, hzq⟩ : ∃ A c, W6.cell? ⟨gB, 0, none⟩ = some (.slice A LS.length c) := by
              rcases HSW6.out with ⟨h, _⟩ | ⟨g, A, c, h, h1, _⟩
              · cases h
              · cases h; exact ⟨A, c, (blk_cell h1 0).trans rfl⟩
            go_region_held3 (fun w' => w'.cell? ⟨gB, 0, none⟩ = some (.slice Aq LS.length cq)) (go_keep)
              (first | (go_at_call 26; refine (HLF.out _).mono ?_; rintro e w7 ⟨rfl, rfl⟩))
            go_wp2
            go_roundg gk
            case measure => omega
            case rel => exact ⟨wrap64 (i + 1), LS, rfl, ⟨by have := HI.out; rw [hw.out]; omega⟩, HBY2, ⟨HSP6.out.below ⟨rfl, rfl, rfl, Nat.le_refl _, fun _ _ => rfl⟩⟩, ⟨HSW6.out.below ⟨rfl, rfl, rfl, Nat.le_refl _, fun _ _ => rfl⟩⟩, ⟨below_step HB6.out ⟨rfl, rfl, rfl, Nat.le_refl _, fun _ _ => rfl⟩⟩⟩
      · have hd : decide (i < (l1.length : Int)) = false := decide_eq_false hlt
        go_wp2_with (go_at_call 16; refine (HLV.out _).mono ?_; rintro e w9 ⟨rfl, hb⟩; have HX9 := Aside0.mk (below_step HB.out hb); clear hb)
        go_ret
        exact ⟨rfl, HX9.out⟩

end Go.Proofs.Ytdfkbdcdgbjgcaa.Cha
