/- Printed by this session's wip/drive.py over the translation; some functions by hand. -/
import Derived.Test.YtjjnbcaemognhaaZClrx0
import Derived.Test.YtjjnbcaemognhaaZClrx2
import Derived.Test.YtjjnbcaemognhaaZClrx3
namespace Go.Proofs.Ytjjnbcaemognhaa.Clr
open Go.RowKit Go.Proofs.YtjjnbcaemognhaaW.PrintWords Go.Proofs.YtjjnbcaemognhaaW.PrintLast Go.Proofs.YtjjnbcaemognhaaW.PrintMore
attribute [local go_sem] max2_int min2_int max_two min_two max_three min_three max_four min_four
set_option linter.unusedVariables false
set_option linter.unusedSimpArgs false
abbrev SO := S42
abbrev KO := k42
instance : Inhabited SO := ⟨z42⟩
def encO (x : SO) : List Value := [.int .u64 x.f0, .int .i64 x.f1, .int .i64 x.f2, .int .i64 x.f3, .int .i64 x.f4, .int .u64 x.f5]
def cmpO (x y : SO) : Int := (order_Sorted_1.f 4 x.f0 x.f1 x.f2 x.f3 x.f4 x.f5 y.f0 y.f1 y.f2 y.f3 y.f4 y.f5).getD 0
theorem or_int_two (a b : Int) : cmp_Or_int.f 3 [a, b] = some (if a = 0 then (if b = 0 then 0 else b) else a) := by
  have e : rd [a, b] 0 = a := rfl
  have e1 : rd [a, b] 1 = b := rfl
  have w1 : wrap64 (0 + 1) = 1 := by decide +kernel
  have w2 : wrap64 (1 + 1) = 2 := by decide +kernel
  simp only [cmp_Or_int.f, cmp_Or_int.l0, List.length_cons, List.length_nil, e, e1, w1, w2]
  by_cases h : a = 0
  · by_cases h' : b = 0
    · simp [h, h', e1, w2]
    · simp [h, h', e1]
  · simp [h]
theorem compare_u (a b : Int) : ∃ c, cmp_Compare_uint64.f a b = some c := by
  simp only [cmp_Compare_uint64.f, cmp_isNaN_uint64.f, Option.bind_some]
  repeat' split
  all_goals exact ⟨_, rfl⟩
theorem compare_i (a b : Int) : ∃ c, cmp_Compare_int.f a b = some c := by
  simp only [cmp_Compare_int.f, cmp_isNaN_int.f, Option.bind_some]
  repeat' split
  all_goals exact ⟨_, rfl⟩
theorem ahead_some (a0 a1 a2 a3 a4 a5 b0 b1 b2 b3 b4 b5 : Int) : ∃ r, order_Ahead.f 4 a0 a1 a2 a3 a4 a5 b0 b1 b2 b3 b4 b5 = some r := by
  obtain ⟨c, hc⟩ := compare_u a5 b5
  obtain ⟨d, hd⟩ := compare_u a0 b0
  simp only [order_Ahead.f, order_Ahead.j0, order_Better.f, hc, hd, Option.bind_some, or_int_two]
  repeat' split
  all_goals exact ⟨_, rfl⟩
theorem rank_some (a : Int) : ∃ c, order_rank.f a = some c := by
  simp only [order_rank.f]
  repeat' split
  all_goals exact ⟨_, rfl⟩
theorem cmpO_some (x y : SO) : order_Sorted_1.f 4 x.f0 x.f1 x.f2 x.f3 x.f4 x.f5 y.f0 y.f1 y.f2 y.f3 y.f4 y.f5 = some (cmpO x y) := by
  obtain ⟨r, hr⟩ : ∃ r, order_Sorted_1.f 4 x.f0 x.f1 x.f2 x.f3 x.f4 x.f5 y.f0 y.f1 y.f2 y.f3 y.f4 y.f5 = some r := by
    obtain ⟨a, ha⟩ := ahead_some x.f0 x.f1 x.f2 x.f3 x.f4 x.f5 y.f0 y.f1 y.f2 y.f3 y.f4 y.f5
    obtain ⟨b, hb⟩ := ahead_some y.f0 y.f1 y.f2 y.f3 y.f4 y.f5 x.f0 x.f1 x.f2 x.f3 x.f4 x.f5
    obtain ⟨c, hc⟩ := rank_some x.f2
    obtain ⟨d, hd⟩ := rank_some y.f2
    obtain ⟨z, hz⟩ := compare_i c d
    simp only [order_Sorted_1.f, ha, hb, hc, hd, hz, Option.bind_some]
    repeat' split
    all_goals exact ⟨_, rfl⟩
  rw [hr, cmpO, hr]; rfl
theorem cmpO_calls (W : World) (x y : SO) : Calls Try.prog 46 (#[.agg (encO x).toArray, .agg (encO y).toArray] ++ #[]) W fun e w' => e = .returned (.int .i64 (cmpO x y)) ∧ Below W.heap.size W w' :=
  order_Sorted_1.calls 4 _ _ _ _ _ _ _ _ _ _ _ _ _ W (cmpO_some x y)
set_option maxHeartbeats 8000000 in
set_option maxRecDepth 100000 in
theorem clone_order (A : Option Addr) (c : Nat) (xs : List SO) (w : World) (hC : KO.C w A xs.length xs) (hb : xs.length * 48 ≤ 140737488355328) :
    Calls Try.prog 44 #[.slice A xs.length c] w fun e w' => ∃ v, e = .returned v ∧ KO.R 42 w' w.heap.size (fun _ => True) v xs ∧ Below w.heap.size w w' := by
  have hnil : ∀ W, (binOp .eql 22 (.slice A xs.length c) (.slice none 0 0)).run Try.prog W = .ok (.bool A.isNone) W := fun W => Go.Lib.run_eql_slice_nil W _ _ A _ c 0 0 Try.underlying22
  have hu := Try.underlying22
  obtain ⟨n, hn⟩ : ∃ n, xs.length = n := ⟨_, rfl⟩
  cases A with
  | none =>
    have hz : xs = [] := by
      rcases Nat.eq_zero_or_pos xs.length with h | h
      · exact List.eq_nil_of_length_eq_zero h
      · obtain ⟨ad, e, _⟩ := hC.2.2 h
        cases e
    have HZ := Aside0.mk hz
    rw [hn] at hnil ⊢
    simp only [Option.isNone_none] at hnil
    clear hC hb hn hz
    go_enter Try.func44, Try.ntmps44
    go_wp2
    go_ret
    exact ⟨_, rfl, by rw [HZ.out]; exact Kd.R_nil _ _ _ _ _, Below.refl _ _⟩
  | some ad =>
    have HX := Aside0.mk (And.intro hC hb)
    have HN := Aside0.mk hn
    rw [hn] at hnil ⊢
    simp only [Option.isNone_some] at hnil
    clear hC hb hn
    go_enter Try.func44, Try.ntmps44
    go_wp2_with (first
      | ((with_reducible refine gate_dst (N := 5) rfl ?_); refine Kd.R_lit KO (w0 := w) w.heap.size 42 ?hg (N := 5) ?hd (xs := ([] : List SO)) (inner := []) (ok := fun _ => True) (okp := fun _ => False) ?hr ?hp (fun _ hk => hk.elim) trivial (Below.refl _ _) (Nat.le_refl _) (by decide) ?_; (case hd => rfl); (case hg => rfl); (case hr => first | (go_simp; done) | (go_simp; rfl)); (case hp => exact Reps.none _ _); intro v5 w5 hr5 hb5 _ _)
      | ((with_reducible refine gate_dst (N := 7) rfl ?_); refine Kd.R_append_rows KO (Rr := KO.K w) (w0 := w) w.heap.size (by rfl) (.tmp 5) (.tmp 6) 22 42 (.agg #[.int .u64 0, .int .i64 0, .int .i64 0, .int .i64 0, .int .i64 0, .int .u64 0]) 48 rfl Try.underlying22 (by kernel_rfl) rfl (by decide) (by decide) v5 [] xs (some ad) n c (fun _ => True) (fun _ => False) rfl rfl hr5 ?hc ?hk (fun _ hk => hk.elim) (fun _ _ => trivial) hb5 hb5.size ?hl ?_; (case hc => exact ReadsRow.imp_ (HN.out ▸ HX.out.1) hb5 (fun _ _ h => h)); (case hk => intro x cs h; rw [k42_open h]; exact k42_mkM _ _ _ _); (case hl => have := HX.out.2; rw [HN.out] at this; simpa using this); intro v7 w7 hr7 hb7 _ _))
    go_ret
    exact ⟨_, rfl, by simpa using hr7, hb7⟩
open Go.Sort in
def insL_ren : Go.Shelf.Ren := ⟨fun | 20 => 73 | n => n, fun | 24 => 42 | 22 => 22 | 3 => 3 | 25 => 82 | 4 => 4 | 0 => 0 | n => n, fun | n => n⟩
theorem insL : Go.Proofs.SlLaysF0.n20 Try.prog insL_ren := {
  mixed := by kernel_rfl
  f20 := ⟨Try.f73.name, by decide, Try.func73.trans (congrArg some (by kernel_rfl))⟩
  t0 := Try.underlying0
  a0 := Try.isAgg0
  z0 := Try.sizeOf0
  v0 := Try.zeroValue0
  t3 := Try.underlying3
  a3 := Try.isAgg3
  z3 := Try.sizeOf3
  v3 := Try.zeroValue3
  t4 := Try.underlying4
  a4 := Try.isAgg4
  z4 := Try.sizeOf4
  v4 := Try.zeroValue4
  t22 := Try.underlying22
  a22 := Try.isAgg22
  z22 := Try.sizeOf22
  v22 := Try.zeroValue22
  t25 := Try.underlying82
  a25 := Try.isAgg82
  z25 := Try.sizeOf82
  v25 := Try.zeroValue82 }
open Go.Sort in
theorem ins_order (blk cap a b : Nat) (d : Array SO) (w : World) (hH : HoldsK encO 6 w blk 0 d) (hblk : blk < w.heap.size) (hab : a ≤ b) (hb : b ≤ d.size) (hsz : d.size < 4611686018427387904) :
    Calls Try.prog 73 #[.slice (some ⟨blk, 0, none⟩) d.size cap, .int .i64 a, .int .i64 b, .func (.func 46) #[] #[]] w fun e w' => e = .returned (.tuple #[]) ∧ SC encO 6 w blk 0 (Sort.insertionSort (ltOf cmpO) d a b) w' :=
  ins_below insL 6 Try.isAgg42 Try.sizeOf42 encO (fun _ => rfl) (fun x v hv => by simp only [encO, List.mem_cons, List.not_mem_nil, or_false] at hv; rcases hv with rfl | rfl | rfl | rfl | rfl | rfl <;> rfl) cmpO 46 #[] blk 0 cap a b d w (enters_of Try.func46 (by kernel_rfl) rfl) cmpO_calls hH hblk hab hb hsz
set_option maxHeartbeats 4000000 in
set_option maxRecDepth 100000 in
theorem ins_none (v f : Value) (w : World) : Calls Try.prog 73 #[v, .int .i64 0, .int .i64 0, f] w fun e w' => e = .returned (.tuple #[]) ∧ w' = w := by
  go_enter Try.func73, Try.ntmps73
  go_wp2
  refine wp_loop_rounds 1 ?_
  rw [rounds_succ]
  go_wp2
  go_end0
  exact ⟨rfl, rfl⟩
theorem size_insInner_o (lt : SO → SO → Bool) (a : Nat) : ∀ (j : Nat) (d : Array SO), (Sort.insInner lt a j d).size = d.size
  | 0, d => rfl
  | j + 1, d => by
    unfold Sort.insInner
    split
    · rw [size_insInner_o lt a j, Sort.size_swp]
    · rfl
theorem size_insOuter_o (lt : SO → SO → Bool) (a b : Nat) : ∀ (m i : Nat) (d : Array SO), b - i ≤ m → (Sort.insOuter lt a b i d).size = d.size
  | 0, i, d, h => by
    unfold Sort.insOuter
    rw [if_neg (by omega)]
  | m + 1, i, d, h => by
    unfold Sort.insOuter
    split
    · rw [size_insOuter_o lt a b m (i + 1) _ (by omega), size_insInner_o]
    · rfl
section
attribute [-go_sem] Go.loadCellsFrom Go.storeCells
open Go.Sort
def swapGo {α : Type} [Inhabited α] (a b : Nat) : Nat → Nat → Array α → Array α
  | 0, _, d => d
  | m + 1, i, d => swapGo a b m (i + 1) (swp d (a + i) (b + i))
theorem encO_one (x : SO) : ∀ v ∈ encO x, v.oneCell' = true := fun v hv => by simp only [encO, List.mem_cons, List.not_mem_nil, or_false] at hv; rcases hv with rfl | rfl | rfl | rfl | rfl | rfl <;> rfl
theorem encO_len (x : SO) : (encO x).length = 6 := rfl
set_option maxHeartbeats 4000000 in
set_option maxRecDepth 1000000 in
theorem swapRange_order (f : Value) (blk cap a b n N : Nat) (d : Array SO) (w : World) (hN : d.size = N) (hH : HoldsK encO 6 w blk 0 d) (hblk : blk < w.heap.size) (ha : a + n ≤ d.size) (hb : b + n ≤ d.size) (hsz : d.size < 4611686018427387904) :
    Calls Try.prog 81 #[.slice (some ⟨blk, 0, none⟩) N cap, .int .i64 a, .int .i64 b, .int .i64 n, f] w fun e w' => e = .returned (.tuple #[]) ∧ SC encO 6 w blk 0 (swapGo a b n 0 d) w' := by
  subst hN
  have mixed : Try.prog.follows .mixedOrders = true := by kernel_rfl
  have HST : Hid (SC encO 6 w blk 0 d w) := SC.start hH
  have HH : Hid (HoldsK encO 6 w blk 0 d) := hH
  clear hH
  go_enter Try.func81, Try.ntmps81
  go_wp2
  go_loopg [10] n (fun g1 vi wr => ∃ (i : Nat) (dk : Array SO), vi = .int .i64 i ∧ i ≤ n ∧ n ≤ i + g1 ∧ dk.size = d.size ∧ Hid (SC encO 6 w blk 0 dk wr) ∧ Hid (swapGo a b (n - i) i dk = swapGo a b n 0 d))
  case atStart => exact ⟨0, d, rfl, by omega, by omega, rfl, HST, rfl⟩
  case round =>
    obtain ⟨i, dk, rfl, hin, hg, hsk, HS, HO⟩ := hrel
    by_cases hlt : i < n
    · have hltz : (i : Int) < (n : Int) := by omega
      obtain ⟨xa, hxa⟩ : ∃ x, dk[a + i]! = x := ⟨_, rfl⟩
      obtain ⟨xb, hxb⟩ : ∃ x, dk[b + i]! = x := ⟨_, rfl⟩
      have hHd : HoldsK encO 6 wr.drew blk 0 dk := (HS.out.below hblk (Below.refl _ _).drew).holds HH.out hsk
      have la : Sem.run Try.prog (loadCellsFrom ⟨blk, 0 + (a + i) * 6, none⟩ 0 6 #[]) wr.drew = .ok (encO xa).toArray wr.drew := by rw [← hxa]; exact run_loadCellsFrom_list _ _ _ _ 6 rfl (HoldsK.cells hHd encO_len (by omega))
      have lb : Sem.run Try.prog (loadCellsFrom ⟨blk, 0 + (b + i) * 6, none⟩ 0 6 #[]) wr.drew = .ok (encO xb).toArray wr.drew := by rw [← hxb]; exact run_loadCellsFrom_list _ _ _ _ 6 rfl (HoldsK.cells hHd encO_len (by omega))
      have s1 : Sem.run Try.prog (storeCells ⟨blk, 0 + (a + i) * 6, none⟩ (encO xb) 0) wr.drew = .ok () (wr.drew.setCells blk (0 + (a + i) * 6) (encO xb)) := stores_of_holds _ hHd ((a + i) * 6) _ (by rw [encO_len, size_flatK]; omega) (encO_one _)
      have s2 : Sem.run Try.prog (storeCells ⟨blk, 0 + (b + i) * 6, none⟩ (encO xa) 0) (wr.drew.setCells blk (0 + (a + i) * 6) (encO xb)) = .ok () ((wr.drew.setCells blk (0 + (a + i) * 6) (encO xb)).setCells blk (0 + (b + i) * 6) (encO xa)) :=
        stores_of_holds _ (holds_setCells_c hHd ((a + i) * 6) _ (by rw [encO_len, size_flatK]; omega)) ((b + i) * 6) _ (by rw [encO_len, size_setMany, size_flatK]; omega) (encO_one _)
      have wa : IntKind.i64.wrap ((a : Int) + (i : Int)) = ((a + i : Nat) : Int) := by rw [IntKind.wrap_i64]; omega
      have wb : IntKind.i64.wrap ((b : Int) + (i : Int)) = ((b + i : Nat) : Int) := by rw [IntKind.wrap_i64]; omega
      simp only [Nat.zero_add] at la lb s1 s2
      clear hHd
      obtain ⟨cA, hcA⟩ : ∃ c, c = encO xa := ⟨_, rfl⟩
      obtain ⟨cB, hcB⟩ : ∃ c, c = encO xb := ⟨_, rfl⟩
      rw [← hcA] at la s2
      rw [← hcB] at lb s1 s2
      have CC : Hid (cA = encO xa ∧ cB = encO xb) := ⟨hcA, hcB⟩
      have hlA : cA.length = 6 := by rw [hcA]; rfl
      have hlB : cB.length = 6 := by rw [hcB]; rfl
      clear hcA hcB
      go_wp2_with fail
      go_big_region_o
      all_goals go_wp2
      go_roundg (n - (i + 1))
      case measure => omega
      case rel =>
        refine ⟨i + 1, Sort.swp dk (a + i) (b + i), by go_num, by omega, by omega, by rw [size_swp]; exact hsk, (show Hid _ from ?_), (show Hid _ from ?_)⟩
        · rw [CC.out.1, CC.out.2, ← hxa, ← hxb]
          have q := SC.swp encO_len HS.out (a + i) (b + i) (by omega) (by omega)
          show SC _ _ _ _ _ _ _
          simpa only [Nat.zero_add] using q
        · show _ = _
          rw [← HO.out, show n - i = (n - (i + 1)) + 1 by omega]
          rfl
    · have hltz : ¬ (i : Int) < (n : Int) := by omega
      go_wp2
      go_end0
      refine ⟨rfl, ?_⟩
      have e : n - i = 0 := by omega
      have h := HO.out
      rw [e] at h
      rw [← h]; exact HS.out
theorem size_swapGo {α : Type} [Inhabited α] (a b : Nat) : ∀ (m i : Nat) (d : Array α), (swapGo a b m i d).size = d.size
  | 0, _, _ => rfl
  | m + 1, i, d => by rw [swapGo, size_swapGo a b m, size_swp]
def rotGo {α : Type} [Inhabited α] (m : Nat) : Nat → Nat → Nat → Array α → Array α
  | 0, _, _, d => d
  | k + 1, i, j, d => if i = j then swapGo (m - i) m i 0 d else if j < i then rotGo m k (i - j) j (swapGo (m - i) m j 0 d) else rotGo m k i (j - i) (swapGo (m - i) (m + j - i) i 0 d)
theorem size_rotGo {α : Type} [Inhabited α] (m : Nat) : ∀ (k i j : Nat) (d : Array α), (rotGo m k i j d).size = d.size
  | 0, _, _, _ => rfl
  | k + 1, i, j, d => by
    rw [rotGo]
    split
    · exact size_swapGo _ _ _ _ _
    · split
      · rw [size_rotGo m k, size_swapGo]
      · rw [size_rotGo m k, size_swapGo]
set_option maxHeartbeats 4000000 in
set_option maxRecDepth 1000000 in
theorem rotate_order (f : Value) (blk cap a m b N : Nat) (d : Array SO) (w : World) (hN : d.size = N) (hH : HoldsK encO 6 w blk 0 d) (hblk : blk < w.heap.size) (ham : a < m) (hmb : m < b) (hb : b ≤ N) (hsz : N < 4611686018427387904) :
    Calls Try.prog 79 #[.slice (some ⟨blk, 0, none⟩) N cap, .int .i64 a, .int .i64 m, .int .i64 b, f] w fun e w' => e = .returned (.tuple #[]) ∧ SC encO 6 w blk 0 (rotGo m (b - a) (m - a) (b - m) d) w' := by
  have HST : Hid (SC encO 6 w blk 0 d w) := SC.start hH
  have HH : Hid (HoldsK encO 6 w blk 0 d) := hH
  clear hH
  have w1 : IntKind.i64.wrap ((m : Int) - (a : Int)) = ((m - a : Nat) : Int) := by rw [IntKind.wrap_i64]; omega
  have w2 : IntKind.i64.wrap ((b : Int) - (m : Int)) = ((b - m : Nat) : Int) := by rw [IntKind.wrap_i64]; omega
  go_enter Try.func79, Try.ntmps79
  go_wp2
  go_loopg [10, 11] (b - a) (fun g1 vi vj wr => ∃ (i j k : Nat) (dk : Array SO), vi = .int .i64 i ∧ vj = .int .i64 j ∧ 1 ≤ i ∧ i ≤ m ∧ 1 ≤ j ∧ m + j ≤ N ∧ i + j ≤ g1 ∧ i + j ≤ k ∧ dk.size = N ∧ Hid (SC encO 6 w blk 0 dk wr) ∧ Hid (rotGo m k i j dk = rotGo m (b - a) (m - a) (b - m) d))
  case atStart => exact ⟨m - a, b - m, b - a, d, by first | rfl | go_num, by first | rfl | go_num, by omega, by omega, by omega, by omega, by omega, by omega, hN, HST, rfl⟩
  case round =>
    obtain ⟨i, j, k, dk, rfl, rfl, hi1, him, hj1, hjN, hg, hk, hsk, HS, HO⟩ := hrel
    obtain ⟨k, rfl⟩ : ∃ k', k = k' + 1 := ⟨k - 1, by omega⟩
    have w3 : IntKind.i64.wrap ((m : Int) - (i : Int)) = ((m - i : Nat) : Int) := by rw [IntKind.wrap_i64]; omega
    have hHk := HS.out.holds HH.out (by omega : dk.size = d.size)
    have hbk : blk < wr.heap.size := Nat.lt_of_lt_of_le hblk HS.out.kb.size
    by_cases hne : i = j
    · subst hne
      have hc := swapRange_order f blk cap (m - i) m i N dk wr hsk hHk hbk (by omega) (by omega) (by omega)
      have HC := Aside0.mk hc
      clear hc hHk
      go_wp2_with (go_at_call 81; (with_reducible refine HC.out.mono ?_); rintro e w5 ⟨rfl, hs⟩; have HS5 := Aside0.mk hs; clear hs)
      go_end0
      refine ⟨rfl, ?_⟩
      have h := HO.out
      rw [rotGo, if_pos rfl] at h
      rw [← h]
      exact HS.out.trans HS5.out (by rw [size_swapGo])
    · have hz : ¬ (i : Int) = (j : Int) := by omega
      have hzb : ((i : Int) == (j : Int)) = false := by simp; omega
      have hzc : ((i : Int) != (j : Int)) = true := by simp; omega
      by_cases hlt : j < i
      · have hltz : (j : Int) < (i : Int) := by omega
        have w4 : IntKind.i64.wrap ((i : Int) - (j : Int)) = ((i - j : Nat) : Int) := by rw [IntKind.wrap_i64]; omega
        have hc := swapRange_order f blk cap (m - i) m j N dk wr hsk hHk hbk (by omega) (by omega) (by omega)
        have HC := Aside0.mk hc
        clear hc hHk
        go_wp2_with (go_at_call 81; (with_reducible refine HC.out.mono ?_); rintro e w5 ⟨rfl, hs⟩; have HS5 := Aside0.mk hs; clear hs)
        go_roundg (i + j - 1)
        case measure => omega
        case rel => exact ⟨i - j, j, k, swapGo (m - i) m j 0 dk, by first | rfl | go_num, rfl, by omega, by omega, hj1, hjN, by omega, by omega, by rw [size_swapGo]; exact hsk, HS.out.trans HS5.out (by rw [size_swapGo]), by have h := HO.out; rw [rotGo, if_neg hne, if_pos hlt] at h; exact h⟩
      · have hltz : ¬ (j : Int) < (i : Int) := by omega
        have w4 : IntKind.i64.wrap ((j : Int) - (i : Int)) = ((j - i : Nat) : Int) := by rw [IntKind.wrap_i64]; omega
        have w6 : IntKind.i64.wrap ((m : Int) + (j : Int)) = ((m + j : Nat) : Int) := by rw [IntKind.wrap_i64]; omega
        have w7 : IntKind.i64.wrap (((m + j : Nat) : Int) - (i : Int)) = ((m + j - i : Nat) : Int) := by rw [IntKind.wrap_i64]; omega
        have hc := swapRange_order f blk cap (m - i) (m + j - i) i N dk wr hsk hHk hbk (by omega) (by omega) (by omega)
        have HC := Aside0.mk hc
        clear hc hHk
        go_wp2_with (go_at_call 81; rw [show ((m : Int) + (j : Int) - (i : Int)) = ((m + j - i : Nat) : Int) by omega]; (with_reducible refine HC.out.mono ?_); rintro e w5 ⟨rfl, hs⟩; have HS5 := Aside0.mk hs; clear hs)
        go_roundg (i + j - 1)
        case measure => omega
        case rel => exact ⟨i, j - i, k, swapGo (m - i) (m + j - i) i 0 dk, rfl, by first | rfl | go_num, hi1, him, by omega, by omega, by omega, by omega, by rw [size_swapGo]; exact hsk, HS.out.trans HS5.out (by rw [size_swapGo]), by have h := HO.out; rw [rotGo, if_neg hne, if_neg hlt] at h; exact h⟩
end
section
attribute [-go_sem] Go.loadCellsFrom Go.storeCells
open Go.Sort
def bsr (p : Nat → Bool) : Nat → Nat → Nat → Nat
  | 0, i, _ => i
  | k + 1, i, j => if i < j then (if p ((i + j) / 2) then bsr p k ((i + j) / 2 + 1) j else bsr p k i ((i + j) / 2)) else i
def upGo {α : Type} [Inhabited α] : Nat → Nat → Array α → Array α
  | 0, _, d => d
  | m + 1, k, d => upGo m (k + 1) (swp d k (k + 1))
set_option maxHeartbeats 4000000 in
set_option maxRecDepth 1000000 in
theorem sym_one (blk cap a m b N : Nat) (d : Array SO) (w : World) (hN : d.size = N) (hH : HoldsK encO 6 w blk 0 d) (hblk : blk < w.heap.size) (ham : m = a + 1) (hmb : m < b) (hb : b ≤ N) (hsz : N < 4611686018427387904) :
    Calls Try.prog 74 #[.slice (some ⟨blk, 0, none⟩) N cap, .int .i64 a, .int .i64 m, .int .i64 b, .func (.func 46) #[] #[]] w fun e w' => e = .returned (.tuple #[]) ∧ SC encO 6 w blk 0 (upGo (bsr (fun h => ltOf cmpO d[h]! d[a]!) (b - m) m b - 1 - a) a d) w' := by
  obtain ⟨p, hp⟩ : ∃ p : Nat → Bool, (fun h => ltOf cmpO d[h]! d[a]!) = p := ⟨_, rfl⟩
  rw [hp]
  have HP := Aside0.mk hp
  clear hp
  have mixed : Try.prog.follows .mixedOrders = true := by kernel_rfl
  have HST : Hid (SC encO 6 w blk 0 d w) := SC.start hH
  have HH : Hid (HoldsK encO 6 w blk 0 d) := hH
  clear hH
  have w1 : IntKind.i64.wrap ((m : Int) - (a : Int)) = 1 := by rw [IntKind.wrap_i64]; omega
  have ham' : a < m := by omega
  have HAM := Aside0.mk ham
  clear ham
  go_enter Try.func74, Try.ntmps74
  go_wp2
  go_loopg [10, 11] (b - m) (fun g1 vi vj wr => ∃ (i j k : Nat), vi = .int .i64 i ∧ vj = .int .i64 j ∧ m ≤ i ∧ i ≤ j ∧ j ≤ b ∧ j ≤ i + g1 ∧ j ≤ i + k ∧ Hid (SC encO 6 w blk 0 d wr) ∧ Hid (bsr p k i j = bsr p (b - m) m b))
  case atStart => exact ⟨m, b, b - m, rfl, rfl, by omega, by omega, by omega, by omega, by omega, HST, rfl⟩
  case round =>
    obtain ⟨i, j, k, rfl, rfl, hmi, hij, hjb, hg, hk, HS, HO⟩ := hrel
    by_cases hlt : i < j
    · obtain ⟨k, rfl⟩ : ∃ k', k = k' + 1 := ⟨k - 1, by omega⟩
      have hltz : (i : Int) < (j : Int) := by omega
      obtain ⟨h, hh⟩ : ∃ h, (i + j) / 2 = h := ⟨_, rfl⟩
      have hhz : ((i : Int) + (j : Int)) / 2 = (h : Int) := by omega
      obtain ⟨xh, hxh⟩ : ∃ x, d[h]! = x := ⟨_, rfl⟩
      obtain ⟨xa, hxa⟩ : ∃ x, d[a]! = x := ⟨_, rfl⟩
      have lh := fun p => SC.ld (P := Try.prog) HS.out HH.out rfl hblk encO_len (i := h) (by omega) hxh p
      have la := fun p => SC.ld (P := Try.prog) HS.out HH.out rfl hblk encO_len (i := a) (by omega) hxa p
      have hcg := fun W => cmpO_calls W xh xa
      obtain ⟨cv, hcv⟩ : ∃ c, cmpO xh xa = c := ⟨_, rfl⟩
      rw [hcv] at hcg
      obtain ⟨cH, hcH⟩ : ∃ c, (encO xh).toArray = c := ⟨_, rfl⟩
      obtain ⟨cA, hcA⟩ : ∃ c, (encO xa).toArray = c := ⟨_, rfl⟩
      rw [hcH] at lh hcg
      rw [hcA] at la hcg
      clear hcH hcA
      simp only [Nat.zero_add] at lh la
      have hhN : (h : Int) < (N : Int) := by omega
      have haN : (a : Int) < (N : Int) := by omega
      have step := HO.out
      rw [bsr, if_pos hlt, hh] at step
      have hlo : p h = decide (cv < 0) := by rw [← HP.out]; show ltOf cmpO d[h]! d[a]! = _; rw [hxh, hxa, ← hcv]; rfl
      rw [hlo] at step
      have HSTEP := Aside0.mk step
      clear step hxh hxa hcv hlo hh
      by_cases hlv : cv < 0
      · go_wp2_with fail
        refine wp_region_quiet_below (by assumption) (by kernel_rfl) ?_
        repeat (quiet_step (first | (go_at_call 46; refine Calls.bw_of _ (hcg _))))
        refine wpQuiet_nil ?_
        intro wq hwq_
        have hwq := Bw.get hwq_
        clear hwq_
        go_wp2
        go_roundg (j - (h + 1))
        case measure => omega
        case rel => exact ⟨h + 1, j, k, by go_num, rfl, by omega, by omega, hjb, by omega, by omega, HS.out.below hblk hwq, by have q := HSTEP.out; rw [if_pos (decide_eq_true hlv)] at q; exact q⟩
      · go_wp2_with fail
        refine wp_region_quiet_below (by assumption) (by kernel_rfl) ?_
        repeat (quiet_step (first | (go_at_call 46; refine Calls.bw_of _ (hcg _))))
        refine wpQuiet_nil ?_
        intro wq hwq_
        have hwq := Bw.get hwq_
        clear hwq_
        go_wp2
        go_roundg (h - i)
        case measure => omega
        case rel => exact ⟨i, h, k, rfl, rfl, hmi, by omega, by omega, by omega, by omega, HS.out.below hblk hwq, by have q := HSTEP.out; rw [if_neg (by simpa using hlv)] at q; exact q⟩
    · have hltz : ¬ (i : Int) < (j : Int) := by omega
      have hij' : i = j := by omega
      have hfin : bsr p (b - m) m b = i := by
        rw [← HO.out]
        cases k with
        | zero => rfl
        | succ k => rw [bsr, if_neg hlt]
      have HF := Aside0.mk hfin
      have wi : IntKind.i64.wrap ((i : Int) - 1) = ((i - 1 : Nat) : Int) := by rw [IntKind.wrap_i64]; omega
      clear hfin hij' HO
      go_wp2
      go_loopg [13] (b - a) (fun g1 vk wr2 => ∃ (q : Nat) (dk : Array SO), vk = .int .i64 q ∧ a ≤ q ∧ q + 1 ≤ i ∧ i ≤ q + 1 + g1 ∧ dk.size = N ∧ Hid (SC encO 6 w blk 0 dk wr2) ∧ Hid (upGo (i - 1 - q) q dk = upGo (i - 1 - a) a d))
      case atStart => exact ⟨a, d, rfl, by omega, by omega, by omega, hN, HS, rfl⟩
      case round =>
        clear HS
        obtain ⟨q, dk, rfl, haq, hqi, hg3, hsk, HS, HO⟩ := hrel
        by_cases hq : q < i - 1
        · have hqz : (q : Int) < ((i - 1 : Nat) : Int) := by omega
          obtain ⟨xa, hxa⟩ : ∃ x, dk[q]! = x := ⟨_, rfl⟩
          obtain ⟨xb, hxb⟩ : ∃ x, dk[q + 1]! = x := ⟨_, rfl⟩
          have hHd : HoldsK encO 6 wr.drew blk 0 dk := (HS.out.below hblk (Below.refl _ _).drew).holds HH.out (by omega)
          have la : Sem.run Try.prog (loadCellsFrom ⟨blk, 0 + q * 6, none⟩ 0 6 #[]) wr.drew = .ok (encO xa).toArray wr.drew := by rw [← hxa]; exact run_loadCellsFrom_list _ _ _ _ 6 rfl (HoldsK.cells hHd encO_len (by omega))
          have lb : Sem.run Try.prog (loadCellsFrom ⟨blk, 0 + (q + 1) * 6, none⟩ 0 6 #[]) wr.drew = .ok (encO xb).toArray wr.drew := by rw [← hxb]; exact run_loadCellsFrom_list _ _ _ _ 6 rfl (HoldsK.cells hHd encO_len (by omega))
          have s1 : Sem.run Try.prog (storeCells ⟨blk, 0 + q * 6, none⟩ (encO xb) 0) wr.drew = .ok () (wr.drew.setCells blk (0 + q * 6) (encO xb)) := stores_of_holds _ hHd (q * 6) _ (by rw [encO_len, size_flatK]; omega) (encO_one _)
          have s2 : Sem.run Try.prog (storeCells ⟨blk, 0 + (q + 1) * 6, none⟩ (encO xa) 0) (wr.drew.setCells blk (0 + q * 6) (encO xb)) = .ok () ((wr.drew.setCells blk (0 + q * 6) (encO xb)).setCells blk (0 + (q + 1) * 6) (encO xa)) :=
            stores_of_holds _ (holds_setCells_c hHd (q * 6) _ (by rw [encO_len, size_flatK]; omega)) ((q + 1) * 6) _ (by rw [encO_len, size_setMany, size_flatK]; omega) (encO_one _)
          have jz : (q : Int) + 1 < (N : Int) := by omega
          have hqN : (q : Int) < (N : Int) := by omega
          have p0 : (0 : Int) ≤ (q : Int) + 1 := by omega
          have e0 : ((q : Int) + 1).toNat = q + 1 := by omega
          simp only [Nat.zero_add] at la lb s1 s2
          clear hHd
          obtain ⟨cA, hcA⟩ : ∃ c, c = encO xa := ⟨_, rfl⟩
          obtain ⟨cB, hcB⟩ : ∃ c, c = encO xb := ⟨_, rfl⟩
          rw [← hcA] at la s2
          rw [← hcB] at lb s1 s2
          have CC : Hid (cA = encO xa ∧ cB = encO xb) := ⟨hcA, hcB⟩
          have hlA : cA.length = 6 := by rw [hcA]; rfl
          have hlB : cB.length = 6 := by rw [hcB]; rfl
          clear hcA hcB
          go_wp2_with fail
          go_big_region_o
          all_goals go_wp2
          go_roundg (i - 1 - (q + 1))
          case measure => omega
          case rel =>
            refine ⟨q + 1, Sort.swp dk q (q + 1), by first | rfl | go_num, by omega, by omega, by omega, by rw [size_swp]; exact hsk, (show Hid _ from ?_), (show Hid _ from ?_)⟩
            · rw [CC.out.1, CC.out.2, ← hxa, ← hxb]
              have q' := SC.swp encO_len HS.out q (q + 1) (by omega) (by omega)
              show SC _ _ _ _ _ _ _
              simpa only [Nat.zero_add] using q'
            · show _ = _
              rw [← HO.out, show i - 1 - q = (i - 1 - (q + 1)) + 1 by omega]
              rfl
        · have hqz : ¬ (q : Int) < ((i - 1 : Nat) : Int) := by omega
          go_wp2
          refine bodyPost_ret (results_none rfl _ _ _) rfl ⟨rfl, ?_⟩
          have e : i - 1 - q = 0 := by omega
          have h := HO.out
          rw [e] at h
          rw [HF.out, ← h]; exact HS.out
end
section
attribute [-go_sem] Go.loadCellsFrom Go.storeCells
open Go.Sort
def dnGo {α : Type} [Inhabited α] : Nat → Nat → Array α → Array α
  | 0, _, d => d
  | m + 1, k, d => dnGo m (k - 1) (swp d k (k - 1))
set_option maxHeartbeats 4000000 in
set_option maxRecDepth 1000000 in
theorem sym_two (blk cap a m b N : Nat) (d : Array SO) (w : World) (hN : d.size = N) (hH : HoldsK encO 6 w blk 0 d) (hblk : blk < w.heap.size) (hna : m - a ≠ 1) (ham : a < m) (hbm : b = m + 1) (hb : b ≤ N) (hsz : N < 4611686018427387904) :
    Calls Try.prog 74 #[.slice (some ⟨blk, 0, none⟩) N cap, .int .i64 a, .int .i64 m, .int .i64 b, .func (.func 46) #[] #[]] w fun e w' => e = .returned (.tuple #[]) ∧ SC encO 6 w blk 0 (dnGo (m - bsr (fun h => !ltOf cmpO d[m]! d[h]!) (m - a) a m) m d) w' := by
  obtain ⟨p, hp⟩ : ∃ p : Nat → Bool, (fun h => !ltOf cmpO d[m]! d[h]!) = p := ⟨_, rfl⟩
  rw [hp]
  have HP := Aside0.mk hp
  clear hp
  have mixed : Try.prog.follows .mixedOrders = true := by kernel_rfl
  have HST : Hid (SC encO 6 w blk 0 d w) := SC.start hH
  have HH : Hid (HoldsK encO 6 w blk 0 d) := hH
  clear hH
  have w1 : IntKind.i64.wrap ((m : Int) - (a : Int)) = (m : Int) - (a : Int) := by rw [IntKind.wrap_i64]; omega
  have w1n : ¬ ((m : Int) - (a : Int)) = 1 := by omega
  have w1b : (((m : Int) - (a : Int)) == 1) = false := by rw [beq_eq_false_iff_ne]; omega
  have w2 : IntKind.i64.wrap ((b : Int) - (m : Int)) = 1 := by rw [IntKind.wrap_i64]; omega
  have hmb : m < b := by omega
  have HBM := Aside0.mk hbm
  clear hbm hna
  go_enter Try.func74, Try.ntmps74
  go_wp2
  go_loopg [14, 15] (m - a) (fun g1 vi vj wr => ∃ (i j k : Nat), vi = .int .i64 i ∧ vj = .int .i64 j ∧ a ≤ i ∧ i ≤ j ∧ j ≤ m ∧ j ≤ i + g1 ∧ j ≤ i + k ∧ Hid (SC encO 6 w blk 0 d wr) ∧ Hid (bsr p k i j = bsr p (m - a) a m))
  case atStart => exact ⟨a, m, m - a, rfl, rfl, by omega, by omega, by omega, by omega, by omega, HST, rfl⟩
  case round =>
    obtain ⟨i, j, k, rfl, rfl, hmi, hij, hjb, hg, hk, HS, HO⟩ := hrel
    by_cases hlt : i < j
    · obtain ⟨k, rfl⟩ : ∃ k', k = k' + 1 := ⟨k - 1, by omega⟩
      have hltz : (i : Int) < (j : Int) := by omega
      obtain ⟨h, hh⟩ : ∃ h, (i + j) / 2 = h := ⟨_, rfl⟩
      have hhz : ((i : Int) + (j : Int)) / 2 = (h : Int) := by omega
      obtain ⟨xh, hxh⟩ : ∃ x, d[h]! = x := ⟨_, rfl⟩
      obtain ⟨xa, hxa⟩ : ∃ x, d[m]! = x := ⟨_, rfl⟩
      have lh := fun p => SC.ld (P := Try.prog) HS.out HH.out rfl hblk encO_len (i := h) (by omega) hxh p
      have la := fun p => SC.ld (P := Try.prog) HS.out HH.out rfl hblk encO_len (i := m) (by omega) hxa p
      have hcg := fun W => cmpO_calls W xa xh
      obtain ⟨cv, hcv⟩ : ∃ c, cmpO xa xh = c := ⟨_, rfl⟩
      rw [hcv] at hcg
      obtain ⟨cH, hcH⟩ : ∃ c, (encO xh).toArray = c := ⟨_, rfl⟩
      obtain ⟨cA, hcA⟩ : ∃ c, (encO xa).toArray = c := ⟨_, rfl⟩
      rw [hcH] at lh hcg
      rw [hcA] at la hcg
      clear hcH hcA
      simp only [Nat.zero_add] at lh la
      have hhN : (h : Int) < (N : Int) := by omega
      have haN : (m : Int) < (N : Int) := by omega
      have step := HO.out
      rw [bsr, if_pos hlt, hh] at step
      have hlo : p h = !decide (cv < 0) := by rw [← HP.out]; show (!ltOf cmpO d[m]! d[h]!) = _; rw [hxh, hxa, ← hcv]; rfl
      rw [hlo] at step
      have HSTEP := Aside0.mk step
      clear step hxh hxa hcv hlo hh
      by_cases hlv : ¬ cv < 0
      · have hlvb : decide (cv < 0) = false := decide_eq_false hlv
        go_wp2_with fail
        refine wp_region_quiet_below (by assumption) (by kernel_rfl) ?_
        repeat (quiet_step (first | (go_at_call 46; refine Calls.bw_of _ (hcg _))))
        refine wpQuiet_nil ?_
        intro wq hwq_
        have hwq := Bw.get hwq_
        clear hwq_
        go_wp2
        go_roundg (j - (h + 1))
        case measure => omega
        case rel => exact ⟨h + 1, j, k, by go_num, rfl, by omega, by omega, hjb, by omega, by omega, HS.out.below hblk hwq, by have q := HSTEP.out; rw [if_pos (by simpa using hlv)] at q; exact q⟩
      · have hlv := Decidable.not_not.1 hlv
        have hlvb : decide (cv < 0) = true := decide_eq_true hlv
        go_wp2_with fail
        refine wp_region_quiet_below (by assumption) (by kernel_rfl) ?_
        repeat (quiet_step (first | (go_at_call 46; refine Calls.bw_of _ (hcg _))))
        refine wpQuiet_nil ?_
        intro wq hwq_
        have hwq := Bw.get hwq_
        clear hwq_
        go_wp2
        go_roundg (h - i)
        case measure => omega
        case rel => exact ⟨i, h, k, rfl, rfl, hmi, by omega, by omega, by omega, by omega, HS.out.below hblk hwq, by have q := HSTEP.out; rw [if_neg (by simpa using hlv)] at q; exact q⟩
    · have hltz : ¬ (i : Int) < (j : Int) := by omega
      have hij' : i = j := by omega
      have hfin : bsr p (m - a) a m = i := by
        rw [← HO.out]
        cases k with
        | zero => rfl
        | succ k => rw [bsr, if_neg hlt]
      have HF := Aside0.mk hfin
      clear hfin hij' HO
      go_wp2
      go_loopg [17] m (fun g1 vk wr2 => ∃ (q : Nat) (dk : Array SO), vk = .int .i64 q ∧ i ≤ q ∧ q ≤ m ∧ q ≤ g1 ∧ dk.size = N ∧ Hid (SC encO 6 w blk 0 dk wr2) ∧ Hid (dnGo (q - i) q dk = dnGo (m - i) m d))
      case atStart => exact ⟨m, d, rfl, by omega, by omega, by omega, hN, HS, rfl⟩
      case round =>
        clear HS
        obtain ⟨q, dk, rfl, haq, hqi, hg3, hsk, HS, HO⟩ := hrel
        by_cases hq : i < q
        · obtain ⟨q, rfl⟩ : ∃ q', q = q' + 1 := ⟨q - 1, by omega⟩
          have hqz : (i : Int) < (q : Int) + 1 := by omega
          have hwp : IntKind.i64.wrap (q : Int) = (q : Int) := by rw [IntKind.wrap_i64]; omega
          obtain ⟨xa, hxa⟩ : ∃ x, dk[q]! = x := ⟨_, rfl⟩
          obtain ⟨xb, hxb⟩ : ∃ x, dk[q + 1]! = x := ⟨_, rfl⟩
          have hHd : HoldsK encO 6 wr.drew blk 0 dk := (HS.out.below hblk (Below.refl _ _).drew).holds HH.out (by omega)
          have la : Sem.run Try.prog (loadCellsFrom ⟨blk, 0 + q * 6, none⟩ 0 6 #[]) wr.drew = .ok (encO xa).toArray wr.drew := by rw [← hxa]; exact run_loadCellsFrom_list _ _ _ _ 6 rfl (HoldsK.cells hHd encO_len (by omega))
          have lb : Sem.run Try.prog (loadCellsFrom ⟨blk, 0 + (q + 1) * 6, none⟩ 0 6 #[]) wr.drew = .ok (encO xb).toArray wr.drew := by rw [← hxb]; exact run_loadCellsFrom_list _ _ _ _ 6 rfl (HoldsK.cells hHd encO_len (by omega))
          have s1 : Sem.run Try.prog (storeCells ⟨blk, 0 + (q + 1) * 6, none⟩ (encO xa) 0) wr.drew = .ok () (wr.drew.setCells blk (0 + (q + 1) * 6) (encO xa)) := stores_of_holds _ hHd ((q + 1) * 6) _ (by rw [encO_len, size_flatK]; omega) (encO_one _)
          have s2 : Sem.run Try.prog (storeCells ⟨blk, 0 + q * 6, none⟩ (encO xb) 0) (wr.drew.setCells blk (0 + (q + 1) * 6) (encO xa)) = .ok () ((wr.drew.setCells blk (0 + (q + 1) * 6) (encO xa)).setCells blk (0 + q * 6) (encO xb)) :=
            stores_of_holds _ (holds_setCells_c hHd ((q + 1) * 6) _ (by rw [encO_len, size_flatK]; omega)) (q * 6) _ (by rw [encO_len, size_setMany, size_flatK]; omega) (encO_one _)
          have jz : (q : Int) + 1 < (N : Int) := by omega
          have hqN : (q : Int) < (N : Int) := by omega
          have p0 : (0 : Int) ≤ (q : Int) + 1 := by omega
          have e0 : ((q : Int) + 1).toNat = q + 1 := by omega
          simp only [Nat.zero_add] at la lb s1 s2
          clear hHd
          obtain ⟨cA, hcA⟩ : ∃ c, c = encO xa := ⟨_, rfl⟩
          obtain ⟨cB, hcB⟩ : ∃ c, c = encO xb := ⟨_, rfl⟩
          rw [← hcA] at la s1 s2
          rw [← hcB] at lb s2
          have CC : Hid (cA = encO xa ∧ cB = encO xb) := ⟨hcA, hcB⟩
          have hlA : cA.length = 6 := by rw [hcA]; rfl
          have hlB : cB.length = 6 := by rw [hcB]; rfl
          clear hcA hcB
          go_wp2_with fail
          go_big_region_o
          all_goals go_wp2
          go_roundg q
          case measure => omega
          case rel =>
            refine ⟨q, Sort.swp dk (q + 1) q, by first | rfl | go_num | (congr 1; omega), by omega, by omega, Nat.le_refl _, by rw [size_swp]; exact hsk, (show Hid _ from ?_), (show Hid _ from ?_)⟩
            · rw [CC.out.1, CC.out.2, ← hxa, ← hxb]
              have q' := SC.swp encO_len HS.out (q + 1) q (by omega) (by omega)
              show SC _ _ _ _ _ _ _
              simpa only [Nat.zero_add] using q'
            · show _ = _
              rw [← HO.out, show q + 1 - i = (q - i) + 1 by omega]
              rfl
        · have hqz : ¬ (i : Int) < (q : Int) := by omega
          go_wp2
          refine bodyPost_ret (results_none rfl _ _ _) rfl ⟨rfl, ?_⟩
          have e : q - i = 0 := by omega
          have h := HO.out
          rw [e] at h
          rw [HF.out, ← h]; exact HS.out
end
section
attribute [-go_sem] Go.loadCellsFrom Go.storeCells
open Go.Sort
def symM (lt : SO → SO → Bool) : Nat → Nat → Nat → Nat → Array SO → Array SO
  | 0, _, _, _, d => d
  | k + 1, a, m, b, d =>
    if m - a = 1 then upGo (bsr (fun h => lt d[h]! d[a]!) (b - m) m b - 1 - a) a d
    else if b - m = 1 then dnGo (m - bsr (fun h => !lt d[m]! d[h]!) (m - a) a m) m d
    else
      let mid := (a + b) / 2
      let n := mid + m
      let st := if m > mid then n - b else a
      let r := if m > mid then mid else m
      let s := bsr (fun c => !lt d[n - 1 - c]! d[c]!) (r - st) st r
      let e := n - s
      let d1 := if s < m ∧ m < e then rotGo m (e - s) (m - s) (e - m) d else d
      let d2 := if a < s ∧ s < mid then symM lt k a s mid d1 else d1
      if mid < e ∧ e < b then symM lt k mid e b d2 else d2
theorem size_upGo {α : Type} [Inhabited α] : ∀ (m k : Nat) (d : Array α), (upGo m k d).size = d.size
  | 0, _, _ => rfl
  | m + 1, k, d => by rw [upGo, size_upGo m, size_swp]
theorem size_dnGo {α : Type} [Inhabited α] : ∀ (m k : Nat) (d : Array α), (dnGo m k d).size = d.size
  | 0, _, _ => rfl
  | m + 1, k, d => by rw [dnGo, size_dnGo m, size_swp]
theorem size_symM (lt : SO → SO → Bool) : ∀ (k a m b : Nat) (d : Array SO), (symM lt k a m b d).size = d.size
  | 0, _, _, _, _ => rfl
  | k + 1, a, m, b, d => by
    rw [symM]
    split
    · exact size_upGo _ _ _
    · split
      · exact size_dnGo _ _ _
      · dsimp only
        repeat' split
        all_goals simp only [size_symM lt k, size_rotGo]
theorem bsr_range (p : Nat → Bool) : ∀ (k i j : Nat), i ≤ j → i ≤ bsr p k i j ∧ bsr p k i j ≤ j
  | 0, i, j, h => by rw [bsr]; omega
  | k + 1, i, j, h => by
    rw [bsr]
    split
    · split
      · have := bsr_range p k ((i + j) / 2 + 1) j (by omega); omega
      · have := bsr_range p k i ((i + j) / 2) (by omega); omega
    · omega
end
section
attribute [-go_sem] Go.loadCellsFrom Go.storeCells
open Go.Sort
theorem bsr_end (p : Nat → Bool) (k i : Nat) : bsr p k i i = i := by
  cases k with
  | zero => rfl
  | succ k => rw [bsr, if_neg (Nat.lt_irrefl _)]
set_option maxHeartbeats 4000000 in
set_option maxRecDepth 1000000 in
theorem sym_rec (k blk cap a m b N : Nat) (d : Array SO) (w : World) (hN : d.size = N) (hH : HoldsK encO 6 w blk 0 d) (hblk : blk < w.heap.size) (ham : a + 1 < m) (hmb : m + 1 < b) (hb : b ≤ N) (hsz : N < 4611686018427387904)
    (ih : ∀ (a m b : Nat) (d : Array SO) (w : World), d.size = N → HoldsK encO 6 w blk 0 d → blk < w.heap.size → a < m → m < b → b ≤ N → b - a ≤ k →
      Calls Try.prog 74 #[.slice (some ⟨blk, 0, none⟩) N cap, .int .i64 a, .int .i64 m, .int .i64 b, .func (.func 46) #[] #[]] w fun e w' => e = .returned (.tuple #[]) ∧ SC encO 6 w blk 0 (symM (ltOf cmpO) k a m b d) w')
    (hk : b - a ≤ k + 1) :
    Calls Try.prog 74 #[.slice (some ⟨blk, 0, none⟩) N cap, .int .i64 a, .int .i64 m, .int .i64 b, .func (.func 46) #[] #[]] w fun e w' => e = .returned (.tuple #[]) ∧ SC encO 6 w blk 0 (symM (ltOf cmpO) (k + 1) a m b d) w' := by
  rw [symM, if_neg (by omega), if_neg (by omega)]
  obtain ⟨mid, hmid⟩ : ∃ x, (a + b) / 2 = x := ⟨_, rfl⟩
  rw [hmid]
  have w1 : IntKind.i64.wrap ((m : Int) - (a : Int)) = (m : Int) - (a : Int) := by rw [IntKind.wrap_i64]; omega
  have w1b : (((m : Int) - (a : Int)) == 1) = false := by rw [beq_eq_false_iff_ne]; omega
  have w2 : IntKind.i64.wrap ((b : Int) - (m : Int)) = (b : Int) - (m : Int) := by rw [IntKind.wrap_i64]; omega
  have w2b : (((b : Int) - (m : Int)) == 1) = false := by rw [beq_eq_false_iff_ne]; omega
  have hmz : ((a : Int) + (b : Int)) / 2 = (mid : Int) := by omega
  have h1 : a < mid := by omega
  have h2 : mid < b := by omega
  have mixed : Try.prog.follows .mixedOrders = true := by kernel_rfl
  have HST : Hid (SC encO 6 w blk 0 d w) := SC.start hH
  have HH : Hid (HoldsK encO 6 w blk 0 d) := hH
  have h3 : mid + mid ≤ a + b := by omega
  have h4 : a + b ≤ mid + mid + 1 := by omega
  have IH := Aside0.mk (show ∀ (a' m' b' : Nat) (dk : Array SO) (wk : World), SC encO 6 w blk 0 dk wk → dk.size = N → a' < m' → m' < b' → b' ≤ N → b' - a' ≤ k →
      Calls Try.prog 74 #[.slice (some ⟨blk, 0, none⟩) N cap, .int .i64 a', .int .i64 m', .int .i64 b', .func (.func 46) #[] #[]] wk fun e w' => e = .returned (.tuple #[]) ∧ SC encO 6 w blk 0 (symM (ltOf cmpO) k a' m' b' dk) w' from
    fun a' m' b' dk wk hsc hs g1 g2 g3 g4 => (ih a' m' b' dk wk hs (hsc.holds hH (by omega)) (Nat.lt_of_lt_of_le hblk hsc.kb.size) g1 g2 g3 g4).mono (by rintro e w' ⟨he, hs⟩; exact ⟨he, hsc.trans hs (by rw [size_symM])⟩))
  have RT := Aside0.mk (show ∀ (a' m' b' : Nat) (dk : Array SO) (wk : World), SC encO 6 w blk 0 dk wk → dk.size = N → a' < m' → m' < b' → b' ≤ N →
      Calls Try.prog 79 #[.slice (some ⟨blk, 0, none⟩) N cap, .int .i64 a', .int .i64 m', .int .i64 b', .func (.func 46) #[] #[]] wk fun e w' => e = .returned (.tuple #[]) ∧ SC encO 6 w blk 0 (rotGo m' (b' - a') (m' - a') (b' - m') dk) w' from
    fun a' m' b' dk wk hsc hs g1 g2 g3 => (rotate_order _ blk cap a' m' b' N dk wk hs (hsc.holds hH (by omega)) (Nat.lt_of_lt_of_le hblk hsc.kb.size) g1 g2 g3 hsz).mono (by rintro e w' ⟨he, hs⟩; exact ⟨he, hsc.trans hs (by rw [size_rotGo])⟩))
  have HN := Aside0.mk hN
  have HMID := Aside0.mk hmid
  clear hH ih hmid
  dsimp only
  by_cases hgt : m > mid
  · have hgz : (m : Int) > (mid : Int) := by omega
    have hgb : decide ((m : Int) > (mid : Int)) = true := decide_eq_true hgz
    simp only [if_pos hgt]
    obtain ⟨p, hp⟩ : ∃ p : Nat → Bool, (fun c => !ltOf cmpO d[mid + m - 1 - c]! d[c]!) = p := ⟨_, rfl⟩
    rw [hp]
    have HP := Aside0.mk hp
    clear hp
    obtain ⟨s, hs⟩ : ∃ x, bsr p (mid - (mid + m - b)) (mid + m - b) mid = x := ⟨_, rfl⟩
    rw [hs]
    have hsr := bsr_range p (mid - (mid + m - b)) (mid + m - b) mid (by omega)
    rw [hs] at hsr
    obtain ⟨e, he⟩ : ∃ x, mid + m - s = x := ⟨_, rfl⟩
    rw [he]
    generalize hD : (if mid < e ∧ e < b then _ else _) = D
    have HE := Aside0.mk he
    have HD := Aside0.mk hD
    have HSE := Aside0.mk hs
    clear hs he hD hsr
    go_enter Try.func74, Try.ntmps74
    go_wp2
    go_loopg [20, 21] (mid - (mid + m - b)) (fun g1 vi vj wr => ∃ (i j k : Nat), vi = .int .i64 i ∧ vj = .int .i64 j ∧ mid + m - b ≤ i ∧ i ≤ j ∧ j ≤ mid ∧ j ≤ i + g1 ∧ j ≤ i + k ∧ Hid (SC encO 6 w blk 0 d wr) ∧ Hid (bsr p k i j = s))
    case atStart => exact ⟨mid + m - b, mid, mid - (mid + m - b), by go_num, rfl, by omega, by omega, by omega, by omega, by omega, HST, HSE.out⟩
    case round =>
      obtain ⟨i, j, k, rfl, rfl, hmi, hij, hjb, hg, hk', HS, HO⟩ := hrel
      by_cases hlt : i < j
      · obtain ⟨k, rfl⟩ : ∃ k', k = k' + 1 := ⟨k - 1, by omega⟩
        have hltz : (i : Int) < (j : Int) := by omega
        obtain ⟨h, hh⟩ : ∃ h, (i + j) / 2 = h := ⟨_, rfl⟩
        have hhz : ((i : Int) + (j : Int)) / 2 = (h : Int) := by omega
        obtain ⟨u, hu⟩ : ∃ u, mid + m - 1 - h = u := ⟨_, rfl⟩
        have huz : (mid : Int) + (m : Int) - 1 - (h : Int) = (u : Int) := by omega
        have hwu : IntKind.i64.wrap (u : Int) = (u : Int) := by rw [IntKind.wrap_i64]; omega
        obtain ⟨xh, hxh⟩ : ∃ x, d[h]! = x := ⟨_, rfl⟩
        obtain ⟨xa, hxa⟩ : ∃ x, d[u]! = x := ⟨_, rfl⟩
        have lh := fun p => SC.ld (P := Try.prog) HS.out HH.out rfl hblk encO_len (i := h) (by omega) hxh p
        have la := fun p => SC.ld (P := Try.prog) HS.out HH.out rfl hblk encO_len (i := u) (by omega) hxa p
        have hcg := fun W => cmpO_calls W xa xh
        obtain ⟨cv, hcv⟩ : ∃ c, cmpO xa xh = c := ⟨_, rfl⟩
        rw [hcv] at hcg
        obtain ⟨cH, hcH⟩ : ∃ c, (encO xh).toArray = c := ⟨_, rfl⟩
        obtain ⟨cA, hcA⟩ : ∃ c, (encO xa).toArray = c := ⟨_, rfl⟩
        rw [hcH] at lh hcg
        rw [hcA] at la hcg
        clear hcH hcA
        simp only [Nat.zero_add] at lh la
        have hhN : (h : Int) < (N : Int) := by omega
        have haN : (u : Int) < (N : Int) := by omega
        have step := HO.out
        rw [bsr, if_pos hlt, hh] at step
        have hlo : p h = !decide (cv < 0) := by rw [← HP.out]; show (!ltOf cmpO d[mid + m - 1 - h]! d[h]!) = _; rw [hu, hxh, hxa, ← hcv]; rfl
        rw [hlo] at step
        have HSTEP := Aside0.mk step
        clear step hxh hxa hcv hlo hh hu
        by_cases hlv : ¬ cv < 0
        · have hlvb : decide (cv < 0) = false := decide_eq_false hlv
          go_wp2_with fail
          refine wp_region_quiet_below (by assumption) (by kernel_rfl) ?_
          repeat (quiet_step (first | (go_at_call 46; refine Calls.bw_of _ (hcg _))))
          refine wpQuiet_nil ?_
          intro wq hwq_
          have hwq := Bw.get hwq_
          clear hwq_
          go_wp2
          go_roundg (j - (h + 1))
          case measure => omega
          case rel => exact ⟨h + 1, j, k, by go_num, rfl, by omega, by omega, hjb, by omega, by omega, HS.out.below hblk hwq, by have q := HSTEP.out; rw [if_pos (by simpa using hlv)] at q; exact q⟩
        · have hlv := Decidable.not_not.1 hlv
          have hlvb : decide (cv < 0) = true := decide_eq_true hlv
          go_wp2_with fail
          refine wp_region_quiet_below (by assumption) (by kernel_rfl) ?_
          repeat (quiet_step (first | (go_at_call 46; refine Calls.bw_of _ (hcg _))))
          refine wpQuiet_nil ?_
          intro wq hwq_
          have hwq := Bw.get hwq_
          clear hwq_
          go_wp2
          go_roundg (h - i)
          case measure => omega
          case rel => exact ⟨i, h, k, rfl, rfl, hmi, by omega, by omega, by omega, by omega, HS.out.below hblk hwq, by have q := HSTEP.out; rw [if_neg (by simpa using hlv)] at q; exact q⟩
      · obtain rfl : i = j := by omega
        have hso := HO.out
        rw [bsr_end] at hso
        subst hso
        have he := HE.out
        have hez : (mid : Int) + (m : Int) - (i : Int) = (e : Int) := by omega
        have heb : e ≤ b := by omega
        have hltz : ¬ (i : Int) < (i : Int) := by omega
        rcases Nat.lt_or_ge i m with q1 | q1 <;> rcases Nat.lt_or_ge i mid with q2 | q2 <;> rcases Nat.lt_or_ge a i with q3 | q3 <;> rcases Nat.lt_or_ge e b with q4 | q4
        all_goals first
          | (exfalso; omega)
          | ((first | have z1 : (i : Int) < (m : Int) := by omega | have z1 : ¬ (i : Int) < (m : Int) := by omega)
             (first | have z2 : (m : Int) < (e : Int) := by omega | have z2 : ¬ (m : Int) < (e : Int) := by omega)
             (first | have z3 : (a : Int) < (i : Int) := by omega | have z3 : ¬ (a : Int) < (i : Int) := by omega)
             (first | have z4 : (i : Int) < (mid : Int) := by omega | have z4 : ¬ (i : Int) < (mid : Int) := by omega)
             (first | have z5 : (mid : Int) < (e : Int) := by omega | have z5 : ¬ (mid : Int) < (e : Int) := by omega)
             (first | have z6 : (e : Int) < (b : Int) := by omega | have z6 : ¬ (e : Int) < (b : Int) := by omega)
             clear he
             go_wp2_with (first
               | (go_at_call 79; (with_reducible refine (RT.out i m e d wr HS.out HN.out (by have := HE.out; omega) (by have := HE.out; omega) (by have := HE.out; omega)).mono ?_); rintro e5 w5 ⟨rfl, hs⟩; have HS1 := Aside0.mk hs; clear hs)
               | (go_at_call 74; (first | (with_reducible refine (IH.out a i mid _ _ HS1.out (by simp only [size_rotGo]; exact HN.out) (by omega) (by omega) (by omega) (by omega)).mono ?_) | (with_reducible refine (IH.out a i mid _ _ HS.out HN.out (by omega) (by omega) (by omega) (by omega)).mono ?_)); rintro e5 w6 ⟨rfl, hs⟩; have HS2 := Aside0.mk hs; clear hs)
               | (go_at_call 74; (first | (with_reducible refine (IH.out mid e b _ _ HS2.out (by simp only [size_symM, size_rotGo]; exact HN.out) (by have := HE.out; omega) (by have := HE.out; omega) (by omega) (by omega)).mono ?_) | (with_reducible refine (IH.out mid e b _ _ HS1.out (by simp only [size_symM, size_rotGo]; exact HN.out) (by have := HE.out; omega) (by have := HE.out; omega) (by omega) (by omega)).mono ?_) | (with_reducible refine (IH.out mid e b _ _ HS.out HN.out (by have := HE.out; omega) (by have := HE.out; omega) (by omega) (by omega)).mono ?_)); rintro e5 w7 ⟨rfl, hs⟩; have HS3 := Aside0.mk hs; clear hs))
             go_end0
             refine ⟨rfl, ?_⟩
             have hD := HD.out
             have he := HE.out
             (first | have k1 : (i < m ∧ m < e) = True := eq_true (by omega) | have k1 : (i < m ∧ m < e) = False := eq_false (by omega))
             (first | have k2 : (a < i ∧ i < mid) = True := eq_true (by omega) | have k2 : (a < i ∧ i < mid) = False := eq_false (by omega))
             (first | have k3 : (mid < e ∧ e < b) = True := eq_true (by omega) | have k3 : (mid < e ∧ e < b) = False := eq_false (by omega))
             simp only [k1, k2, k3, if_true, if_false] at hD
             rw [← hD]
             first | exact HS3.out | exact HS2.out | exact HS1.out | exact HS.out)
  · have hgz : ¬ (m : Int) > (mid : Int) := by omega
    have hgb : decide ((m : Int) > (mid : Int)) = false := decide_eq_false hgz
    simp only [if_neg hgt]
    obtain ⟨p, hp⟩ : ∃ p : Nat → Bool, (fun c => !ltOf cmpO d[mid + m - 1 - c]! d[c]!) = p := ⟨_, rfl⟩
    rw [hp]
    have HP := Aside0.mk hp
    clear hp
    obtain ⟨s, hs⟩ : ∃ x, bsr p (m - a) a m = x := ⟨_, rfl⟩
    rw [hs]
    have hsr := bsr_range p (m - a) a m (by omega)
    rw [hs] at hsr
    obtain ⟨e, he⟩ : ∃ x, mid + m - s = x := ⟨_, rfl⟩
    rw [he]
    generalize hD : (if mid < e ∧ e < b then _ else _) = D
    have HE := Aside0.mk he
    have HD := Aside0.mk hD
    have HSE := Aside0.mk hs
    clear hs he hD hsr
    go_enter Try.func74, Try.ntmps74
    go_wp2
    go_loopg [20, 21] (m - a) (fun g1 vi vj wr => ∃ (i j k : Nat), vi = .int .i64 i ∧ vj = .int .i64 j ∧ a ≤ i ∧ i ≤ j ∧ j ≤ m ∧ j ≤ i + g1 ∧ j ≤ i + k ∧ Hid (SC encO 6 w blk 0 d wr) ∧ Hid (bsr p k i j = s))
    case atStart => exact ⟨a, m, m - a, rfl, rfl, by omega, by omega, by omega, by omega, by omega, HST, HSE.out⟩
    case round =>
      obtain ⟨i, j, k, rfl, rfl, hmi, hij, hjb, hg, hk', HS, HO⟩ := hrel
      by_cases hlt : i < j
      · obtain ⟨k, rfl⟩ : ∃ k', k = k' + 1 := ⟨k - 1, by omega⟩
        have hltz : (i : Int) < (j : Int) := by omega
        obtain ⟨h, hh⟩ : ∃ h, (i + j) / 2 = h := ⟨_, rfl⟩
        have hhz : ((i : Int) + (j : Int)) / 2 = (h : Int) := by omega
        obtain ⟨u, hu⟩ : ∃ u, mid + m - 1 - h = u := ⟨_, rfl⟩
        have huz : (mid : Int) + (m : Int) - 1 - (h : Int) = (u : Int) := by omega
        have hwu : IntKind.i64.wrap (u : Int) = (u : Int) := by rw [IntKind.wrap_i64]; omega
        obtain ⟨xh, hxh⟩ : ∃ x, d[h]! = x := ⟨_, rfl⟩
        obtain ⟨xa, hxa⟩ : ∃ x, d[u]! = x := ⟨_, rfl⟩
        have lh := fun p => SC.ld (P := Try.prog) HS.out HH.out rfl hblk encO_len (i := h) (by omega) hxh p
        have la := fun p => SC.ld (P := Try.prog) HS.out HH.out rfl hblk encO_len (i := u) (by omega) hxa p
        have hcg := fun W => cmpO_calls W xa xh
        obtain ⟨cv, hcv⟩ : ∃ c, cmpO xa xh = c := ⟨_, rfl⟩
        rw [hcv] at hcg
        obtain ⟨cH, hcH⟩ : ∃ c, (encO xh).toArray = c := ⟨_, rfl⟩
        obtain ⟨cA, hcA⟩ : ∃ c, (encO xa).toArray = c := ⟨_, rfl⟩
        rw [hcH] at lh hcg
        rw [hcA] at la hcg
        clear hcH hcA
        simp only [Nat.zero_add] at lh la
        have hhN : (h : Int) < (N : Int) := by omega
        have haN : (u : Int) < (N : Int) := by omega
        have step := HO.out
        rw [bsr, if_pos hlt, hh] at step
        have hlo : p h = !decide (cv < 0) := by rw [← HP.out]; show (!ltOf cmpO d[mid + m - 1 - h]! d[h]!) = _; rw [hu, hxh, hxa, ← hcv]; rfl
        rw [hlo] at step
        have HSTEP := Aside0.mk step
        clear step hxh hxa hcv hlo hh hu
        by_cases hlv : ¬ cv < 0
        · have hlvb : decide (cv < 0) = false := decide_eq_false hlv
          go_wp2_with fail
          refine wp_region_quiet_below (by assumption) (by kernel_rfl) ?_
          repeat (quiet_step (first | (go_at_call 46; refine Calls.bw_of _ (hcg _))))
          refine wpQuiet_nil ?_
          intro wq hwq_
          have hwq := Bw.get hwq_
          clear hwq_
          go_wp2
          go_roundg (j - (h + 1))
          case measure => omega
          case rel => exact ⟨h + 1, j, k, by go_num, rfl, by omega, by omega, hjb, by omega, by omega, HS.out.below hblk hwq, by have q := HSTEP.out; rw [if_pos (by simpa using hlv)] at q; exact q⟩
        · have hlv := Decidable.not_not.1 hlv
          have hlvb : decide (cv < 0) = true := decide_eq_true hlv
          go_wp2_with fail
          refine wp_region_quiet_below (by assumption) (by kernel_rfl) ?_
          repeat (quiet_step (first | (go_at_call 46; refine Calls.bw_of _ (hcg _))))
          refine wpQuiet_nil ?_
          intro wq hwq_
          have hwq := Bw.get hwq_
          clear hwq_
          go_wp2
          go_roundg (h - i)
          case measure => omega
          case rel => exact ⟨i, h, k, rfl, rfl, hmi, by omega, by omega, by omega, by omega, HS.out.below hblk hwq, by have q := HSTEP.out; rw [if_neg (by simpa using hlv)] at q; exact q⟩
      · obtain rfl : i = j := by omega
        have hso := HO.out
        rw [bsr_end] at hso
        subst hso
        have he := HE.out
        have hez : (mid : Int) + (m : Int) - (i : Int) = (e : Int) := by omega
        have heb : e ≤ b := by omega
        have hltz : ¬ (i : Int) < (i : Int) := by omega
        rcases Nat.lt_or_ge i m with q1 | q1 <;> rcases Nat.lt_or_ge i mid with q2 | q2 <;> rcases Nat.lt_or_ge a i with q3 | q3 <;> rcases Nat.lt_or_ge e b with q4 | q4
        all_goals first
          | (exfalso; omega)
          | ((first | have z1 : (i : Int) < (m : Int) := by omega | have z1 : ¬ (i : Int) < (m : Int) := by omega)
             (first | have z2 : (m : Int) < (e : Int) := by omega | have z2 : ¬ (m : Int) < (e : Int) := by omega)
             (first | have z3 : (a : Int) < (i : Int) := by omega | have z3 : ¬ (a : Int) < (i : Int) := by omega)
             (first | have z4 : (i : Int) < (mid : Int) := by omega | have z4 : ¬ (i : Int) < (mid : Int) := by omega)
             (first | have z5 : (mid : Int) < (e : Int) := by omega | have z5 : ¬ (mid : Int) < (e : Int) := by omega)
             (first | have z6 : (e : Int) < (b : Int) := by omega | have z6 : ¬ (e : Int) < (b : Int) := by omega)
             clear he
             go_wp2_with (first
               | (go_at_call 79; (with_reducible refine (RT.out i m e d wr HS.out HN.out (by have := HE.out; omega) (by have := HE.out; omega) (by have := HE.out; omega)).mono ?_); rintro e5 w5 ⟨rfl, hs⟩; have HS1 := Aside0.mk hs; clear hs)
               | (go_at_call 74; (first | (with_reducible refine (IH.out a i mid _ _ HS1.out (by simp only [size_rotGo]; exact HN.out) (by omega) (by omega) (by omega) (by omega)).mono ?_) | (with_reducible refine (IH.out a i mid _ _ HS.out HN.out (by omega) (by omega) (by omega) (by omega)).mono ?_)); rintro e5 w6 ⟨rfl, hs⟩; have HS2 := Aside0.mk hs; clear hs)
               | (go_at_call 74; (first | (with_reducible refine (IH.out mid e b _ _ HS2.out (by simp only [size_symM, size_rotGo]; exact HN.out) (by have := HE.out; omega) (by have := HE.out; omega) (by omega) (by omega)).mono ?_) | (with_reducible refine (IH.out mid e b _ _ HS1.out (by simp only [size_symM, size_rotGo]; exact HN.out) (by have := HE.out; omega) (by have := HE.out; omega) (by omega) (by omega)).mono ?_) | (with_reducible refine (IH.out mid e b _ _ HS.out HN.out (by have := HE.out; omega) (by have := HE.out; omega) (by omega) (by omega)).mono ?_)); rintro e5 w7 ⟨rfl, hs⟩; have HS3 := Aside0.mk hs; clear hs))
             go_end0
             refine ⟨rfl, ?_⟩
             have hD := HD.out
             have he := HE.out
             (first | have k1 : (i < m ∧ m < e) = True := eq_true (by omega) | have k1 : (i < m ∧ m < e) = False := eq_false (by omega))
             (first | have k2 : (a < i ∧ i < mid) = True := eq_true (by omega) | have k2 : (a < i ∧ i < mid) = False := eq_false (by omega))
             (first | have k3 : (mid < e ∧ e < b) = True := eq_true (by omega) | have k3 : (mid < e ∧ e < b) = False := eq_false (by omega))
             simp only [k1, k2, k3, if_true, if_false] at hD
             rw [← hD]
             first | exact HS3.out | exact HS2.out | exact HS1.out | exact HS.out)
end
section
attribute [-go_sem] Go.loadCellsFrom Go.storeCells
open Go.Sort
theorem sym_all (blk cap N : Nat) (hsz : N < 4611686018427387904) : ∀ (k a m b : Nat) (d : Array SO) (w : World), d.size = N → HoldsK encO 6 w blk 0 d → blk < w.heap.size → a < m → m < b → b ≤ N → b - a ≤ k →
    Calls Try.prog 74 #[.slice (some ⟨blk, 0, none⟩) N cap, .int .i64 a, .int .i64 m, .int .i64 b, .func (.func 46) #[] #[]] w fun e w' => e = .returned (.tuple #[]) ∧ SC encO 6 w blk 0 (symM (ltOf cmpO) k a m b d) w'
  | 0, a, m, b, d, w, _, _, _, h1, h2, _, h4 => absurd h4 (by omega)
  | k + 1, a, m, b, d, w, hN, hH, hblk, h1, h2, h3, h4 => by
    by_cases c1 : m - a = 1
    · rw [symM, if_pos c1]
      exact sym_one blk cap a m b N d w hN hH hblk (by omega) h2 h3 hsz
    · by_cases c2 : b - m = 1
      · rw [symM, if_neg c1, if_pos c2]
        exact sym_two blk cap a m b N d w hN hH hblk c1 h1 (by omega) h3 hsz
      · exact sym_rec k blk cap a m b N d w hN hH hblk (by omega) (by omega) h3 hsz (sym_all blk cap N hsz k) h4
def insBlk (lt : SO → SO → Bool) (n : Nat) : Nat → Nat → Array SO → Array SO
  | 0, _, d => d
  | k + 1, a, d => if a + 20 ≤ n then insBlk lt n k (a + 20) (Sort.insertionSort lt d a (a + 20)) else Sort.insertionSort lt d a n
def mrgBlk (lt : SO → SO → Bool) (n bs : Nat) : Nat → Nat → Array SO → Array SO
  | 0, _, d => d
  | k + 1, a, d => if a + 2 * bs ≤ n then mrgBlk lt n bs k (a + 2 * bs) (symM lt (2 * bs) a (a + bs) (a + 2 * bs) d) else if a + bs < n then symM lt (n - a) a (a + bs) n d else d
def dblGo (lt : SO → SO → Bool) (n : Nat) : Nat → Nat → Array SO → Array SO
  | 0, _, d => d
  | k + 1, bs, d => if bs < n then dblGo lt n k (2 * bs) (mrgBlk lt n bs (n + 1) 0 d) else d
def stableM (lt : SO → SO → Bool) (n : Nat) (d : Array SO) : Array SO := dblGo lt n (n + 1) 20 (insBlk lt n (n + 1) 0 d)
theorem size_insS (lt : SO → SO → Bool) (d : Array SO) (a b : Nat) : (Sort.insertionSort lt d a b).size = d.size := size_insOuter_o _ _ _ _ _ _ (Nat.le_refl _)
theorem size_insBlk (lt : SO → SO → Bool) (n : Nat) : ∀ (k a : Nat) (d : Array SO), (insBlk lt n k a d).size = d.size
  | 0, _, _ => rfl
  | k + 1, a, d => by
    rw [insBlk]; split
    · rw [size_insBlk lt n k, size_insS]
    · rw [size_insS]
theorem size_mrgBlk (lt : SO → SO → Bool) (n bs : Nat) : ∀ (k a : Nat) (d : Array SO), (mrgBlk lt n bs k a d).size = d.size
  | 0, _, _ => rfl
  | k + 1, a, d => by
    rw [mrgBlk]; split
    · rw [size_mrgBlk lt n bs k, size_symM]
    · split
      · rw [size_symM]
      · rfl
theorem size_dblGo (lt : SO → SO → Bool) (n : Nat) : ∀ (k bs : Nat) (d : Array SO), (dblGo lt n k bs d).size = d.size
  | 0, _, _ => rfl
  | k + 1, bs, d => by
    rw [dblGo]; split
    · rw [size_dblGo lt n k, size_mrgBlk]
    · rfl
theorem size_stableM (lt : SO → SO → Bool) (n : Nat) (d : Array SO) : (stableM lt n d).size = d.size := by rw [stableM, size_dblGo, size_insBlk]
set_option maxHeartbeats 4000000 in
set_option maxRecDepth 1000000 in
theorem stable_all (blk cap N : Nat) (d : Array SO) (w : World) (hN : d.size = N) (hH : HoldsK encO 6 w blk 0 d) (hblk : blk < w.heap.size) (hsz : N < 1152921504606846976) :
    Calls Try.prog 62 #[.slice (some ⟨blk, 0, none⟩) N cap, .int .i64 N, .func (.func 46) #[] #[]] w fun e w' => e = .returned (.tuple #[]) ∧ SC encO 6 w blk 0 (stableM (ltOf cmpO) N d) w' := by
  have HST : Hid (SC encO 6 w blk 0 d w) := SC.start hH
  have INS := Aside0.mk (show ∀ (a' b' : Nat) (dk : Array SO) (wk : World), SC encO 6 w blk 0 dk wk → dk.size = N → a' ≤ b' → b' ≤ N →
      Calls Try.prog 73 #[.slice (some ⟨blk, 0, none⟩) N cap, .int .i64 a', .int .i64 b', .func (.func 46) #[] #[]] wk fun e w' => e = .returned (.tuple #[]) ∧ SC encO 6 w blk 0 (Sort.insertionSort (ltOf cmpO) dk a' b') w' from
    fun a' b' dk wk hsc hs g1 g2 => by
      have q := ins_order blk cap a' b' dk wk (hsc.holds hH (by omega)) (Nat.lt_of_lt_of_le hblk hsc.kb.size) g1 (by omega) (by omega)
      rw [hs] at q
      exact q.mono (by rintro e w' ⟨he, hs⟩; exact ⟨he, hsc.trans hs (by rw [size_insS])⟩))
  have SYM := Aside0.mk (show ∀ (k a' m' b' : Nat) (dk : Array SO) (wk : World), SC encO 6 w blk 0 dk wk → dk.size = N → a' < m' → m' < b' → b' ≤ N → b' - a' ≤ k →
      Calls Try.prog 74 #[.slice (some ⟨blk, 0, none⟩) N cap, .int .i64 a', .int .i64 m', .int .i64 b', .func (.func 46) #[] #[]] wk fun e w' => e = .returned (.tuple #[]) ∧ SC encO 6 w blk 0 (symM (ltOf cmpO) k a' m' b' dk) w' from
    fun k a' m' b' dk wk hsc hs g1 g2 g3 g4 => (sym_all blk cap N (by omega) k a' m' b' dk wk hs (hsc.holds hH (by omega)) (Nat.lt_of_lt_of_le hblk hsc.kb.size) g1 g2 g3 g4).mono (by rintro e w' ⟨he, hs⟩; exact ⟨he, hsc.trans hs (by rw [size_symM])⟩))
  clear hH
  obtain ⟨RES, hres⟩ : ∃ x, stableM (ltOf cmpO) N d = x := ⟨_, rfl⟩
  rw [hres]
  obtain ⟨D1, hd1⟩ : ∃ x, insBlk (ltOf cmpO) N (N + 1) 0 d = x := ⟨_, rfl⟩
  rw [stableM, hd1] at hres
  have HRES := Aside0.mk hres
  have HD1 := Aside0.mk hd1
  have HN := Aside0.mk hN
  clear hres hd1 hN
  go_enter Try.func62, Try.ntmps62
  go_wp2
  go_loopg [7, 8] N (fun g1 va vb wr => ∃ (a b k : Nat) (dk : Array SO), va = .int .i64 a ∧ vb = .int .i64 b ∧ Hid (b = a + 20) ∧ a ≤ N ∧ N ≤ a + g1 ∧ N < a + k ∧ dk.size = N ∧ Hid (SC encO 6 w blk 0 dk wr) ∧ Hid (insBlk (ltOf cmpO) N k a dk = D1))
  case atStart => exact ⟨0, 20, N + 1, d, rfl, rfl, rfl, by omega, by omega, by omega, HN.out, HST, HD1.out⟩
  case round =>
    obtain ⟨a, b, k, dk, rfl, rfl, hba, haN, hg, hk, hsk, HS, HO⟩ := hrel
    obtain ⟨k, rfl⟩ : ∃ k', k = k' + 1 := ⟨k - 1, by omega⟩
    by_cases hle : b ≤ N
    · have hlez : (b : Int) ≤ (N : Int) := by omega
      have wb : IntKind.i64.wrap ((b : Int) + 20) = ((b + 20 : Nat) : Int) := by rw [IntKind.wrap_i64]; omega
      go_wp2_with (go_at_call 73; (with_reducible refine (INS.out a b dk wr HS.out hsk (by have := hba.out; omega) hle).mono ?_); rintro e w5 ⟨rfl, hs⟩; have HS5 := Aside0.mk hs; clear hs)
      go_roundg (N - b)
      case measure => have := hba.out; omega
      case rel => exact ⟨b, b + 20, k, _, rfl, by go_num, rfl, hle, by omega, by have := hba.out; omega, by rw [size_insS]; exact hsk, HS5.out, by have h := HO.out; have e := hba.out; rw [insBlk, if_pos (by omega), ← e] at h; exact h⟩
    · have hlez : ¬ (b : Int) ≤ (N : Int) := by omega
      have h1 : Hid (Sort.insertionSort (ltOf cmpO) dk a N = D1) := by have h := HO.out; have e := hba.out; rw [insBlk, if_neg (by omega)] at h; exact h
      go_wp2_with (go_at_call 73; (with_reducible refine (INS.out a N dk wr HS.out hsk haN (Nat.le_refl _)).mono ?_); rintro e w5 ⟨rfl, hs⟩; have HS5 := Aside0.mk hs; clear hs)
      go_loopg [6, 7, 8, 9] N (fun g1 v6 v7 v8 v9 wr => ∃ (bs k : Nat) (dk : Array SO), v6 = .int .i64 bs ∧ 20 ≤ bs ∧ N ≤ bs + g1 ∧ N < bs + k ∧ 0 < k ∧ bs ≤ 2 * N + 40 ∧ dk.size = N ∧ Hid (SC encO 6 w blk 0 dk wr) ∧ Hid (dblGo (ltOf cmpO) N k bs dk = RES))
      case atStart => exact ⟨20, N + 1, D1, rfl, by omega, by omega, by omega, by omega, by omega, by rw [← h1.out, size_insS]; exact hsk, by rw [← h1.out]; exact HS5.out, HRES.out⟩
      case round =>
        clear HS HS5 h1 HO hsk hg hk hle hlez haN hba
        obtain ⟨bs, k, dk, rfl, h20, hg, hk, hk0, hbs, hsk, HS, HO⟩ := hrel
        obtain ⟨k, rfl⟩ : ∃ k', k = k' + 1 := ⟨k - 1, by omega⟩
        by_cases hlt : bs < N
        · have hltz : (bs : Int) < (N : Int) := by omega
          have wb : IntKind.i64.wrap (2 * (bs : Int)) = ((2 * bs : Nat) : Int) := by rw [IntKind.wrap_i64]; omega
          have wb2 : IntKind.i64.wrap ((bs : Int) * 2) = ((2 * bs : Nat) : Int) := by rw [IntKind.wrap_i64]; omega
          obtain ⟨M, hM⟩ : ∃ x, mrgBlk (ltOf cmpO) N bs (N + 1) 0 dk = x := ⟨_, rfl⟩
          have HM := Aside0.mk hM
          clear hM
          go_wp2
          go_loopg [7, 8] N (fun g2 va vb wr => ∃ (a b k : Nat) (dk : Array SO), va = .int .i64 a ∧ vb = .int .i64 b ∧ Hid (b = a + 2 * bs) ∧ a ≤ N ∧ N ≤ a + g2 ∧ N < a + k ∧ dk.size = N ∧ Hid (SC encO 6 w blk 0 dk wr) ∧ Hid (mrgBlk (ltOf cmpO) N bs k a dk = M))
          case atStart => exact ⟨0, 2 * bs, N + 1, dk, rfl, by go_num, (show 2 * bs = 0 + 2 * bs by omega), by omega, by omega, by omega, hsk, HS, HM.out⟩
          case round =>
            obtain ⟨a, b, k2, dk2, rfl, rfl, hba, haN, hg2, hk2, hsk2, HS2, HO2⟩ := hrel
            obtain ⟨k2, rfl⟩ : ∃ k', k2 = k' + 1 := ⟨k2 - 1, by omega⟩
            have wm : IntKind.i64.wrap ((a : Int) + (bs : Int)) = ((a + bs : Nat) : Int) := by rw [IntKind.wrap_i64]; omega
            by_cases hle : b ≤ N
            · have hlez : (b : Int) ≤ (N : Int) := by omega
              have wb3 : IntKind.i64.wrap ((b : Int) + 2 * (bs : Int)) = ((b + 2 * bs : Nat) : Int) := by rw [IntKind.wrap_i64]; omega
              have wb4 : IntKind.i64.wrap ((b : Int) + ((2 * bs : Nat) : Int)) = ((b + 2 * bs : Nat) : Int) := by rw [IntKind.wrap_i64]; omega
              go_wp2_with (go_at_call 74; (try rw [show ((a : Int) + (bs : Int)) = ((a + bs : Nat) : Int) by omega]); (with_reducible refine (SYM.out (2 * bs) a (a + bs) b dk2 _ HS2.out hsk2 (by omega) (by have := hba.out; omega) hle (by have := hba.out; omega)).mono ?_); rintro e w5 ⟨rfl, hs⟩; have HS5 := Aside0.mk hs; clear hs)
              go_roundg (N - b)
              case measure => have := hba.out; omega
              case rel => exact ⟨b, b + 2 * bs, k2, _, rfl, by go_num, rfl, hle, by omega, by have := hba.out; omega, by rw [size_symM]; exact hsk2, HS5.out, by have h := HO2.out; have e := hba.out; rw [mrgBlk, if_pos (by omega), ← e] at h; exact h⟩
            · have hlez : ¬ (b : Int) ≤ (N : Int) := by omega
              by_cases hmn : a + bs < N
              · have hmnz : (a : Int) + (bs : Int) < (N : Int) := by omega
                have hmnz2 : ((a + bs : Nat) : Int) < (N : Int) := by omega
                have h1 : Hid (symM (ltOf cmpO) (N - a) a (a + bs) N dk2 = M) := by have h := HO2.out; have e := hba.out; rw [mrgBlk, if_neg (by omega), if_pos hmn] at h; exact h
                go_wp2_with (go_at_call 74; (try rw [show ((a : Int) + (bs : Int)) = ((a + bs : Nat) : Int) by omega]); (with_reducible refine (SYM.out (N - a) a (a + bs) N dk2 _ HS2.out hsk2 (by omega) (by omega) (Nat.le_refl _) (by omega)).mono ?_); rintro e w5 ⟨rfl, hs⟩; have HS5 := Aside0.mk hs; clear hs)
                go_roundg (N - 2 * bs)
                case measure => omega
                case rel => exact ⟨2 * bs, k, M, by go_num, by omega, by omega, by omega, by omega, by omega, by rw [← h1.out, size_symM]; exact hsk2, by rw [← h1.out]; exact HS5.out, by have h := HO.out; rw [dblGo, if_pos hlt, HM.out] at h; exact h⟩
              · have hmnz : ¬ (a : Int) + (bs : Int) < (N : Int) := by omega
                have hmnz2 : ¬ ((a + bs : Nat) : Int) < (N : Int) := by omega
                have h1 : Hid (dk2 = M) := by have h := HO2.out; have e := hba.out; rw [mrgBlk, if_neg (by omega), if_neg hmn] at h; exact h
                go_wp2
                go_roundg (N - 2 * bs)
                case measure => omega
                case rel => exact ⟨2 * bs, k, M, by go_num, by omega, by omega, by omega, by omega, by omega, by rw [← h1.out]; exact hsk2, by rw [← h1.out]; exact HS2.out, by have h := HO.out; rw [dblGo, if_pos hlt, HM.out] at h; exact h⟩
        · have hltz : ¬ (bs : Int) < (N : Int) := by omega
          go_wp2
          go_end0
          refine ⟨rfl, ?_⟩
          have h := HO.out
          rw [dblGo, if_neg hlt] at h
          rw [← h]
          exact HS.out
end
set_option maxHeartbeats 4000000 in
set_option maxRecDepth 100000 in
theorem stable_none (v f : Value) (w : World) : Calls Try.prog 62 #[v, .int .i64 0, f] w fun e w' => e = .returned (.tuple #[]) ∧ w' = w := by
  go_enter Try.func62, Try.ntmps62
  go_wp2
  refine wp_loop_rounds 1 ?_
  rw [rounds_succ]
  go_wp2_with (go_at_call 73; refine (ins_none _ _ _).mono ?_; rintro e w1 ⟨rfl, rfl⟩)
  refine wp_loop_rounds 1 ?_
  rw [rounds_succ]
  go_wp2
  all_goals first | (exfalso; omega) | (go_end0; exact ⟨rfl, rfl⟩)
def sortL (l : List SO) : List SO := (stableM (Go.Proofs.ltOf cmpO) l.length l.toArray).toList
theorem sortL_length (l : List SO) : (sortL l).length = l.length := by rw [sortL, Array.length_toList, size_stableM]; simp
set_option maxHeartbeats 4000000 in
set_option maxRecDepth 100000 in
theorem sortStable_order (v : Value) (xs : List SO) (W : World) (base : Nat) (hbase : base ≤ W.heap.size) (hR : KO.R 42 W base (fun _ => True) v xs) (h19 : xs.length ≤ 1000000) :
    Calls Try.prog 45 #[v, .func (.func 46) #[] #[]] W fun e w' => e = .returned (.tuple #[]) ∧ KO.R 42 w' base (fun _ => True) v (sortL xs) ∧ Below base W w' := by
  obtain ⟨A2, c2, rfl⟩ := Kd.R_slice hR
  have hu := Try.underlying22
  obtain ⟨n, hn⟩ : ∃ n, xs.length = n := ⟨_, rfl⟩
  rcases Nat.eq_zero_or_pos n with h0 | h0
  · have hz : xs = [] := List.eq_nil_of_length_eq_zero (by omega)
    subst hz
    have HR := Aside0.mk hR
    simp only [List.length_nil]
    simp only [List.length_nil] at HR
    clear hR hn h0 h19
    go_enter Try.func45, Try.ntmps45
    go_wp2_with (go_at_call 62; refine (stable_none _ _ _).mono ?_; rintro e w1 ⟨rfl, rfl⟩)
    go_end0
    refine ⟨rfl, ?_, Below.refl _ _⟩
    have e : sortL [] = [] := List.eq_nil_of_length_eq_zero (sortL_length [])
    rw [e]; exact HR.out
  · obtain ⟨hok, inner, ho, hr⟩ := hR
    obtain ⟨g, cap, e, hg, hgl, hH, hback⟩ := Go.Proofs.own_sort (enc := encO) (k := 6) ho (fun _ => rfl) (fun j x hj => k42_openM (hr.2 j x hj)) (by omega)
    have hs : xs.toArray.size = n := by simpa using hn
    have hc := stable_all g cap n xs.toArray W hs hH hgl (by omega)
    simp only [Value.slice.injEq] at e
    obtain ⟨rfl, -, rfl⟩ := e
    have HC := Aside0.mk hc
    have HB := Aside0.mk hback
    have HN := Aside0.mk hn
    have HG := Aside0.mk (And.intro hg hbase)
    rw [hn]
    clear hc hback hH hr ho hok hs hn hg hgl h19 h0 hbase
    go_enter Try.func45, Try.ntmps45
    go_wp2_with (go_at_call 62; refine HC.out.mono ?_; rintro e w1 ⟨rfl, hs⟩; have HS := Aside0.mk hs; clear hs)
    go_end0
    refine ⟨rfl, ?_, ?_⟩
    · have e : sortL xs = (stableM (Go.Proofs.ltOf cmpO) n xs.toArray).toList := by rw [sortL, HN.out]
      have ho2 := HB.out (stableM (Go.Proofs.ltOf cmpO) n xs.toArray) _ (by rw [size_stableM]; simp) HS.out
      rw [e]
      have hl : (stableM (Go.Proofs.ltOf cmpO) n xs.toArray).toList.length = n := by rw [Array.length_toList, size_stableM]; simpa using HN.out
      refine ⟨fun _ _ => trivial, _, (by rw [HN.out] at ho2; exact ho2), ?_, fun j p hj => ?_⟩
      · simp; rfl
      · have q := Go.Proofs.flatK_drop (enc := encO) (k := 6) (fun _ => rfl) _ j p hj
        have q' : (List.drop (j * KO.sz) (Sort.flatK encO 6 (stableM (Go.Proofs.ltOf cmpO) n xs.toArray)).toList).take KO.sz = encO p := q
        rw [q']
        exact k42_mkM _ _ _ _
    · have hk := HS.out.kb
      exact ⟨hk.os, hk.tape, hk.output, hk.size, fun k hk1 => hk.block k (Nat.lt_of_lt_of_le hk1 HG.out.2) (by have := HG.out.1; omega)⟩
def order_Sorted.f (l0 : List SO) : Option (List SO) := if l0.length ≤ 1000000 then some (sortL l0) else none
set_option maxHeartbeats 4000000 in
set_option maxRecDepth 100000 in
theorem order_Sorted.calls (A0 : Option Addr) (c0 : Nat) (l0 : List SO) (r : List SO) (w : World) (hr0 : Kd.C KO w A0 l0.length l0) (hc0 : l0.length ≤ c0) (h : order_Sorted.f l0 = some r) :
    Calls Try.prog 28 #[.slice A0 l0.length c0] w fun e w' => ∃ v0_, e = .returned v0_ ∧ Kd.R KO 42 w' w.heap.size (fun _ => True) v0_ r ∧ Below w.heap.size w w' := by
  have h19 : l0.length ≤ 1000000 := by
    unfold order_Sorted.f at h; split at h
    · assumption
    · cases h
  have hr : sortL l0 = r := by unfold order_Sorted.f at h; rw [if_pos h19] at h; exact Option.some.inj h
  subst hr
  have H := Aside0.mk (And.intro hr0 h19)
  obtain ⟨n, hn⟩ : ∃ n, l0.length = n := ⟨_, rfl⟩
  have HN := Aside0.mk hn
  rw [hn]
  clear h hr0 h19 hc0 hn
  go_enter Try.func28, Try.ntmps28
  go_wp2_with (first
    | (go_at_call 44; refine (HN.out ▸ clone_order A0 c0 l0 w H.out.1 (by have := H.out.2; omega)).mono ?_; rintro e w1 ⟨v, rfl, hR, hb⟩; have HR := Aside0.mk hR; have HB := Aside0.mk hb; clear hR hb)
    | (go_at_call 45; refine (sortStable_order _ l0 _ w.heap.size HB.out.size HR.out H.out.2).mono ?_; rintro e w2 ⟨rfl, hR, hb⟩; have HR2 := Aside0.mk hR; have HB2 := Aside0.mk (HB.out.trans hb); clear hR hb))
  go_ret
  exact ⟨_, rfl, HR2.out, HB2.out⟩
end Go.Proofs.Ytjjnbcaemognhaa.Clr
