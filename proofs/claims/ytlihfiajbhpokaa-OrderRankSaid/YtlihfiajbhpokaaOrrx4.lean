/- Printed by this session's wip/drive.py over the translation; some functions by hand. -/
import Derived.Test.YtlihfiajbhpokaaOrrx0
import Derived.Test.YtlihfiajbhpokaaOrrx3
namespace Go.Proofs.Ytlihfiajbhpokaa.Orr
open Go.RowKit Go.Proofs.YtlihfiajbhpokaaW.PrintWords Go.Proofs.YtlihfiajbhpokaaW.PrintLast Go.Proofs.YtlihfiajbhpokaaW.PrintMore
attribute [local go_sem] max2_int min2_int max_two min_two max_three min_three max_four min_four   -- for this text's walks alone
set_option linter.unusedVariables false
set_option linter.unusedSimpArgs false

/-! ### order_Book: function 15 (by hand) -/
theorem Calls.named_o {P : Program} {f : FuncId} {args : Array Value} {w : World} {R : Ending → World → Prop} (h : ∀ w', w' = w → Calls P f args w' R) : Calls P f args w R := h _ rfl
theorem wid64 {x : Int} (h0 : -9223372036854775808 ≤ x) (h1 : x ≤ 9223372036854775807) : wrap64 x = x := by unfold wrap64; omega
deriving instance DecidableEq for S33
theorem eq51_loop (l0 l1 : List SO) (n : Nat) (h0 : l0.length = n) (h1 : l1.length = n) (hn : n < 4611686018427387904) : ∀ (m i : Nat), i + m = n → api_Order_51.l0 (m + 1) l0 l1 (n : Int) (i : Int) = some (decide (l0.drop i = l1.drop i))
  | 0, i, h => by
    obtain rfl : i = n := by omega
    simp only [api_Order_51.l0]
    rw [if_neg (by omega), List.drop_eq_nil_of_le (by omega), List.drop_eq_nil_of_le (by omega)]
    simp
  | m + 1, i, h => by
    have hw : wrap64 ((i : Int) + 1) = ((i + 1 : Nat) : Int) := by rw [wid64 (by omega) (by omega)]; rfl
    rw [api_Order_51.l0, hw, eq51_loop l0 l1 n h0 h1 hn m (i + 1) (by omega), if_pos (by omega), if_pos (by omega), if_pos (by omega), if_pos (by omega)]
    have a0 : rd_T33 l0 (i : Int) = l0[i]'(by omega) := by simp [rd_T33, List.getD_eq_getElem?_getD, List.getElem?_eq_getElem (show i < l0.length by omega)]
    have a1 : rd_T33 l1 (i : Int) = l1[i]'(by omega) := by simp [rd_T33, List.getD_eq_getElem?_getD, List.getElem?_eq_getElem (show i < l1.length by omega)]
    rw [a0, a1, List.drop_eq_getElem_cons (show i < l0.length by omega), List.drop_eq_getElem_cons (show i < l1.length by omega)]
    generalize l0[i]'(by omega) = x
    generalize l1[i]'(by omega) = y
    by_cases h : x = y
    · subst h
      rw [if_neg (by simp)]
      simp
    · rw [if_pos]
      · simp [h]
      · apply Classical.byContradiction
        intro hc
        apply h
        cases x
        cases y
        simp at hc
        simp_all
theorem eq51 (l0 l1 : List SO) (hn : l0.length < 4611686018427387904) : api_Order_51.f (l0.length + 1) l0 l1 = some (decide (l0 = l1)) := by
  unfold api_Order_51.f
  by_cases h : l0.length = l1.length
  · rw [if_pos (by omega)]
    have e := eq51_loop l0 l1 l0.length rfl h.symm hn l0.length 0 (by omega)
    rw [show ((0 : Nat) : Int) = 0 from rfl] at e
    rw [e]; simp
  · rw [if_neg (by omega)]
    have : ¬ l0 = l1 := fun e => h (by rw [e])
    simp [this]
def goodO (x : SO) : Bool := (order_Good.f x.f0 x.f1 x.f2 x.f3 x.f4 x.f5).getD false
theorem goodO_some (x : SO) : order_Good.f x.f0 x.f1 x.f2 x.f3 x.f4 x.f5 = some (goodO x) := by
  obtain ⟨r, hr⟩ : ∃ r, order_Good.f x.f0 x.f1 x.f2 x.f3 x.f4 x.f5 = some r := by
    simp only [order_Good.f]
    repeat' split
    all_goals exact ⟨_, rfl⟩
  rw [hr, goodO, hr]; rfl
def bookL : List SO → List Int → Bool
  | [], _ => true
  | x :: r, S => goodO x && !S.contains x.f0 && bookL r (x.f0 :: S)
def idsIn (l : List SO) : Bool := l.all fun x => decide (0 ≤ x.f0) && decide (x.f0 ≤ 18446744073709551615)
def order_Book.f (l0 : List SO) : Option Bool := if idsIn l0 = true then (if l0.length > 64 then some false else (order_Sorted.f l0).map fun s => decide (l0 = s) && bookL l0 []) else none

theorem idsIn_at {l : List SO} (h : idsIn l = true) {x : SO} (hx : x ∈ l) : (Lit.int IntKind.u64 x.f0).wf = true := by
  have := List.all_eq_true.1 h x hx
  exact this
set_option maxHeartbeats 8000000 in
set_option maxRecDepth 100000 in
theorem order_Book.calls (A0 : Option Addr) (c0 : Nat) (l0 : List SO) (r : Bool) (w : World) (hr0 : Kd.C KO w A0 l0.length l0) (hc0 : l0.length ≤ c0) (h : order_Book.f l0 = some r) :
    Calls Try.prog 15 #[.slice A0 l0.length c0] w fun e w' => e = .returned (.bool r) ∧ Below w.heap.size w w' := by
  have hu := Try.underlying33
  have hin : idsIn l0 = true := by
    unfold order_Book.f at h; split at h
    · assumption
    · cases h
  unfold order_Book.f at h
  rw [if_pos hin] at h
  have HIN := Aside0.mk hin
  clear hin
  have HR := Aside0.mk hr0
  have HC := Aside0.mk hc0
  clear hr0 hc0
  obtain ⟨n, hn⟩ : ∃ n, l0.length = n := ⟨_, rfl⟩
  by_cases h64 : l0.length > 64
  · rw [if_pos h64] at h
    obtain rfl := Option.some.inj h
    rw [hn] at h64 ⊢
    clear h hn
    have hz : (n : Int) > 64 := by omega
    have hzd : decide ((n : Int) > 64) = true := decide_eq_true hz
    go_enter Try.func15, Try.ntmps15
    go_wp2
    go_ret
    exact ⟨rfl, Below.refl _ _⟩
  · rw [if_neg h64] at h
    obtain ⟨s, hs, hr⟩ := Option.map_eq_some_iff.1 h
    have HS := Aside0.mk hs
    have hq := eq51 l0 s (by omega)
    obtain ⟨q, hqq⟩ : ∃ q, decide (l0 = s) = q := ⟨_, rfl⟩
    rw [hqq] at hq hr
    have HQ := Aside0.mk hq
    have HN := Aside0.mk hn
    rw [hn] at h64 ⊢
    have hz : ¬ (n : Int) > 64 := by omega
    have hzd : decide ((n : Int) > 64) = false := decide_eq_false hz
    clear h hs hq hqq hn
    cases q with
    | false =>
      simp only [Bool.false_and] at hr
      subst hr
      go_enter Try.func15, Try.ntmps15
      go_wp2_with (first
        | (go_at_call 13; refine (HN.out ▸ order_Sorted.calls A0 c0 l0 s w HR.out HC.out HS.out).mono ?_; rintro e w1 ⟨v, rfl, hR, hb⟩; obtain ⟨A2, c2, rfl⟩ := Kd.R_slice hR; have HR2 := Aside0.mk (Kd.R_reads' hR); have HB := Aside0.mk hb; clear hR hb)
        | (go_at_call 51; refine (HN.out ▸ api_Order_51.calls (l0.length + 1) A0 c0 l0 A2 c2 s false _ (Kd.C_below HR.out HB.out) HC.out HR2.out.2.2 HR2.out.2.1 HQ.out).mono ?_; rintro e w2 ⟨rfl, m2, rfl⟩))
      go_ret
      exact ⟨rfl, pw_below_drewN HB.out _⟩
    | true =>
      simp only [Bool.true_and] at hr
      have HRES := Aside0.mk hr
      clear hr
      have hmm := @run_makeMap Try.prog
      go_enter Try.func15, Try.ntmps15
      go_wp2_with (first
        | (go_at_call 13; refine (HN.out ▸ order_Sorted.calls A0 c0 l0 s w HR.out HC.out HS.out).mono ?_; rintro e w1 ⟨v, rfl, hR, hb⟩; obtain ⟨A2, c2, rfl⟩ := Kd.R_slice hR; have HR2 := Aside0.mk (Kd.R_reads' hR); have HB := Aside0.mk hb; clear hR hb)
        | (go_at_call 51; refine (HN.out ▸ api_Order_51.calls (l0.length + 1) A0 c0 l0 A2 c2 s true _ (Kd.C_below HR.out HB.out) HC.out HR2.out.2.2 HR2.out.2.1 HQ.out).mono ?_; rintro e w2 ⟨rfl, m2, rfl⟩))
      obtain ⟨w3, hw3⟩ : ∃ w3, w3 = w1.drewN m2 := ⟨_, rfl⟩
      have HB3 : Aside0 (Below w.heap.size w w3) := Aside0.mk (by rw [hw3]; exact pw_below_drewN HB.out _)
      have eg : w3.heap.size = w1.heap.size := by rw [hw3]; rfl
      rw [← hw3]
      clear hw3
      have hS0 := SetM.made Try.prog 31 4 .u64 w3
      have hB4 : Below w.heap.size w (w3.alloc (.map #[] 0)) := below_alloc HB3.out _
      have hg0 : w.heap.size ≤ w3.heap.size := HB3.out.size
      generalize w3.alloc (.map #[] 0) = w4 at hS0 hB4 ⊢
      rw [eg] at hS0 hg0
      clear eg HR2 HB
      generalize w1.heap.size = g at hS0 hg0 ⊢
      have HS0 := Aside0.mk hS0
      have HB4 := Aside0.mk hB4
      have HG := Aside0.mk hg0
      clear hS0 hB4 hg0 hmm HB3
      go_loopg [19] n (fun kq v wr => ∃ (i : Nat) (S : List Int), v = .int .i64 i ∧ Aside0 (i ≤ n) ∧ Aside0 (n ≤ i + kq) ∧ Aside0 (SetM Try.prog 31 4 .u64 wr g i S) ∧ Aside0 (Below w.heap.size w wr) ∧ Aside0 (bookL (l0.drop i) S = r))
      case atStart => exact ⟨0, [], rfl, ⟨Nat.zero_le _⟩, ⟨by omega⟩, HS0, HB4, ⟨HRES.out⟩⟩
      case round =>
        clear HS0 HB4 HRES
        obtain ⟨i, S, rfl, HI, HK, HM, HBW, HRES⟩ := hrel
        by_cases hlt : i < n
        · have hltz : (i : Int) < (n : Int) := by omega
          have hlen := HN.out
          have hi : i < l0.length := by omega
          obtain ⟨x, hx⟩ : ∃ x, l0[i] = x := ⟨_, rfl⟩
          have hmem : x ∈ l0 := by rw [← hx]; exact List.getElem_mem hi
          have hwf := idsIn_at HIN.out hmem
          have hres := HRES.out
          rw [List.drop_eq_getElem_cons hi, hx] at hres
          simp only [bookL] at hres
          have p0 : (0 : Int) ≤ (i : Int) := by omega
          obtain ⟨ad, eA, hx0, hx1, hx2, hx3, hx4, hx5⟩ := at_T33 (Kd.C_below HR.out HBW.out) (i : Int) p0 (by omega)
          have erd : rd_T33 l0 (i : Int) = x := by rw [← hx]; simp [rd_T33, List.getD_eq_getElem?_getD, List.getElem?_eq_getElem hi]
          rw [erd] at hx0 hx1 hx2 hx3 hx4 hx5
          simp only [Int.toNat_natCast] at hx0 hx1 hx2 hx3 hx4 hx5
          cases eA
          have hgood := goodO_some x
          obtain ⟨q1, hq1⟩ : ∃ q, goodO x = q := ⟨_, rfl⟩
          obtain ⟨q2, hq2⟩ : ∃ q, S.contains x.f0 = q := ⟨_, rfl⟩
          rw [hq1] at hgood hres
          rw [hq2] at hres
          have HGO := Aside0.mk hgood
          have HWF := Aside0.mk hwf
          have HRS := Aside0.mk hres
          have HQ2 := Aside0.mk hq2
          clear hgood hwf hres hq2 hq1 hmem hx hi hlen erd
          cases q1 with
          | false =>
            go_wp2_with (first
              | (go_at_call 20; refine Calls.named_o ?_; intro w5 hw5; have hb5 : Below w.heap.size w w5 := (by rw [hw5]; repeat (first | exact HBW.out | apply below_alloc)); refine (order_Good.calls _ _ _ _ _ _ false w5 HGO.out).mono ?_; rintro e w6 ⟨rfl, hb⟩; have HB6 := Aside0.mk (hb5.trans (hb.mono hb5.size)); clear hb5 hb hw5))
            go_ret
            exact ⟨by have := HRS.out; simp at this; rw [this]; rfl, HB6.out⟩
          | true =>
            cases q2 with
            | true =>
              go_wp2_with (first
                | (go_at_call 20; refine Calls.named_o ?_; intro w5 hw5; have hb5 : Below wr.heap.size wr w5 := (by rw [hw5]; exact below_alloc (Below.refl _ _) _); have hk5 := (by rw [hw5]; exact blk_new wr _ : w5.heap[wr.heap.size]? = some (.cells #[.int .u64 x.f0, .int .i64 x.f1, .int .i64 x.f2, .int .i64 x.f3, .int .i64 x.f4, .int .u64 x.f5] 33 (0, 0))); clear hw5; refine (order_Good.calls _ _ _ _ _ _ true w5 HGO.out).mono ?_; rintro e w6 ⟨rfl, hb⟩; have hk6 := (hb.block _ (blk_lt hk5)).trans hk5; have hc6 : w6.cell? ⟨wr.heap.size, 0, none⟩ = some (.int .u64 x.f0) := (blk_cell hk6 0).trans rfl; have hb6 := hb5.trans (hb.mono hb5.size); have hM6 := HM.out.kept hb6; have hlk := hM6.look Try.underlying31 Try.underlying4 Try.underlying86 (Try.zeroValue4 _) x.f0 HWF.out; rw [HQ2.out] at hlk; have HB6 := Aside0.mk (HBW.out.trans (hb6.mono HBW.out.size)); have HM6 := Aside0.mk hM6; clear hb5 hb hk5 hk6 hb6 hM6))
              go_ret
              exact ⟨by have := HRS.out; simp at this; rw [this]; rfl, HB6.out⟩
            | false =>
              go_wp2_with (first
                | (go_at_call 20; refine Calls.named_o ?_; intro w5 hw5; have hb5 : Below wr.heap.size wr w5 := (by rw [hw5]; exact below_alloc (Below.refl _ _) _); have hk5 := (by rw [hw5]; exact blk_new wr _ : w5.heap[wr.heap.size]? = some (.cells #[.int .u64 x.f0, .int .i64 x.f1, .int .i64 x.f2, .int .i64 x.f3, .int .i64 x.f4, .int .u64 x.f5] 33 (0, 0))); clear hw5; refine (order_Good.calls _ _ _ _ _ _ true w5 HGO.out).mono ?_; rintro e w6 ⟨rfl, hb⟩; have hk6 := (hb.block _ (blk_lt hk5)).trans hk5; have hc6 : w6.cell? ⟨wr.heap.size, 0, none⟩ = some (.int .u64 x.f0) := (blk_cell hk6 0).trans rfl; have hb6 := hb5.trans (hb.mono hb5.size); have hM6 := HM.out.kept hb6; have hlk := hM6.look Try.underlying31 Try.underlying4 Try.underlying86 (Try.zeroValue4 _) x.f0 HWF.out; rw [HQ2.out] at hlk; have HB6 := Aside0.mk (HBW.out.trans (hb6.mono HBW.out.size)); have HM6 := Aside0.mk hM6; clear hb5 hb hk5 hk6 hb6 hM6; obtain ⟨w7, hput, hM7, hg7⟩ := HM6.out.put Try.underlying31 Try.underlying4 Try.underlying86 (by have := HI.out; simp only [maxLen]; omega) x.f0 HWF.out; have HM7 := Aside0.mk hM7; have HB7 := Aside0.mk (HB6.out.grown hg7 HB6.out.size (fun k hk => by cases hk; exact HG.out)); clear hM7 hg7))
              go_roundg (n - (i + 1))
              case measure => have := HK.out; omega
              case rel =>
                refine ⟨i + 1, x.f0 :: S, by go_num, ⟨by omega⟩, ⟨by have := HK.out; omega⟩, HM7, HB7, ⟨?_⟩⟩
                have := HRS.out
                simpa using this
        · have hltz : ¬ (i : Int) < (n : Int) := by omega
          go_wp2
          go_ret
          have e : i = l0.length := by have := HI.out; have := HN.out; omega
          have hr := HRES.out
          rw [e, List.drop_length] at hr
          exact ⟨by rw [← hr]; rfl, HBW.out⟩

/-! ### jobberlaw12_lives: function 10 (by hand) -/
def ex1 : SO := ⟨1, 0, 1, 10, 1, 2⟩
def ex2 : SO := ⟨2, 0, 1, 11, 1, 3⟩
def ex3 : SO := ⟨3, 0, 1, 10, 1, 1⟩
theorem ex_sorted : order_Sorted.f [ex1, ex2, ex3] = some [ex2, ex3, ex1] := by decide +kernel
theorem ex_book : order_Book.f [ex2, ex3, ex1] = some true := by decide +kernel
theorem ex_reps (w : World) (base : Nat) (ok : Nat → Prop) : Reps (KO.M w base ok) KO.sz [ex1, ex2, ex3] (encO ex1 ++ encO ex2 ++ encO ex3) :=
  ⟨rfl, fun j p hj => by
    rcases j with _ | _ | _ | j
    · obtain rfl : ex1 = p := by simpa using hj
      exact k33_mkM _ _ _ ex1
    · obtain rfl : ex2 = p := by simpa using hj
      exact k33_mkM _ _ _ ex2
    · obtain rfl : ex3 = p := by simpa using hj
      exact k33_mkM _ _ _ ex3
    · simp at hj⟩
def jobberlaw12_lives.f : Option Bool := some true
set_option maxHeartbeats 8000000 in
set_option maxRecDepth 100000 in
theorem jobberlaw12_lives.calls (r : Bool) (w : World) (h : jobberlaw12_lives.f = some r) :
    Calls Try.prog 10 #[] w fun e w' => e = .returned (.bool r) ∧ Below w.heap.size w w' := by
  obtain rfl := Option.some.inj h
  have hu := Try.underlying33
  clear h
  go_enter Try.func10, Try.ntmps10
  go_wp2_with (first
    | ((with_reducible refine gate_dst (N := 5) rfl ?_); refine Kd.R_lit KO (w0 := w) w.heap.size 33 ?hg (N := 5) ?hd (xs := [ex1, ex2, ex3]) (inner := encO ex1 ++ encO ex2 ++ encO ex3) (ok := fun _ => True) (okp := fun _ => False) ?hr ?hp (fun _ hk => hk.elim) trivial (Below.refl _ _) (Nat.le_refl _) (by decide) ?_; (case hd => rfl); (case hg => rfl); (case hr => first | (go_simp; done) | (go_simp; rfl)); (case hp => exact ex_reps _ _ _); intro v5 w5 hr5 hb5 _ _; obtain ⟨A5, c5, rfl⟩ := Kd.R_slice hr5; have HR5 := Aside0.mk (Kd.R_reads' hr5); have HB5 := Aside0.mk hb5; clear hr5 hb5)
    | (go_at_call 13; refine (order_Sorted.calls A5 c5 _ _ w5 HR5.out.2.2 HR5.out.2.1 ex_sorted).mono ?_; rintro e w6 ⟨v6, rfl, hr6, hb6⟩; obtain ⟨A6, c6, rfl⟩ := Kd.R_slice hr6; have HR6 := Aside0.mk (Kd.R_reads' hr6); have HB6 := Aside0.mk (HB5.out.trans (hb6.mono HB5.out.size)); clear hr6 hb6; obtain ⟨ad, eA, hx0, hx1, hx2, hx3, hx4, hx5⟩ := at_T33 HR6.out.2.2 0 (by decide) (by decide); obtain ⟨ad', eA', hy0, hy1, hy2, hy3, hy4, hy5⟩ := at_T33 HR6.out.2.2 1 (by decide) (by decide); obtain ⟨ad'', eA'', hz0, hz1, hz2, hz3, hz4, hz5⟩ := at_T33 HR6.out.2.2 2 (by decide) (by decide); cases eA; cases eA'; cases eA''; have hX : w6.cell? ad = some (.int .u64 2) := hx0; have hY : w6.cell? ⟨ad.block, ad.off + 6, none⟩ = some (.int .u64 3) := hy0; have hZ : w6.cell? ⟨ad.block, ad.off + 12, none⟩ = some (.int .u64 1) := hz0; clear hx0 hx1 hx2 hx3 hx4 hx5 hy0 hy1 hy2 hy3 hy4 hy5 hz0 hz1 hz2 hz3 hz4 hz5)
    | (go_at_call 15; refine (order_Book.calls _ _ _ _ w6 HR6.out.2.2 HR6.out.2.1 ex_book).mono ?_; rintro e w7 ⟨rfl, hb7⟩; have HB7 := Aside0.mk (HB6.out.trans (hb7.mono HB6.out.size)); clear hb7))
  go_ret
  exact ⟨rfl, HB7.out⟩

end Go.Proofs.Ytlihfiajbhpokaa.Orr
