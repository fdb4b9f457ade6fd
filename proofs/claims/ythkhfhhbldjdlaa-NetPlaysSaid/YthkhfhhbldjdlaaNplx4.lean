/- Printed by this session's wip/drive.py over the translation; some functions by hand. -/
import Derived.Test.YthkhfhhbldjdlaaNplx0
import Derived.Test.YthkhfhhbldjdlaaNplx2
import Derived.Test.YthkhfhhbldjdlaaNplx3
namespace Go.Proofs.Ythkhfhhbldjdlaa.Npl
open Go.RowKit Go.Proofs.YthkhfhhbldjdlaaW.PrintWords Go.Proofs.YthkhfhhbldjdlaaW.PrintLast Go.Proofs.YthkhfhhbldjdlaaW.PrintMore
attribute [local go_sem] max2_int min2_int max_two min_two max_three min_three max_four min_four   -- for this text's walks alone
set_option linter.unusedVariables false
set_option linter.unusedSimpArgs false

/-! ### jobberlaw37_lives: function 11 (by hand) -/
section
section
open Go.Shelf
attribute [local go_sem] Oper.semAt_some
set_option maxHeartbeats 8000000 in
set_option maxRecDepth 100000 in
theorem net_links (po : Option Addr) (w : World) :
    Calls Try.prog 22 #[.pointer po] w fun e w' => e = .returned (.func (.func 60) #[] #[.pointer (some ⟨w.heap.size, 0, none⟩)]) ∧ w' = w.alloc (.cells #[.pointer po] 24) := by
  go_enter Try.func22, Try.ntmps22
  go_wp2
  go_ret
  exact ⟨rfl, rfl⟩
/-- Below n, but for X, all lies as it lay. -/
def KX (n : Nat) (X : Nat → Prop) (W W' : World) : Prop := W.heap.size ≤ W'.heap.size ∧ ∀ k, k < n → ¬ X k → W'.heap[k]? = W.heap[k]?
theorem KX.refl (n : Nat) (X : Nat → Prop) (W : World) : KX n X W W := ⟨Nat.le_refl _, fun _ _ _ => rfl⟩
theorem KX.trans {n : Nat} {X : Nat → Prop} {A B C : World} (h : KX n X A B) (k : KX n X B C) : KX n X A C := ⟨Nat.le_trans h.1 k.1, fun i hi hx => (k.2 i hi hx).trans (h.2 i hi hx)⟩
theorem KX.of_below {n : Nat} {X : Nat → Prop} {W W' : World} (h : Below W.heap.size W W') (hn : n ≤ W.heap.size) : KX n X W W' := ⟨h.size, fun k hk _ => h.block k (Nat.lt_of_lt_of_le hk hn)⟩
theorem KX.book {n : Nat} {X : Nat → Prop} {w : World} (hn : n ≤ w.heap.size) (W : World) (l : Nat) (o o' : Obj) (hl : w.heap.size ≤ l) (h : W.heap[l]? = some o) (_ : o.isCells = false) (_ : o.isWalk = false) : KX n X W (W.putObj l o') :=
  ⟨(grownBy_putObj' W l o').size, fun k hk _ => World.putObj_heap_other (fun e => by omega)⟩
abbrev Lk := { x : Int × Int // 0 ≤ x.1 ∧ x.1 < 16 ∧ 0 ≤ x.2 ∧ x.2 < 16 }
def lk (j : Nat) : Lk := ⟨(((j / 16 % 16 : Nat) : Int), ((j % 16 : Nat) : Int)), by show 0 ≤ ((j / 16 % 16 : Nat) : Int) ∧ ((j / 16 % 16 : Nat) : Int) < 16 ∧ 0 ≤ ((j % 16 : Nat) : Int) ∧ ((j % 16 : Nat) : Int) < 16; omega⟩
def linksL (cnt : Int → Int → Nat) (k : Nat) : List Lk := ((List.range k).filter (fun j => decide (0 < cnt (lk j).1.1 (lk j).1.2))).map lk
theorem linksL_pos {cnt : Int → Int → Nat} {k : Nat} (h : 0 < cnt (lk k).1.1 (lk k).1.2) : linksL cnt (k + 1) = linksL cnt k ++ [lk k] := by
  unfold linksL; rw [List.range_succ, List.filter_append, List.map_append]; simp [h]
theorem linksL_zero {cnt : Int → Int → Nat} {k : Nat} (h : ¬ 0 < cnt (lk k).1.1 (lk k).1.2) : linksL cnt (k + 1) = linksL cnt k := by
  unfold linksL; rw [List.range_succ, List.filter_append, List.map_append]; simp [h]
theorem linksL_le (cnt : Int → Int → Nat) (k : Nat) : (linksL cnt k).length ≤ k := by
  unfold linksL; rw [List.length_map]; exact Nat.le_trans (List.length_filter_le _ _) (by simp)
theorem linksL_pre (cnt : Int → Int → Nat) {k n : Nat} (h : k ≤ n) : linksL cnt k <+: linksL cnt n := by
  induction h with
  | refl => exact List.prefix_refl _
  | @step m _ ih =>
    by_cases c : 0 < cnt (lk m).1.1 (lk m).1.2
    · rw [linksL_pos c]; exact ih.trans (List.prefix_append _ _)
    · rw [linksL_zero c]; exact ih
set_option maxHeartbeats 8000000 in
set_option maxRecDepth 100000 in
theorem links1_stops (po : Option Addr) (cnt : Int → Int → Nat) (Bn n₀ : Nat) (X : Nat → Prop) (w : World) (hn0 : n₀ ≤ w.heap.size) (hBn : Bn < n₀) (hX : ¬ X Bn) (hb : w.heap[Bn]? = some (.cells #[.pointer po] 24 (0, 0)))
    (hC : ∀ W', KX n₀ X w W' → ∀ a b, WI a → WI b → Calls Try.prog 21 #[.pointer po, .int .i64 a, .int .i64 b] W' fun e w' => e = .returned (.int .i64 (cnt a b)) ∧ w' = W') :
    SeqStopsK Fence.wide 3 Try.prog 60 #[.pointer (some ⟨Bn, 0, none⟩)] (fun x : Lk => #[.int .i64 x.1.1, .int .i64 x.1.2]) (KX n₀ X) (fun xs => xs = linksL cnt 256) (fun pre => pre <+: linksL cnt 256) 256 w := fun l J Jx W hW hJ hJx hY h0 => by
  have HC := Aside0.mk hC
  have HY := Aside0.mk hY
  have HB := Aside0.mk hb
  have HK0 : Aside0 (KX n₀ X w W) := ⟨KX.of_below hW hn0⟩
  have HX := Aside0.mk hX
  clear hC hY hb hW hX hJ hJx
  refine callsIn_of_wp Try.func60 rfl trivial ?_ rfl
  simp only [Try.ntmps60, List.size_toArray, List.length_cons, List.length_nil, Nat.reduceAdd, Nat.reduceSub, Array.replicate_succ, Array.replicate_zero, List.push_toArray, List.append_toArray, List.nil_append, List.cons_append]
  gi_wp2
  gi_loopw [6] (fun v wr => ∃ k : Nat, k ≤ 256 ∧ v = .int .i64 (k : Int) ∧ Aside0 (J (linksL cnt k) wr) ∧ Aside0 (KX n₀ X w wr)) (fun v _ => 256 - (intOf v).toNat)
  case atStart => exact ⟨0, by omega, rfl, ⟨h0⟩, HK0⟩
  case round =>
    clear h0 HK0
    obtain ⟨k, hk, rfl, HJ, HK⟩ := hrel
    have hbn : wr.cell? ⟨Bn, 0, none⟩ = some (.pointer po) := (blk_cell ((HK.out.2 Bn hBn HX.out).trans HB.out) 0).trans rfl
    have hfn : wr.frozen? ⟨Bn, 0, none⟩ = false := blk_frozen ((HK.out.2 Bn hBn HX.out).trans HB.out) 0
    by_cases hlt : k < 256
    · have hlz : (k : Int) < 256 := by omega
      obtain ⟨q, hq⟩ : ∃ q, (lk k).1.1 = q := ⟨_, rfl⟩
      obtain ⟨r, hr⟩ : ∃ r, (lk k).1.2 = r := ⟨_, rfl⟩
      have hq1 : (k : Int) / 16 = q := by rw [← hq]; show (k : Int) / 16 = ((k / 16 % 16 : Nat) : Int); omega
      have hr1 : (k : Int) % 16 = r := by rw [← hr]; show (k : Int) % 16 = ((k % 16 : Nat) : Int); omega
      have hq2 : (k : Int).tdiv 16 = q := by rw [Int.tdiv_eq_ediv_of_nonneg (by omega)]; exact hq1
      have hr2 : (k : Int).tmod 16 = r := by rw [Int.tmod_eq_emod_of_nonneg (by omega)]; exact hr1
      have HQ := Aside0.mk (And.intro hq hr)
      have HWI := Aside0.mk (And.intro (WI_small (i := q) (by omega) (by omega)) (WI_small (i := r) (by omega) (by omega)))
      obtain ⟨c, hc⟩ : ∃ c, cnt q r = c := ⟨_, rfl⟩
      have HCC := Aside0.mk hc
      have hwk : wrap64 ((k : Int) + 1) = k + 1 := by unfold wrap64; omega
      clear hq hr hc
      by_cases hp : 0 < c
      · have hd : (0 : Int) < (c : Int) := by omega
        have hp' : 0 < cnt (lk k).1.1 (lk k).1.2 := by rw [HQ.out.1, HQ.out.2, HCC.out]; exact hp
        obtain ⟨fn, tmps, assign, body, hy, hR⟩ := HY.out (linksL cnt k) (lk k) wr HJ.out (Nat.lt_of_le_of_lt (linksL_le cnt k) hlt)
        simp only [HQ.out.1, HQ.out.2] at hy
        have HR := Aside0.mk hR
        have HP := Aside0.mk hp'
        clear hR hp'
        gi_wp2_with (refine ⟨trivial, ?_⟩; gi_at_call 21; refine (callsIn_wide.2 (HC.out _ HK.out q r HWI.out.1 HWI.out.2)).mono ?_; rw [HCC.out]; rintro e w1 ⟨rfl, rfl⟩)
        refine HR.out.mono ?_
        rintro e W3 (⟨rfl, hJ3, hk3⟩ | ⟨rfl, hJx3⟩)
        · have HJ3 := Aside0.mk hJ3
          have HK3 := Aside0.mk (HK.out.trans hk3)
          clear hJ3 hk3 hy HK HJ
          gi_wp2
          go_roundw
          case rel => exact ⟨k + 1, by omega, by go_num, by rw [linksL_pos HP.out]; exact HJ3, HK3⟩
          case measure => simp [intOf]; omega
        · have HJ3 := Aside0.mk hJx3
          clear hJx3 hy
          gi_wp2
          refine bodyPost_ret (results_none rfl _ _ _) rfl ?_
          exact ⟨⟨_, rfl⟩, .inr ⟨linksL cnt k ++ [lk k], by rw [← linksL_pos HP.out]; exact linksL_pre cnt (by omega), HJ3.out⟩⟩
      · have hd : ¬ (0 : Int) < (c : Int) := by omega
        have hp' : ¬ 0 < cnt (lk k).1.1 (lk k).1.2 := by rw [HQ.out.1, HQ.out.2, HCC.out]; exact hp
        have HP := Aside0.mk hp'
        have hc0 : c = 0 := by omega
        clear hp' hp hd
        subst hc0
        gi_wp2_with (refine ⟨trivial, ?_⟩; gi_at_call 21; refine (callsIn_wide.2 (HC.out _ HK.out q r HWI.out.1 HWI.out.2)).mono ?_; rw [HCC.out]; rintro e w1 ⟨rfl, rfl⟩)
        refine ⟨fun _ h => (by cases h), ?_⟩
        gi_wp2
        go_roundw
        case rel => exact ⟨k + 1, by omega, by go_num, by rw [linksL_zero HP.out]; exact HJ, HK⟩
        case measure => simp [intOf]; omega
    · have hk2 : k = 256 := by omega
      subst hk2
      gi_wp2
      go_end0
      exact ⟨⟨_, rfl⟩, .inl ⟨_, rfl, HJ.out⟩⟩
set_option maxHeartbeats 8000000 in
set_option maxRecDepth 100000 in
theorem total1 (po : Option Addr) (cnt : Int → Int → Nat) (Bn Bm : Nat) (w : World) (s : Nat) (hb : w.heap[Bn]? = some (.cells #[.pointer po] 24 (0, 0))) (hm : w.heap[Bm]? = some (.cells #[.int .i64 s] 3 (0, 0))) (a b : Int) (hs : s + cnt a b < 1000000000000)
    (hC : ∀ W', W' = w.drew → Calls Try.prog 21 #[.pointer po, .int .i64 a, .int .i64 b] W' fun e w' => e = .returned (.int .i64 (cnt a b)) ∧ w' = W') :
    Calls Try.prog 53 #[.int .i64 a, .int .i64 b, .pointer (some ⟨Bm, 0, none⟩), .pointer (some ⟨Bn, 0, none⟩)] w fun e w' => e = .returned (.tuple #[]) ∧ Fr (fun k => k = Bm) w w' ∧ w'.heap[Bm]? = some (.cells #[.int .i64 (s + cnt a b : Nat)] 3 (0, 0)) := by
  have n0 : w.cell? ⟨Bn, 0, none⟩ = some (.pointer po) := (blk_cell hb 0).trans rfl
  have fn0 := blk_frozen hb 0
  have m0 : w.cell? ⟨Bm, 0, none⟩ = some (.int .i64 s) := (blk_cell hm 0).trans rfl
  have fm0 := blk_frozen hm 0
  obtain ⟨c, hc⟩ : ∃ c, cnt a b = c := ⟨_, rfl⟩
  rw [hc] at hs hC ⊢
  have hw1 : IntKind.i64.wrap ((s : Int) + c) = (s + c : Nat) := by rw [IntKind.wrap_i64]; omega
  have HC := Aside0.mk hC
  have HM := Aside0.mk hm
  clear hb hm hC hc hs
  go_enter Try.func53, Try.ntmps53
  go_wp2_with fail
  go_region_with (go_at_call 21; refine (HC.out _ rfl).mono ?_; rintro e w1 ⟨rfl, rfl⟩)
  all_goals
    refine bodyPost_end (results_none rfl _ _ _) rfl ?_
    refine ⟨rfl, ?_, ?_⟩
    · first
        | exact (Fr.of_below (Below.refl _ _).drew).trans (Fr.set (Fr.refl (fun k => k = Bm) _) (.inl rfl) _) (fun _ hk => .inl hk)
        | exact Fr.set ((Fr.of_below (Below.refl _ _).drew)) (.inl rfl) _
    · first
        | exact blk_put (cs := #[.int .i64 s]) (t := 3) (w := w.drew) HM.out 0 _ rfl
        | exact blk_put (cs := #[.int .i64 s]) (t := 3) HM.out 0 _ rfl
end
end
section
section
open Go.Shelf
attribute [local go_sem] Oper.semAt_some
def sumL (cnt : Int → Int → Nat) : List Lk → Nat
  | [] => 0
  | x :: l => cnt x.1.1 x.1.2 + sumL cnt l
theorem sumL_snoc (cnt : Int → Int → Nat) (l : List Lk) (x : Lk) : sumL cnt (l ++ [x]) = sumL cnt l + cnt x.1.1 x.1.2 := by
  induction l with
  | nil => show cnt x.1.1 x.1.2 + 0 = 0 + cnt x.1.1 x.1.2; omega
  | cons a l ih => show cnt a.1.1 a.1.2 + sumL cnt (l ++ [x]) = cnt a.1.1 a.1.2 + sumL cnt l + _; rw [ih]; omega
theorem sumL_le (cnt : Int → Int → Nat) (h : ∀ a b, cnt a b ≤ 1000000) (l : List Lk) : sumL cnt l ≤ l.length * 1000000 := by
  induction l with
  | nil => exact Nat.le_refl _
  | cons a l ih => have := h a.1.1 a.1.2; show cnt a.1.1 a.1.2 + sumL cnt l ≤ (l.length + 1) * 1000000; omega
theorem KeepsOthers.of_fr {B : Nat} {W W' : World} {cs : Array Value} {t : TypeId} (h : Fr (fun k => k = B) W W') (hb : W.heap[B]? = some (.cells cs t (0, 0))) : KeepsOthers W W' :=
  ⟨h.size, fun k o hk ho => by
    by_cases e : k = B
    · subst e; rw [hb] at hk; injection hk with hk; subst hk; simp [Obj.isCells] at ho
    · exact (h.block k (Array.getElem?_eq_some_iff.1 hk).1 e).trans hk⟩
set_option maxHeartbeats 8000000 in
set_option maxRecDepth 100000 in
theorem net_total (po : Option Addr) (cnt : Int → Int → Nat) (w : World) (hcnt : ∀ a b, cnt a b ≤ 1000000)
    (hC : ∀ W', KX w.heap.size (fun _ => False) w W' → ∀ a b, WI a → WI b → Calls Try.prog 21 #[.pointer po, .int .i64 a, .int .i64 b] W' fun e w' => e = .returned (.int .i64 (cnt a b)) ∧ w' = W') :
    Calls Try.prog 18 #[.pointer po] w fun e w' => e = .returned (.int .i64 (sumL cnt (linksL cnt 256))) ∧ Below w.heap.size w w' := by
  have HC := Aside0.mk hC
  have HCN := Aside0.mk hcnt
  clear hC hcnt
  have S2 := ((St.start w (fun _ => False)).alloc (cs := #[.pointer po]) (t := 24)).alloc (cs := #[.int .i64 0]) (t := 3)
  have S3 := S2.alloc (cs := #[.nilFunc]) (t := 107)
  have S4 := (S2.alloc (cs := #[.func (.func 53) #[] #[.pointer (some ⟨w.heap.size + 1, 0, none⟩), .pointer (some ⟨w.heap.size, 0, none⟩)]]) (t := 107)).alloc (cs := #[.pointer po]) (t := 24)
  have hb2 := S3.blk 0 rfl
  simp only [World.size_alloc] at hb2 S4
  have HS4 := Aside0.mk S4
  have x0 : (((w.alloc (.cells #[.pointer po] 24)).alloc (.cells #[.int .i64 0] 3)).alloc (.cells #[.nilFunc] 107)).cell? ⟨w.heap.size + 1 + 1, 0, none⟩ = some .nilFunc := (blk_cell hb2 0).trans rfl
  have fx0 := blk_frozen hb2 0
  clear S2 S3 S4 hb2
  refine (callsIn_wide (n := 4)).1 ?_
  refine callsIn_of_wp_marks Try.func18 rfl trivial ?_ rfl
  simp only [Try.ntmps18, List.size_toArray, List.length_cons, List.length_nil, Nat.reduceAdd, Nat.reduceSub, Array.replicate_succ, Array.replicate_zero, List.push_toArray, List.append_toArray, List.nil_append, List.cons_append]
  gi_wp2_with (refine ⟨trivial, ?_⟩; gi_at_call 22; refine (callsIn_wide.2 (net_links _ _)).mono ?_; rintro e w' ⟨rfl, rfl⟩)
  clear x0 fx0
  obtain ⟨wl, hwl⟩ : ∃ wl, wl = ((((w.alloc (.cells #[.pointer po] 24)).alloc (.cells #[.int .i64 0] 3)).alloc (.cells #[.func (.func 53) #[] #[.pointer (some ⟨w.heap.size + 1, 0, none⟩), .pointer (some ⟨w.heap.size, 0, none⟩)]] 107)).alloc (.cells #[.pointer po] 24)) := ⟨_, rfl⟩
  rw [← hwl] at HS4 ⊢
  have hsz : wl.heap.size = w.heap.size + 4 := by rw [hwl]; simp
  have HSZ := Aside0.mk hsz
  clear hwl hsz
  have hB1 := HS4.out.blk 2 rfl
  have hB0 := HS4.out.blk 3 rfl
  have hB2 := HS4.out.blk 1 rfl
  have hB3 := HS4.out.blk 0 rfl
  have HB := Aside0.mk (And.intro hB0 (And.intro hB1 (And.intro hB2 hB3)))
  clear hB0 hB1 hB2 hB3
  have hb0 : Below w.heap.size w wl := HS4.out.below
  have hkx : ∀ W', KX wl.heap.size (fun k => k = w.heap.size + 1) wl W' → KX w.heap.size (fun _ => False) w W' := fun W' h =>
    ⟨Nat.le_trans hb0.size h.1, fun k hk _ => (h.2 k (by have := HSZ.out; omega) (by omega)).trans (hb0.block k hk)⟩
  refine wpIn_rangeFunc_ownF rfl (by decide) (gf := 60) (lb := #[.pointer (some ⟨w.heap.size + 1 + 1 + 1, 0, none⟩)]) rfl trivial (enters_of Try.func60 (by kernel_rfl) rfl)
    (links1_stops po cnt (w.heap.size + 1 + 1 + 1) wl.heap.size (fun k => k = w.heap.size + 1) wl (Nat.le_refl _) (by have := HSZ.out; omega) (by omega) HB.out.2.2.2 (fun W' h => HC.out W' (hkx W' h))) KX.trans (KX.book (Nat.le_refl _)) (Below.refl _ _) (fun _ => rfl)
    (fun pre W => W.heap[w.heap.size + 1]? = some (.cells #[.int .i64 (sumL cnt pre)] 3 (0, 0)) ∧ Fr (fun k => k = w.heap.size + 1) wl W)
    (fun _ _ _ => False)
    (fun s A B row hs hg hr => ⟨(hg.block _ (Array.getElem?_eq_some_iff.1 hs.1).1 (fun e => by have := (hr _ e.symm).1; have := HSZ.out; omega)).trans hs.1, hs.2.trans (Fr.of_grown (F := fun k => wl.heap.size ≤ k) hg (fun k e => (hr k e).1)) (fun _ hk => .inr hk)⟩)
    (fun _ _ _ _ _ hs _ _ => hs)
    ⟨HB.out.2.1, Fr.refl _ _⟩
    (fun x => { tmps := #[.pointer po, .pointer (some ⟨w.heap.size, 0, none⟩), .pointer (some ⟨w.heap.size + 1, 0, none⟩), .pointer (some ⟨w.heap.size + 1 + 1, 0, none⟩), .int .i64 x.1.1, .int .i64 x.1.2, .func (.func 53) #[] #[.pointer (some ⟨w.heap.size + 1, 0, none⟩), .pointer (some ⟨w.heap.size, 0, none⟩)], .pointer po, .func (.func 60) #[] #[.pointer (some ⟨w.heap.size + 1 + 1 + 1, 0, none⟩)], .int .i64 x.1.1, .int .i64 x.1.2, undef, undef, undef, undef, undef], defers := [] }) ?assign ?body ?done ?stop
  case assign =>
    intro l x W K hK
    gi_wp2
    exact hK
  case body =>
    rintro l pre x W ⟨hm, hfr⟩ hlen
    have HM := Aside0.mk hm
    have HF := Aside0.mk hfr
    have h2 := (hfr.block (w.heap.size + 1 + 1) (by have := HSZ.out; omega) (by omega)).trans HB.out.2.2.1
    have HN := Aside0.mk ((hfr.block w.heap.size (by have := HSZ.out; omega) (by omega)).trans HB.out.1)
    have y0 : W.cell? ⟨w.heap.size + 1 + 1, 0, none⟩ = some (.func (.func 53) #[] #[.pointer (some ⟨w.heap.size + 1, 0, none⟩), .pointer (some ⟨w.heap.size, 0, none⟩)]) := (blk_cell h2 0).trans rfl
    have fy0 := blk_frozen h2 0
    have HK : Aside0 (KX w.heap.size (fun _ => False) w W.drew) := ⟨hkx _ ⟨hfr.size, fun k hk hx => hfr.block k hk hx⟩⟩
    have hsb := sumL_le cnt HCN.out pre
    have hcb := HCN.out x.1.1 x.1.2
    have HSB : Aside0 (sumL cnt pre + cnt x.1.1 x.1.2 < 1000000000000) := ⟨by omega⟩
    have HWX := Aside0.mk (And.intro (WI_small (i := x.1.1) x.2.1 (by have := x.2.2.1; omega)) (WI_small (i := x.1.2) x.2.2.2.1 (by have := x.2.2.2.2; omega)))
    clear hm hfr h2 hsb hcb hkx hlen
    gi_wp2_with (refine ⟨trivial, ?_⟩; gi_at_call 53; refine (CallsIn.inRound l (callsIn_wide.2 (total1 po cnt w.heap.size (w.heap.size + 1) W (sumL cnt pre) HN.out HM.out x.1.1 x.1.2 HSB.out (fun W' e => by subst e; exact HC.out _ HK.out _ _ HWX.out.1 HWX.out.2)))).mono ?_; rintro e w1 ⟨rfl, hf1, hm1⟩; have HF1 := Aside0.mk hf1; have HM1 := Aside0.mk hm1; clear hf1 hm1)
    exact ⟨KeepsOthers.of_fr HF1.out HM.out, ⟨HF1.out.size, fun k hk hx => HF1.out.block k (Nat.lt_of_lt_of_le hk HF.out.size) hx⟩, by rw [sumL_snoc]; exact HM1.out, HF.out.trans HF1.out (fun _ hk => .inl hk)⟩
  case done =>
    rintro D xs W hD rfl ⟨hm, hfr⟩ hK
    have y0 : W.cell? ⟨w.heap.size + 1, 0, none⟩ = some (.int .i64 (sumL cnt (linksL cnt 256))) := (blk_cell hm 0).trans rfl
    have fy0 := blk_frozen hm 0
    have HM := Aside0.mk hm
    have HF := Aside0.mk hfr
    have HD := Aside0.mk (And.intro hD hK)
    clear hm hfr hkx hD hK
    gi_wp2
    obtain ⟨S, hS⟩ : ∃ S : Int, S = ((sumL cnt (linksL cnt 256) : Nat) : Int) := ⟨_, rfl⟩
    rw [← hS] at HM ⊢
    have hne : D ≠ w.heap.size + 1 := by have := HD.out.1; have := HSZ.out; omega
    have hD2 : (W.setCell ⟨w.heap.size + 1, 0, none⟩ (.int .i64 S)).heap[D]? = some (.deferred (some [])) := (Below.heap_setCell W ⟨w.heap.size + 1, 0, none⟩ _ D hne).trans HD.out.2
    refine ⟨by simp, .inl ⟨_, _, rfl, run_takeDeferred hD2, ?_⟩⟩
    have hm3 : ((W.setCell ⟨w.heap.size + 1, 0, none⟩ (.int .i64 S)).putObj D (.deferred none)).heap[w.heap.size + 1]? = some (.cells #[.int .i64 S] 3 (0, 0)) := (World.putObj_heap_other (Ne.symm hne)).trans (blk_put (cs := #[.int .i64 S]) HM.out 0 _ rfl)
    have c9 : ((W.setCell ⟨w.heap.size + 1, 0, none⟩ (.int .i64 S)).putObj D (.deferred none)).cell? ⟨w.heap.size + 1, 0, none⟩ = some (.int .i64 S) := (blk_cell hm3 0).trans rfl
    have hfr2 : Fr (fun k => wl.heap.size ≤ k ∨ k = w.heap.size + 1) wl ((W.setCell ⟨w.heap.size + 1, 0, none⟩ (.int .i64 S)).putObj D (.deferred none)) :=
      ((HF.out.set (.inl rfl) _).mono (F' := fun k => wl.heap.size ≤ k ∨ k = w.heap.size + 1) (fun _ hk => .inr hk)).trans (Fr.of_grown (F := fun k => k = D) (grownBy_putObj' _ D _) (fun k e => (Option.some.inj e).symm)) (fun k hk => .inl (.inl (hk ▸ HD.out.1)))
    refine ⟨.int .i64 S, by simp [results, Try.results18, go_sem, c9], rfl, ?_⟩
    exact (hb0.trans ⟨hfr2.os, hfr2.tape, hfr2.output, Nat.le_trans (Nat.le_refl _) hfr2.size |> Nat.le_trans (Nat.le_refl _), fun k hk => hfr2.block k (by have := HSZ.out; omega) (by have := HSZ.out; omega)⟩)
  case stop =>
    rintro D c pre W _ _ h _
    exact h.elim
end
end
section
def tot (cnt : Int → Int → Nat) : Nat := sumL cnt (linksL cnt 256)
theorem linksL_congr {cnt cnt' : Int → Int → Nat} (h : ∀ j, cnt (lk j).1.1 (lk j).1.2 = cnt' (lk j).1.1 (lk j).1.2) (k : Nat) : linksL cnt k = linksL cnt' k ∧ sumL cnt (linksL cnt k) = sumL cnt' (linksL cnt' k) := by
  induction k with
  | zero => exact ⟨rfl, rfl⟩
  | succ k ih =>
    by_cases c : 0 < cnt (lk k).1.1 (lk k).1.2
    · have c' := c; rw [h k] at c'
      rw [linksL_pos c, linksL_pos c', ih.1, sumL_snoc, sumL_snoc, ← ih.2, h k, ih.1]
      exact ⟨rfl, rfl⟩
    · have c' := c; rw [h k] at c'
      rw [linksL_zero c, linksL_zero c']
      exact ih
theorem tot_congr {cnt cnt' : Int → Int → Nat} (h : ∀ j, cnt (lk j).1.1 (lk j).1.2 = cnt' (lk j).1.1 (lk j).1.2) : tot cnt = tot cnt' := (linksL_congr h 256).2
noncomputable def lenB (B : Lit → List (List Int)) : Int → Int → Nat := fun a b => (B (kl a b)).length
theorem net_total_p {w : World} {F : Nat → Prop} {g N : Nat} {B : Lit → List (List Int)} {C : Lit → Bool} (h : NetP g N B C w F) (hB : ∀ l, (B l).length ≤ 1000000) :
    Calls Try.prog 18 #[.pointer (some ⟨g, 0, none⟩)] w fun e w' => e = .returned (.int .i64 (tot (lenB B))) ∧ Below w.heap.size w w' :=
  net_total (some ⟨g, 0, none⟩) (lenB B) w (fun a b => hB _) (fun W' hk a b ha hb => net_count (NetP.loc.step h hk.1 (fun k _ hlt => hk.2 k hlt (fun q => q))) ha hb)
theorem lk_WI (j : Nat) : WI (lk j).1.1 ∧ WI (lk j).1.2 := ⟨WI_small (lk j).2.1 (by have := (lk j).2.2.1; omega), WI_small (lk j).2.2.2.1 (by have := (lk j).2.2.2.2; omega)⟩
theorem kl_ne {a b c d : Int} (ha : WI a) (hb : WI b) (hc : WI c) (hd : WI d) (h : ¬ (a = c ∧ b = d)) : kl a b ≠ kl c d := fun e => h (kl_inj ha hb hc hd e)
/-- A block of cells whose tail may be frozen. -/
def PtF (g : Nat) (cs : Array Value) (t : TypeId) : Part := fun w F => F g ∧ ∃ fr, w.heap[g]? = some (.cells cs t fr)
theorem PtF.loc {g : Nat} {cs : Array Value} {t : TypeId} : Loc (PtF g cs t) :=
  ⟨fun ⟨h1, fr, h2⟩ _ hh => ⟨h1, fr, (hh g h1 (Array.getElem?_eq_some_iff.1 h2).1).trans h2⟩, fun ⟨h1, fr, h2⟩ => ⟨⟨h1, (Array.getElem?_eq_some_iff.1 h2).1⟩, fr, h2⟩, fun ⟨h1, h2⟩ hh => ⟨hh g h1, h2⟩⟩
theorem pt_C1 {w : World} {g : Nat} {x : Int} {fr : Nat × Nat} (h : w.heap[g]? = some (.cells #[.int .u8 x] 5 fr)) : Kd.C (Kd.int .u8) w (some ⟨g, 0, none⟩) 1 [x] :=
  ⟨rfl, by decide, fun _ => ⟨_, rfl, fun j p hj => by
    rcases j with _ | j
    · have : x = p := by simpa using hj
      subst this
      refine ⟨[.int .u8 x], rfl, rfl, fun i v hi => ?_⟩
      rcases i with _ | i
      · have : Value.int .u8 x = v := by simpa using hi
        subst this
        simp [World.cell?, Addr.add, h]
      · simp at hi
    · simp at hj⟩⟩
/-- []byte(xs) of a slice of bytes: the same slice; the block's tail is marked. -/
theorem run_mark {w : World} {g : Nat} {cs : Array Value} {t : TypeId} (n c : Nat) (hb : w.heap[g]? = some (.cells cs t (0, 0))) :
    (convert 22 22 (.slice (some ⟨g, 0, none⟩) n c)).run Try.prog w = .ok (.slice (some ⟨g, 0, none⟩) n c) (w.freeze ⟨g, cs.size, none⟩ 1) := by
  have hs : (shape g).run Try.prog w = .ok (some (t, cs.size)) w := by simp [shape, Sem.run, World.shape?, hb]
  simp [convert, run_underlying Try.underlying22, run_underlying Try.underlying5, markStringish, hs]
theorem St.mark {W w : World} {F0 : Nat → Prop} {l : List Part} {g : Nat} {cs : Array Value} {t : TypeId} (h : St W F0 w (Pt g cs t :: l)) : St W F0 (w.freeze ⟨g, cs.size, none⟩ 1) (PtF g cs t :: l) := by
  obtain ⟨F, hA, hF, hu⟩ := h.upd
  refine hu _ _ F ⟨rfl, rfl, rfl, by simp [World.freeze], fun k hk hn => ?_⟩ (fun k hk => .inl hk) PtF.loc ⟨hA.1, (cs.size, cs.size + 1), ?_⟩
  · have : g ≠ k := fun e => hn (e ▸ hA.1)
    simp [World.freeze, Array.getElem?_modify, this]
  · simp [World.freeze, Array.getElem?_modify, hA.2]
theorem WI0 : WI 0 := WI_small (by decide) (by decide)
theorem WI1 : WI 1 := WI_small (by decide) (by decide)
theorem linksL_none (cnt : Int → Int → Nat) (h : ∀ j, cnt (lk j).1.1 (lk j).1.2 = 0) (k : Nat) : linksL cnt k = [] := by
  induction k with
  | zero => rfl
  | succ k ih => rw [linksL_zero (by rw [h k]; omega)]; exact ih
/-- The links with something are one: its count is the sum. -/
theorem tot_at (n i : Nat) (hi : i < 256) : tot (fun x y => if x = (lk i).1.1 ∧ y = (lk i).1.2 then n else 0) = n := by
  have key : ∀ k, k ≤ 256 → sumL (fun x y => if x = (lk i).1.1 ∧ y = (lk i).1.2 then n else 0) (linksL (fun x y => if x = (lk i).1.1 ∧ y = (lk i).1.2 then n else 0) k) = if i < k then n else 0 := by
    intro k hk
    induction k with
    | zero => rfl
    | succ k ih =>
      have ih := ih (by omega)
      by_cases c : k = i
      · subst c
        by_cases hp : 0 < n
        · rw [linksL_pos (by rw [if_pos ⟨rfl, rfl⟩]; exact hp), sumL_snoc, ih, if_neg (Nat.lt_irrefl _), if_pos ⟨rfl, rfl⟩, if_pos (Nat.lt_succ_self _)]; omega
        · rw [linksL_zero (by rw [if_pos ⟨rfl, rfl⟩]; exact hp), ih, if_neg (Nat.lt_irrefl _), if_pos (Nat.lt_succ_self _)]; omega
      · have hne : ¬ ((lk k).1.1 = (lk i).1.1 ∧ (lk k).1.2 = (lk i).1.2) := fun q => by
          have q1 : ((k / 16 % 16 : Nat) : Int) = ((i / 16 % 16 : Nat) : Int) := q.1
          have q2 : ((k % 16 : Nat) : Int) = ((i % 16 : Nat) : Int) := q.2
          omega
        rw [linksL_zero (by rw [if_neg hne]; omega), ih]
        by_cases d : i < k
        · rw [if_pos d, if_pos (by omega)]
        · rw [if_neg d, if_neg (by omega)]
  have := key 256 (Nat.le_refl _)
  rw [if_pos hi] at this
  exact this
/-- Only one link has something. -/
theorem tot_one (B : Lit → List (List Int)) (a b : Int) (ha : 0 ≤ a ∧ a < 16) (hb : 0 ≤ b ∧ b < 16) (n : Nat) (hB : (B (kl a b)).length = n) (h0 : ∀ l, l ≠ kl a b → B l = []) : tot (lenB B) = n := by
  have hj : ∃ k : Fin 256, (lk k.1).1.1 = a ∧ (lk k.1).1.2 = b := ⟨⟨a.toNat * 16 + b.toNat, by omega⟩, by show (((a.toNat * 16 + b.toNat) / 16 % 16 : Nat) : Int) = a; omega, by show (((a.toNat * 16 + b.toNat) % 16 : Nat) : Int) = b; omega⟩
  obtain ⟨k, hk1, hk2⟩ := hj
  refine Eq.trans ?_ (tot_at n k.1 k.2)
  refine tot_congr (fun j => ?_)
  rw [hk1, hk2]
  by_cases c : (lk j).1.1 = a ∧ (lk j).1.2 = b
  · rw [if_pos c]; unfold lenB; rw [c.1, c.2]; exact hB
  · rw [if_neg c]; unfold lenB
    rw [h0 _ (kl_ne (lk_WI j).1 (lk_WI j).2 (WI_small ha.1 (by omega)) (WI_small hb.1 (by omega)) c)]; rfl
set_option maxHeartbeats 8000000 in
set_option maxRecDepth 100000 in
theorem net_lives (w : World) : Calls Try.prog 11 #[] w fun e w' => e = .returned (.bool true) ∧ Below w.heap.size w w' := by
  obtain ⟨k, hk⟩ : ∃ k, k = kl 0 1 := ⟨_, rfl⟩
  have HK := Aside0.mk hk
  obtain ⟨B0, hB0⟩ : ∃ B0 : Lit → List (List Int), B0 = fun _ => [] := ⟨_, rfl⟩
  obtain ⟨C0, hC0⟩ : ∃ C0 : Lit → Bool, C0 = fun _ => false := ⟨_, rfl⟩
  obtain ⟨B1, hB1⟩ : ∃ B1, B1 = updL B0 (kl 0 1) (B0 (kl 0 1) ++ [[97]]) := ⟨_, rfl⟩
  obtain ⟨B2, hB2⟩ : ∃ B2, B2 = updL B1 (kl 0 1) (B1 (kl 0 1) ++ [[98]]) := ⟨_, rfl⟩
  obtain ⟨B3, hB3⟩ : ∃ B3, B3 = updL B2 (kl 0 1) ((B2 (kl 0 1)).eraseIdx (placeI 5 (1 + 1 : Nat)).toNat) := ⟨_, rfl⟩
  obtain ⟨B4, hB4⟩ : ∃ B4, B4 = updL B3 (kl 0 1) (B3 (kl 0 1) ++ [gotten B3 0 1 0]) := ⟨_, rfl⟩
  have b0 : ∀ l, B0 l = [] := fun l => by rw [hB0]
  have b1 : B1 (kl 0 1) = [[97]] := by rw [hB1, updL_same, b0]; rfl
  have b2 : B2 (kl 0 1) = [[97], [98]] := by rw [hB2, updL_same, b1]; rfl
  have p5 : (placeI 5 (1 + 1 : Nat)).toNat = 1 := by unfold placeI; rw [IntKind.wrap_u64]; decide
  have b3 : B3 (kl 0 1) = [[97]] := by rw [hB3, updL_same, b2, p5]; rfl
  have g3 : gotten B3 0 1 0 = [97] := by unfold gotten; rw [b3]; unfold placeI; rw [IntKind.wrap_u64]; rfl
  have b4 : B4 (kl 0 1) = [[97], [97]] := by rw [hB4, updL_same, b3, g3]; rfl
  have z4 : ∀ l, l ≠ kl 0 1 → B4 l = [] := fun l hl => by rw [hB4, updL_ne _ _ hl, hB3, updL_ne _ _ hl, hB2, updL_ne _ _ hl, hB1, updL_ne _ _ hl, b0]
  have i01 : isB 0 1 = true := by decide
  have c0 : C0 (kl 0 1) = false := by rw [hC0]
  have e0 : sendE B0 C0 0 1 = 0 := by unfold sendE; rw [if_pos i01, if_neg (by rw [c0]; decide), if_neg (by rw [b0]; decide)]
  have e1 : sendE B1 C0 0 1 = 0 := by unfold sendE; rw [if_pos i01, if_neg (by rw [c0]; decide), if_neg (by rw [b1]; decide)]
  have e3 : doubleE B3 0 1 = 0 := by unfold doubleE; rw [if_pos i01, if_neg (by rw [b3]; decide), if_neg (by rw [b3]; decide)]
  have t4 : tot (lenB B4) = 2 := tot_one B4 0 1 (by decide) (by decide) 2 (by rw [b4]; rfl) z4
  have l4 : ∀ l, (B4 l).length ≤ 1000000 := fun l => by
    by_cases c : l = kl 0 1
    · rw [c, b4]; decide
    · rw [z4 l c]; decide
  have HE := Aside0.mk (And.intro e0 (And.intro e1 e3))
  have HB3 := Aside0.mk b3
  have HB2 := Aside0.mk b2
  have HT := Aside0.mk (And.intro t4 l4)
  have HB4 := Aside0.mk b4
  have HE1 := Aside0.mk hB1
  have HE2 := Aside0.mk hB2
  have HE3 := Aside0.mk hB3
  have HE4 := Aside0.mk hB4
  have HE0 := Aside0.mk (And.intro hB0 hC0)
  have HG := Aside0.mk (show (B2 (kl 0 1)).getD (placeI 5 (1 + 1 : Nat)).toNat [] = [98] by rw [b2, p5]; rfl)
  clear hk hB0 hC0 hB1 hB2 hB3 hB4 b0 b1 b2 p5 b3 g3 b4 z4 i01 c0 e0 e1 e3 t4 l4
  go_enter Try.func11, Try.ntmps11
  go_wp2_with (first
    | (go_at_call 12; refine (net_new _).mono ?_; rintro e w1 ⟨g, rfl, S1⟩; rw [← HE0.out.1, ← HE0.out.2] at S1; have S1a := S1.alloc (cs := #[.int .u8 97]) (t := 5); have hcv := run_mark 1 1 (S1a.blk 0 rfl); have S2 := S1a.mark.front 1 rfl; obtain ⟨wf1, hwf1⟩ : ∃ wf1, wf1 = (w1.alloc (.cells #[.int .u8 97] 5)).freeze ⟨w1.heap.size, (#[Value.int .u8 97]).size, none⟩ 1 := ⟨_, rfl⟩; rw [← hwf1] at hcv S2; clear hwf1 S1a S1)
    | (go_at_call 13; obtain ⟨F, hA, _, hoth, hjoin⟩ := S2.joinR; refine (net_send_ok hA WI0 WI1 HE.out.1 _ 1 [97] (fun W' hf => by obtain ⟨G, hG⟩ := hoth W' hf; obtain ⟨G2, hG2⟩ := hG.get 0 rfl; obtain ⟨_, fr, hfr⟩ := hG2; exact pt_C1 hfr) (by decide) (by decide)).mono ?_; rintro e w2 ⟨rfl, hS⟩; have S3 := (hjoin _ _ hS).take 1; rw [← HE1.out] at S3; clear hcv S2 hA hoth hjoin hS; have S3a := S3.alloc (cs := #[.int .u8 98]) (t := 5); have hcv := run_mark 1 1 (S3a.blk 0 rfl); have S4 := S3a.mark.front 1 rfl; obtain ⟨wf2, hwf2⟩ : ∃ wf2, wf2 = (w2.alloc (.cells #[.int .u8 98] 5)).freeze ⟨w2.heap.size, (#[Value.int .u8 98]).size, none⟩ 1 := ⟨_, rfl⟩; rw [← hwf2] at hcv S4; clear hwf2 S3a S3)
    | (go_at_call 13; obtain ⟨F2, hA, _, hoth, hjoin⟩ := S4.joinR; refine (net_send_ok hA WI0 WI1 HE.out.2.1 _ 1 [98] (fun W' hf => by obtain ⟨G, hG⟩ := hoth W' hf; obtain ⟨G2, hG2⟩ := hG.get 0 rfl; obtain ⟨_, fr, hfr⟩ := hG2; exact pt_C1 hfr) (by decide) (by decide)).mono ?_; rintro e w3 ⟨rfl, hS⟩; have S5 := (hjoin _ _ hS).take 1; rw [← HE2.out] at S5; clear S4 hA hoth hjoin hS)
    | (go_at_call 15; obtain ⟨F3, hA, _, hjoin⟩ := S5.join; refine (net_take1 hA WI0 WI1 1 (by rw [HB2.out]; rfl) (by decide) 5 (WI_small (by decide) (by decide)) (by decide)).mono ?_; rintro e w4 ⟨u, rfl, hS⟩; have S6 := hjoin _ _ hS; rw [← HE3.out, HG.out] at S6; obtain ⟨_, A6, c6, hu, _, _⟩ := S6.get 1 rfl; subst hu; clear S5 hA hjoin hS)
    | (go_at_call 16; obtain ⟨F4, hA, _, hjoin⟩ := S6.join; refine (net_double_ok hA WI0 WI1 HE.out.2.2 (by rw [HB3.out]; decide) 0 WI0 (by decide)).mono ?_; rintro e w5 ⟨rfl, hS⟩; have S7 := hjoin _ _ hS; rw [← HE4.out] at S7; obtain ⟨_, A7, c7, hu7, hle7, hF7⟩ := S7.get 1 rfl; have hst : (convert 22 9 (.slice A6 1 c6)).run Try.prog w5 = .ok (.string ⟨#[98]⟩) w5 := (by cases hu7; exact Kd.C_string Try.underlying22 Try.underlying5 Try.underlying9 (Kd.F_now hF7)); have HS7 := Aside0.mk S7; clear hu7 hle7 hF7 S6 S7 hA hjoin hS)
    | (go_at_call 21; obtain ⟨F5, hA⟩ := HS7.out.get 0 rfl; refine (net_count hA WI0 WI1).mono ?_; rw [HB4.out]; rintro e w6 ⟨rfl, hw6⟩; obtain rfl : w5 = w6 := hw6.symm; clear hA hw6)
    | (go_at_call 18; obtain ⟨F6, hA⟩ := HS7.out.get 0 rfl; refine (net_total_p hA HT.out.2).mono ?_; rw [HT.out.1]; rintro e w7 ⟨rfl, hb7⟩; have HB7 := Aside0.mk (HS7.out.below.trans (hb7.mono HS7.out.fr.size)); clear hA hb7))
  go_ret
  exact ⟨rfl, HB7.out⟩
theorem St.join2 {W w : World} {F0 : Nat → Prop} {A : Part} {l : List Part} (h : St W F0 w (A :: l)) : ∃ F, A w F ∧ (∀ k, F k → F0 k ∨ W.heap.size ≤ k) ∧ ∀ (w' : World) (l' : List Part), St w F w' l' → St W F0 w' (l' ++ l) := by
  obtain ⟨h0, hst⟩ := h
  obtain ⟨F, h1, h2, h3, h4⟩ := hst.bound
  refine ⟨F, h3, fun k hk => (h1 k hk).1, fun w' l' k => ?_⟩
  refine ⟨h0.trans k.fr (fun i hi => (h1 i hi).1), ?_⟩
  have h5 := h4.step k.fr.size (fun i hi hl => k.fr.block i hl hi.2)
  exact (Stars.append k.st h5 (fun i hi hi' => hi.elim hi'.2 (fun hh => by have := hi'.1.2; omega))).mono (fun i hi => hi.elim (fun hh => hh.elim (fun hf => (h1 i hf).1) (fun hs => .inr (Nat.le_trans h0.size hs))) (fun hh => hh.1.1))
theorem Fr.below_n {F : Nat → Prop} {n : Nat} {w w' : World} (h : Fr F w w') (hF : ∀ k, F k → False ∨ n ≤ k) (hn : n ≤ w.heap.size) : Below n w w' := ⟨h.os, h.tape, h.output, h.size, fun k hk => h.block k (Nat.lt_of_lt_of_le hk hn) (fun q => (hF k q).elim (fun f => f) (fun q => by omega))⟩
end

-- NOT PRINTED: function 17 (net_Net_Lose)

-- NOT PRINTED: function 23 (net_Net_Cut)

/-! ### jobberref37_is: function 69 -/
def jobberref37_is.f (a0 : Int) (a1 : Int) : Option (Bool) := if a0 ≥ 0 then (if a0 < 16 then (if a1 ≥ 0 then (some (decide (a1 < 16))) else (some false)) else (some false)) else (some false)
set_option maxHeartbeats 8000000 in
set_option maxRecDepth 100000 in
theorem jobberref37_is.calls (a0 : Int) (a1 : Int) (r : Bool) (w : World) (h : jobberref37_is.f a0 a1 = some r) :
    Calls Try.prog 69 #[.int .i64 a0, .int .i64 a1] w fun e w' => e = .returned (.bool r) ∧ Drawn0 w w' := by
  have H : (if a0 ≥ 0 then (if a0 < 16 then (if a1 ≥ 0 then (some (decide (a1 < 16))) else (some false)) else (some false)) else (some false)) = some r := h
  clear h
  by_cases c3 : a0 ≥ 0
  · rw [if_pos c3] at H
    have c3b0 : decide (0 ≤ a0) = true := decide_eq_true c3
    clear c3
    by_cases c4 : a0 < 16
    · rw [if_pos c4] at H
      have c4b0 : decide (a0 < 16) = true := decide_eq_true c4
      clear c4
      by_cases c5 : a1 ≥ 0
      · rw [if_pos c5] at H
        have c5b0 : decide (0 ≤ a1) = true := decide_eq_true c5
        clear c5
        obtain rfl := Option.some.inj H
        go_enter Try.func69, Try.ntmps69
        go_wp2
        go_ret
        exact ⟨by first | rfl | (simp; done) | (simp [*]; done), by repeat (first | exact Drawn0.refl _ | apply Drawn0.step)⟩
      · rw [if_neg c5] at H
        have c5b0 : decide (0 ≤ a1) = false := decide_eq_false c5
        clear c5
        obtain rfl := Option.some.inj H
        go_enter Try.func69, Try.ntmps69
        go_wp2
        go_ret
        exact ⟨by first | rfl | (simp; done) | (simp [*]; done), by repeat (first | exact Drawn0.refl _ | apply Drawn0.step)⟩
    · rw [if_neg c4] at H
      have c4b0 : decide (a0 < 16) = false := decide_eq_false c4
      clear c4
      obtain rfl := Option.some.inj H
      go_enter Try.func69, Try.ntmps69
      go_wp2
      go_ret
      exact ⟨by first | rfl | (simp; done) | (simp [*]; done), by repeat (first | exact Drawn0.refl _ | apply Drawn0.step)⟩
  · rw [if_neg c3] at H
    have c3b0 : decide (0 ≤ a0) = false := decide_eq_false c3
    clear c3
    obtain rfl := Option.some.inj H
    go_enter Try.func69, Try.ntmps69
    go_wp2
    go_ret
    exact ⟨by first | rfl | (simp; done) | (simp [*]; done), by repeat (first | exact Drawn0.refl _ | apply Drawn0.step)⟩

-- NOT PRINTED: function 68 (jobberref37_Net_place)

-- NOT PRINTED: function 54 (jobberref37_Net_Take)

-- NOT PRINTED: function 58 (jobberref37_Net_Peek)

-- NOT PRINTED: function 55 (jobberref37_Net_Double)

-- NOT PRINTED: function 56 (jobberref37_Net_Cut)

-- NOT PRINTED: function 57 (jobberref37_Net_Lose)

-- NOT PRINTED: function 59 (jobberref37_Net_Send)

end Go.Proofs.Ythkhfhhbldjdlaa.Npl
