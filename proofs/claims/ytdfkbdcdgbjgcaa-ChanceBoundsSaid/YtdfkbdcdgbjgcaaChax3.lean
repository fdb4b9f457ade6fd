/- Printed by this session's wip/drive.py over the translation; some functions by hand. -/
import Derived.Test.YtdfkbdcdgbjgcaaChax0
import Derived.Test.YtdfkbdcdgbjgcaaChax1
import Derived.Test.YtdfkbdcdgbjgcaaChax2
namespace Go.Proofs.Ytdfkbdcdgbjgcaa.Cha
open Go.RowKit Go.Proofs.YtdfkbdcdgbjgcaaW.PrintWords Go.Proofs.YtdfkbdcdgbjgcaaW.PrintLast Go.Proofs.YtdfkbdcdgbjgcaaW.PrintMore
attribute [local go_sem] max2_int min2_int max_two min_two max_three min_three max_four min_four   -- for this text's walks alone
set_option linter.unusedVariables false
set_option linter.unusedSimpArgs false

/-! ### jobberlaw05_ChanceBounds: function 4 (by hand) -/
theorem lit_event {P : Program} {ops : Array Oper} {rest : List Oper} {o : Oper} {a : Act} {Q : Exit → Act → World → Prop} {W : World} (hgd : o.guard = none) {N : Tmp} (_hd : o.dst = some N) {cs : Array Value} {t : TypeId} {n c : Nat}
    (hrun : (execOp a.eval o).run P W = .ok (.value (.slice (some ⟨W.heap.size, 0, none⟩) n c)) (W.alloc (.cells cs t (0, 0))))
    (h : ∀ g, g = W.heap.size → ∀ w1, w1.heap[g]? = some (.cells cs t (0, 0)) → Below W.heap.size W w1 → wpList P ops Q rest (a.put o.dst (.slice (some ⟨g, 0, none⟩) n c)) w1) : wpList P ops Q (o :: rest) a W :=
  Kd.event_run hgd hrun (h _ rfl _ (blk_new W _) (below_alloc (Below.refl _ _) _))
theorem place_spec : ∀ (ws : List Int) (i n : Int), 0 ≤ n → n < sumN ws → i ≤ place ws i n ∧ place ws i n < i + ws.length ∧ 0 < ws.getD (place ws i n - i).toNat 0
  | [], i, n, h0, h1 => by simp [sumN] at h1; omega
  | x :: ws, i, n, h0, h1 => by
    rw [sumN_cons] at h1
    rw [place]
    by_cases c : n < wtN x
    · rw [if_pos c]
      have : 0 < x := by unfold wtN at c; split at c <;> omega
      refine ⟨by omega, by simp; omega, by simpa using this⟩
    · rw [if_neg c]
      have h := place_spec ws (i + 1) (n - wtN x) (by omega) (by omega)
      refine ⟨by omega, by simp; omega, ?_⟩
      rw [show (place ws (i + 1) (n - wtN x) - i).toNat = (place ws (i + 1) (n - wtN x) - (i + 1)).toNat + 1 by omega]
      simpa using h.2.2
def anyB (ws : List Int) : Bool := ws.any (fun x => decide (0 < x))
theorem sum_any : ∀ ws : List Int, (anyB ws = true → 0 < sumN ws) ∧ (anyB ws = false → sumN ws = 0)
  | [] => by simp [anyB, sumN]
  | x :: ws => by
    have ih := sum_any ws
    have hs := sumN_rng ws
    rw [sumN_cons]
    have e : anyB (x :: ws) = (decide (0 < x) || anyB ws) := by simp [anyB]
    rw [e]
    have hx : wtN x = 0 ∧ ¬ 0 < x ∨ 0 < wtN x ∧ 0 < x := by unfold wtN; split <;> (try split) <;> omega
    rcases hx with ⟨h1, h2⟩ | ⟨h1, h2⟩
    · simp only [h2, decide_false, Bool.false_or]
      exact ⟨fun h => by have := ih.1 h; omega, fun h => by have := ih.2 h; omega⟩
    · simp only [h2, decide_true, Bool.true_or]
      exact ⟨fun _ => by omega, fun h => by cases h⟩
theorem pick_rng {ws l : List Int} (hw : ws.length ≤ 1000000) (h : Bytes l) : (anyB ws = true → 0 ≤ (pickS ws l).1 ∧ (pickS ws l).1 < ws.length ∧ 0 < rd ws (pickS ws l).1) ∧ (anyB ws = false → (pickS ws l).1 = 0) := by
  have hs := sumN_rng ws
  unfold pickS
  rw [all_eq ws hw]
  have hr := below_rng (n := sumN ws) (l := l) hs.1 (by omega) h
  have hp : pkS ws ws.length 0 (belowS (sumN ws) l).1 = place ws 0 (belowS (sumN ws) l).1 := pk_eq ws hw ws [] (belowS (sumN ws) l).1 rfl hr.1 hr.2.2
  rw [hp]
  refine ⟨fun ha => ?_, fun ha => ?_⟩
  · have h0 := (sum_any ws).1 ha
    have h1 := place_spec ws 0 (belowS (sumN ws) l).1 hr.1 (by omega)
    dsimp only
    refine ⟨h1.1, by omega, ?_⟩
    have := h1.2.2
    rw [Int.sub_zero] at this
    exact this
  · have h0 := (sum_any ws).2 ha
    have e : belowS (sumN ws) l = (0, l) := if_pos (by omega)
    rw [e]
    exact place_nought ws 0 h0
theorem between_rng {low high : Int} {l : List Int} (hl : -9223372036854775808 ≤ low ∧ low ≤ 9223372036854775807) (hh : -9223372036854775808 ≤ high ∧ high ≤ 9223372036854775807) (h : Bytes l) : low ≤ (betweenS low high l).1 ∧ ((betweenS low high l).1 ≤ high ∨ (betweenS low high l).1 = low) := by
  unfold betweenS
  by_cases c : high ≤ low
  · rw [if_pos c]; dsimp only; omega
  · rw [if_neg c]
    have hw : wayS low high = (high - low + 1) % 18446744073709551616 := by
      have e : wayS low high = (((high % 18446744073709551616) - (low % 18446744073709551616)) % 18446744073709551616 + 1) % 18446744073709551616 := rfl
      omega
    by_cases d : wayS low high = 0
    · rw [if_pos d]
      dsimp only
      have hb : -9223372036854775808 ≤ wrap64 (IntKind.u64.wrap (IntKind.u64.wrap low + (someS 8 l 0).1)) ∧ wrap64 (IntKind.u64.wrap (IntKind.u64.wrap low + (someS 8 l 0).1)) ≤ 9223372036854775807 := by unfold wrap64; omega
      omega
    · rw [if_neg d]
      have hr := below_rng (n := wayS low high) (l := l) (by omega) (by omega) h
      have hm : wayS low high = high - low + 1 := by omega
      dsimp only
      rw [u64w, u64w]
      obtain ⟨y, hy⟩ : ∃ y, (belowS (wayS low high) l).1 = y := ⟨_, rfl⟩
      rw [hy] at hr ⊢
      have e : wrap64 ((low % 18446744073709551616 + y) % 18446744073709551616) = low + y := by unfold wrap64; omega
      rw [e]
      omega
theorem any_step {ws : List Int} {i : Int} (h0 : 0 ≤ i) (h1 : i < (ws.length : Int)) : anyB (ws.take (i + 1).toNat) = (anyB (ws.take i.toNat) || decide (0 < rd ws i)) := by
  have hl : i.toNat < ws.length := by omega
  rw [show (i + 1).toNat = i.toNat + 1 by omega, List.take_add_one, List.getElem?_eq_getElem hl]
  have e : rd ws i = ws[i.toNat] := by unfold rd; simp [hl]
  rw [e]
  unfold anyB
  rw [List.any_append]
  simp only [Option.toList_some, List.any_cons, List.any_nil, Bool.or_false]
def jobberlaw05_ChanceBounds.f (l0 : List Int) (y0 y1 y2 y3 : Int) (l1 : List Int) : Option Bool := if (∀ x ∈ l0, 0 ≤ x ∧ x < 256) ∧ (0 ≤ y1 ∧ y1 < 18446744073709551616) ∧ (-9223372036854775808 ≤ y2 ∧ y2 ≤ 9223372036854775807) ∧ (-9223372036854775808 ≤ y3 ∧ y3 ≤ 9223372036854775807) then some true else none
set_option maxHeartbeats 8000000 in
set_option maxRecDepth 100000 in
theorem jobberlaw05_ChanceBounds.calls (A0 : Option Addr) (c0 : Nat) (l0 : List Int) (y0 y1 y2 y3 : Int) (A1 : Option Addr) (c1 : Nat) (l1 : List Int) (r : Bool) (w : World) (hr0 : Kd.C (Kd.int .u8) w A0 l0.length l0) (hc0 : l0.length ≤ c0) (hr1 : Kd.C (Kd.int .i64) w A1 l1.length l1) (hc1 : l1.length ≤ c1) (h : jobberlaw05_ChanceBounds.f l0 y0 y1 y2 y3 l1 = some r) :
    Calls Try.prog 4 #[.slice A0 l0.length c0, .agg #[.int .i64 y0, .int .u64 y1, .int .i64 y2, .int .i64 y3, .slice A1 l1.length c1]] w fun e w' => e = .returned (.bool r) ∧ Below w.heap.size w w' := by
  unfold jobberlaw05_ChanceBounds.f at h
  by_cases hh : (∀ x ∈ l0, 0 ≤ x ∧ x < 256) ∧ (0 ≤ y1 ∧ y1 < 18446744073709551616) ∧ (-9223372036854775808 ≤ y2 ∧ y2 ≤ 9223372036854775807) ∧ (-9223372036854775808 ≤ y3 ∧ y3 ≤ 9223372036854775807)
  case neg => rw [if_neg hh] at h; cases h
  rw [if_pos hh] at h
  obtain rfl := Option.some.inj h
  obtain ⟨hb0, hb1, hb2, hb3⟩ := hh
  obtain ⟨k, lr, hk, hlr⟩ := light_any l0 [(⟨y0, y1, y2, y3, l1⟩ : S34)] (by simp)
  have HK1 : Aside0 (∀ (W : World) (g : Nat), Below w.heap.size w W → W.heap[g]? = some (.cells #[.int .i64 y0, .int .u64 y1, .int .i64 y2, .int .i64 y3, .slice A1 l1.length c1] 34 (0, 0)) → Kd.C k34 W (some ⟨g, 0, none⟩) ([(⟨y0, y1, y2, y3, l1⟩ : S34)]).length [(⟨y0, y1, y2, y3, l1⟩ : S34)]) := ⟨fun W g hB hg => by
    refine ⟨rfl, by simp, fun _ => ⟨_, rfl, fun j p hj => ?_⟩⟩
    rcases j with _ | j
    · simp at hj
      subst hj
      refine ⟨_, rfl, k34_mk W (⟨y0, y1, y2, y3, l1⟩ : S34) hc1 (Kd.C_below hr1 hB), fun i u hu => ?_⟩
      have hadd : (⟨g, 0, none⟩ : Addr).add (0 * k34.sz + i) = ⟨g, i, none⟩ := by rw [Nat.zero_mul, Nat.zero_add]; exact add_plain g i
      rw [hadd, blk_cell hg i]
      simpa using hu
    · simp at hj⟩
  have HLI := Aside0.mk (fun (W : World) (g : Nat) (hB : Below w.heap.size w W) (hg : W.heap[g]? = some (.cells #[.int .i64 y0, .int .u64 y1, .int .i64 y2, .int .i64 y3, .slice A1 l1.length c1] 34 (0, 0))) => jobberlaw05_light.calls k A0 c0 l0 (some ⟨g, 0, none⟩) 1 [(⟨y0, y1, y2, y3, l1⟩ : S34)] lr W (Kd.C_below hr0 hB) hc0 (HK1.out W g hB hg) (by simp) hk)
  have HLV := Aside0.mk chance_lives
  have hu34 := Try.underlying34
  have HC0 := Aside0.mk hc0
  have HR0 := Aside0.mk hr0
  have HR1 := Aside0.mk hr1
  have HB0 : Aside0 (Bytes l0) := ⟨hb0⟩
  have HB1 := Aside0.mk hb1
  have HB2 := Aside0.mk hb2
  have HB3 := Aside0.mk hb3
  have HLR := Aside0.mk hlr
  have HNW := Aside0.mk (fun (W : World) (hB : Below w.heap.size w W) => chance_new w W A0 c0 l0 hr0 hc0 hB)
  clear hr0 hc0 hr1 hc1 h hb0 hb1 hb2 hb3 hk hlr HK1
  cases lr with
  | false =>
    clear HLR
    go_enter Try.func4, Try.ntmps4
    go_wp2_with (first | ((with_reducible refine gate_dst (N := 3) rfl ?_); refine box_event ?hg (N := 3) ?hd (cs := #[.int .i64 y0, .int .u64 y1, .int .i64 y2, .int .i64 y3, .slice A1 l1.length c1]) (t := 34) ?hr ?_; (case hd => rfl); (case hg => rfl); (case hr => first | (go_simp; done) | (go_simp; rfl)); intro gA hg wA hbox hb; have BKA := Aside0.mk hbox; have HBA := Aside0.mk hb; clear hb hbox hg; have za0 : wA.cell? ⟨gA, 0, none⟩ = some (.int .i64 y0) := (blk_cell BKA.out 0).trans rfl; have za1 : wA.cell? ⟨gA, 1, none⟩ = some (.int .u64 y1) := (blk_cell BKA.out 1).trans rfl; have za2 : wA.cell? ⟨gA, 2, none⟩ = some (.int .i64 y2) := (blk_cell BKA.out 2).trans rfl; have za3 : wA.cell? ⟨gA, 3, none⟩ = some (.int .i64 y3) := (blk_cell BKA.out 3).trans rfl; have za4 : wA.cell? ⟨gA, 4, none⟩ = some (.slice A1 l1.length c1) := (blk_cell BKA.out 4).trans rfl) | ((with_reducible refine gate_dst (N := 14) rfl ?_); refine lit_event ?hg (N := 14) ?hd (cs := #[.int .i64 y0, .int .u64 y1, .int .i64 y2, .int .i64 y3, .slice A1 l1.length c1]) (t := 34) (n := 1) (c := 1) ?hr ?_; (case hd => rfl); (case hg => rfl); (case hr => first | (go_simp; done) | (go_simp; rfl)); intro gL hg wL hbox hb; have HLK := Aside0.mk (HLI.out wL gL (below_step HBA.out hb) hbox); have HBL := Aside0.mk hb; clear hb hbox hg za0 za1 za2 za3 za4) | (go_at_call 15; refine HLK.out.mono ?_; rintro e w1 ⟨rfl, hb⟩; have HX1 := Aside0.mk (below_step (below_step HBA.out HBL.out) hb); have BK1 := Aside0.mk (blk_below (blk_below BKA.out HBL.out) hb); clear hb) | (go_at_call 16; refine (HLV.out _).mono ?_; rintro e w2 ⟨rfl, hb⟩; have HX2 := Aside0.mk (below_step HX1.out hb); clear hb))
    go_ret
    exact ⟨rfl, HX2.out⟩
  | true =>
    have HS := Aside0.mk (HLR.out rfl)
    have HLL : Aside0 (l1.length ≤ 60) := ⟨HS.out.2.2 0 (by omega) (by simp)⟩
    clear HLR HS
    go_enter Try.func4, Try.ntmps4
    go_wp2_with (first | ((with_reducible refine gate_dst (N := 3) rfl ?_); refine box_event ?hg (N := 3) ?hd (cs := #[.int .i64 y0, .int .u64 y1, .int .i64 y2, .int .i64 y3, .slice A1 l1.length c1]) (t := 34) ?hr ?_; (case hd => rfl); (case hg => rfl); (case hr => first | (go_simp; done) | (go_simp; rfl)); intro gA hg wA hbox hb; have BKA := Aside0.mk hbox; have HBA := Aside0.mk hb; clear hb hbox hg; have za0 : wA.cell? ⟨gA, 0, none⟩ = some (.int .i64 y0) := (blk_cell BKA.out 0).trans rfl; have za1 : wA.cell? ⟨gA, 1, none⟩ = some (.int .u64 y1) := (blk_cell BKA.out 1).trans rfl; have za2 : wA.cell? ⟨gA, 2, none⟩ = some (.int .i64 y2) := (blk_cell BKA.out 2).trans rfl; have za3 : wA.cell? ⟨gA, 3, none⟩ = some (.int .i64 y3) := (blk_cell BKA.out 3).trans rfl; have za4 : wA.cell? ⟨gA, 4, none⟩ = some (.slice A1 l1.length c1) := (blk_cell BKA.out 4).trans rfl) | ((with_reducible refine gate_dst (N := 14) rfl ?_); refine lit_event ?hg (N := 14) ?hd (cs := #[.int .i64 y0, .int .u64 y1, .int .i64 y2, .int .i64 y3, .slice A1 l1.length c1]) (t := 34) (n := 1) (c := 1) ?hr ?_; (case hd => rfl); (case hg => rfl); (case hr => first | (go_simp; done) | (go_simp; rfl)); intro gL hg wL hbox hb; have HLK := Aside0.mk (HLI.out wL gL (below_step HBA.out hb) hbox); have HBL := Aside0.mk hb; clear hb hbox hg za0 za1 za2 za3 za4) | (go_at_call 15; refine HLK.out.mono ?_; rintro e w1 ⟨rfl, hb⟩; have HX1 := Aside0.mk (below_step (below_step HBA.out HBL.out) hb); have BK1 := Aside0.mk (blk_below (blk_below BKA.out HBL.out) hb); clear hb) | (go_at_call 17; refine (HNW.out _ HX1.out).mono ?_; rintro e w2 ⟨p, rfl, hp, hp2, hp3, hp4⟩; have HP2 := Aside0.mk hp2; have HP3 := Aside0.mk hp3; have HX2 := Aside0.mk (below_step HX1.out hp4); have BK2 := Aside0.mk (blk_below BK1.out hp4); clear hp hp2 hp3 hp4))
    have HNA : Aside0 (∀ a, p = some a → gA ≠ a.block) := ⟨fun a ha => by have := (HP2.out a ha).1; have := blk_lt BK1.out; omega⟩
    have z1 : w2.cell? ⟨gA, 1, none⟩ = some (.int .u64 y1) := (blk_cell BK2.out 1).trans rfl
    have z2 : w2.cell? ⟨gA, 2, none⟩ = some (.int .i64 y2) := (blk_cell BK2.out 2).trans rfl
    have z3 : w2.cell? ⟨gA, 3, none⟩ = some (.int .i64 y3) := (blk_cell BK2.out 3).trans rfl
    have z4 : w2.cell? ⟨gA, 4, none⟩ = some (.slice A1 l1.length c1) := (blk_cell BK2.out 4).trans rfl
    have HC1 := Aside0.mk (chance_below w w2.drew p l0 y1 HB1.out.1 HB1.out.2 (HP3.out.below (below_drew (Below.refl _ _))) (below_drew HX2.out))
    have HB2L : Aside0 (Bytes (belowS y1 l0).2) := ⟨(below_eq HB1.out.1 HB1.out.2 HB0.out).2⟩
    have HRX := Aside0.mk (below_rng HB1.out.1 HB1.out.2 HB0.out)
    obtain ⟨X, hX⟩ : ∃ X, (belowS y1 l0).1 = X := ⟨_, rfl⟩
    obtain ⟨L2, hL2⟩ : ∃ L2, (belowS y1 l0).2 = L2 := ⟨_, rfl⟩
    rw [hX, hL2] at HC1
    rw [hL2] at HB2L
    rw [hX] at HRX
    have HC2 := Aside0.mk (fun W5 h1 h2 => chance_between w W5 p L2 y2 y3 h1 h2)
    have HB3L : Aside0 (Bytes (betweenS y2 y3 L2).2) := ⟨(between_eq HB2L.out).2⟩
    have HRY := Aside0.mk (between_rng HB2.out HB3.out HB2L.out)
    obtain ⟨Y, hY⟩ : ∃ Y, (betweenS y2 y3 L2).1 = Y := ⟨_, rfl⟩
    obtain ⟨L3, hL3⟩ : ∃ L3, (betweenS y2 y3 L2).2 = L3 := ⟨_, rfl⟩
    simp only [hY, hL3] at HC2
    rw [hL3] at HB3L
    rw [hY] at HRY
    have HC3 := Aside0.mk (fun W5 h1 h2 h3 => chance_pick w W5 p L3 A1 c1 l1 HR1.out h1 h2 h3)
    have HRZ := Aside0.mk (pick_rng (ws := l1) (by have := HLL.out; omega) HB3L.out)
    obtain ⟨Z, hZ⟩ : ∃ Z, (pickS l1 L3).1 = Z := ⟨_, rfl⟩
    simp only [hZ] at HC3
    rw [hZ] at HRZ
    clear hX hL2 hY hL3 hZ
    go_region_held3 (fun w' => w'.cell? ⟨gA, 1, none⟩ = some (.int .u64 y1) ∧ w'.cell? ⟨gA, 2, none⟩ = some (.int .i64 y2) ∧ w'.cell? ⟨gA, 3, none⟩ = some (.int .i64 y3) ∧ w'.cell? ⟨gA, 4, none⟩ = some (.slice A1 l1.length c1)) (first | exact V5 | exact V6 | exact V7 | go_keep) (first | (go_at_call 20; (with_reducible refine HC1.out.mono ?_); rintro e W5 ⟨rfl, hs5, ht5⟩; have HS5 := Aside0.mk hs5; have HT5 := Aside0.mk ht5.1; have BK5 := Aside0.mk (ht5.blk (W := w2.drew) BK2.out HNA.out); have V5 : W5.cell? ⟨gA, 1, none⟩ = some (.int .u64 y1) ∧ W5.cell? ⟨gA, 2, none⟩ = some (.int .i64 y2) ∧ W5.cell? ⟨gA, 3, none⟩ = some (.int .i64 y3) ∧ W5.cell? ⟨gA, 4, none⟩ = some (.slice A1 l1.length c1) := ⟨(blk_cell BK5.out 1).trans rfl, (blk_cell BK5.out 2).trans rfl, (blk_cell BK5.out 3).trans rfl, (blk_cell BK5.out 4).trans rfl⟩; clear hs5 ht5) | (go_at_call 22; (with_reducible refine (HC2.out _ HS5.out HT5.out).mono ?_); rintro e W6 ⟨rfl, hs6, ht6⟩; have HS6 := Aside0.mk hs6; have HT6 := Aside0.mk ht6.1; have BK6 := Aside0.mk (ht6.blk BK5.out HNA.out); have V6 : W6.cell? ⟨gA, 1, none⟩ = some (.int .u64 y1) ∧ W6.cell? ⟨gA, 2, none⟩ = some (.int .i64 y2) ∧ W6.cell? ⟨gA, 3, none⟩ = some (.int .i64 y3) ∧ W6.cell? ⟨gA, 4, none⟩ = some (.slice A1 l1.length c1) := ⟨(blk_cell BK6.out 1).trans rfl, (blk_cell BK6.out 2).trans rfl, (blk_cell BK6.out 3).trans rfl, (blk_cell BK6.out 4).trans rfl⟩; clear hs6 ht6) | (go_at_call 24; (with_reducible refine (HC3.out _ HS6.out HS6.out.lt HT6.out).mono ?_); rintro e W7 ⟨rfl, hs7, ht7⟩; have HT7 := Aside0.mk ht7.1; have BK7 := Aside0.mk (ht7.blk BK6.out HNA.out); have V7 : W7.cell? ⟨gA, 1, none⟩ = some (.int .u64 y1) ∧ W7.cell? ⟨gA, 2, none⟩ = some (.int .i64 y2) ∧ W7.cell? ⟨gA, 3, none⟩ = some (.int .i64 y3) ∧ W7.cell? ⟨gA, 4, none⟩ = some (.slice A1 l1.length c1) := ⟨(blk_cell BK7.out 1).trans rfl, (blk_cell BK7.out 2).trans rfl, (blk_cell BK7.out 3).trans rfl, (blk_cell BK7.out 4).trans rfl⟩; clear hs7 ht7))
    clear z1 z2 z3 z4 V5 V6
    obtain ⟨v1, v2, v3, v4⟩ := V7
    clear HC1 HC2 HC3 HP2 HP3 HLI HLK HNW
    have b1 : decide (Y < y2) = false := decide_eq_false (by have := HRY.out.1; omega)
    rcases (show (decide (y1 ≤ X) = false ∨ decide (y1 ≤ X) = true ∧ (X != 0) = false) by
      rcases HRX.out.2.1 with h | h
      · exact .inl (decide_eq_false (by omega))
      · by_cases hq : y1 ≤ X
        · exact .inr ⟨decide_eq_true hq, by simp [h]⟩
        · exact .inl (decide_eq_false hq)) with a1 | ⟨a1, a2⟩ <;> rcases (show (decide (y3 < Y) = false ∨ decide (y3 < Y) = true ∧ (Y != y2) = false) by
      rcases HRY.out.2 with h | h
      · exact .inl (decide_eq_false (by omega))
      · by_cases hq : y3 < Y
        · exact .inr ⟨decide_eq_true hq, by simp [h]⟩
        · exact .inl (decide_eq_false hq)) with b2 | ⟨b2, b3⟩
    all_goals
      go_wp2
      go_loopg [9, 63] l1.length (fun kq v9 v63 wr => ∃ (i : Int), v63 = .int .i64 i ∧ v9 = .bool (anyB (l1.take i.toNat)) ∧ Aside0 (0 ≤ i ∧ i + kq = l1.length) ∧ Aside0 (wr = W7))
      case atStart => exact ⟨0, rfl, rfl, ⟨by omega⟩, ⟨rfl⟩⟩
      case round =>
        obtain ⟨i, rfl, rfl, HI, HWR⟩ := hrel
        have hwr := HWR.out
        subst hwr
        by_cases hlt : i < (l1.length : Int)
        · have hd : decide (i < (l1.length : Int)) = true := decide_eq_true hlt
          obtain ⟨ad, e1, hx⟩ := Kd.at_int HR1.out i HI.out.1 hlt
          subst e1
          replace hx := (HT7.out.cell (World.block_lt_of_cell? w _ hx)).trans hx
          have p1 := eq_true HI.out.1
          have p2 := eq_true hlt
          have HST := Aside0.mk (any_step HI.out.1 hlt)
          have hw := Aside0.mk (show wrap64 (i + 1) = i + 1 by have := HI.out; have := HLL.out; unfold wrap64; omega)
          cases hq : anyB (l1.take i.toNat) with
          | true =>
            rw [hq] at HST
            go_wp2
            go_roundg (gk - 1)
            case measure => have := HI.out; omega
            case rel => exact ⟨wrap64 (i + 1), rfl, by rw [hw.out, HST.out]; rfl, ⟨by have := HI.out; rw [hw.out]; omega⟩, ⟨rfl⟩⟩
          | false =>
            rw [hq] at HST
            go_wp2
            go_roundg (gk - 1)
            case measure => have := HI.out; omega
            case rel => exact ⟨wrap64 (i + 1), rfl, by rw [hw.out, HST.out]; rfl, ⟨by have := HI.out; rw [hw.out]; omega⟩, ⟨rfl⟩⟩
        · have hd : decide (i < (l1.length : Int)) = false := decide_eq_false hlt
          rw [show l1.take i.toNat = l1 by rw [show i.toNat = l1.length by have := HI.out; omega, List.take_length]]
          cases hq : anyB l1 with
          | true =>
            have hz := HRZ.out.1 hq
            have q1 : decide (0 ≤ Z) = true := decide_eq_true hz.1
            have q2 : decide (Z < (l1.length : Int)) = true := decide_eq_true hz.2.1
            have q3 : decide (0 < rd l1 Z) = true := decide_eq_true hz.2.2
            obtain ⟨ad, e1, hx⟩ := Kd.at_int HR1.out Z hz.1 hz.2.1
            subst e1
            replace hx := (HT7.out.cell (World.block_lt_of_cell? w _ hx)).trans hx
            have p1 := eq_true hz.1
            have p2 := eq_true hz.2.1
            clear hz
            go_wp2_with (go_at_call 16; refine (HLV.out _).mono ?_; rintro e w9 ⟨rfl, hb⟩; have HX9 := Aside0.mk (below_step HT7.out hb); clear hb)
            go_ret
            exact ⟨rfl, HX9.out⟩
          | false =>
            have q1 : (Z == 0) = true := beq_iff_eq.mpr (HRZ.out.2 hq)
            go_wp2_with (go_at_call 16; refine (HLV.out _).mono ?_; rintro e w9 ⟨rfl, hb⟩; have HX9 := Aside0.mk (below_step HT7.out hb); clear hb)
            go_ret
            exact ⟨rfl, HX9.out⟩

/-! ### chance_Source_Fork: function 27 (by hand) -/
set_option maxHeartbeats 4000000 in
set_option maxRecDepth 100000 in
theorem chance_fork (w0 W : World) (p : Option Addr) (l : List Int) (hs : Src 44 w0 W p l) (hB : Below w0.heap.size w0 W) :
    Calls Try.prog 27 #[.pointer p] W fun e w' => ∃ q, e = .returned (.pointer q) ∧ (p = none → q = none) ∧ (p ≠ none → q ≠ none) ∧ (∀ a, q = some a → W.heap.size ≤ a.block ∧ a.block < w'.heap.size) ∧ Src 44 w0 w' q l ∧ Below W.heap.size W w' := by
  have hu := Try.underlying44
  rcases hs with ⟨rfl, rfl⟩ | ⟨g, A, c, rfl, h1, h2, h3, h4⟩
  · go_enter Try.func27, Try.ntmps27
    go_wp2
    go_ret
    exact ⟨none, rfl, fun _ => rfl, fun h => absurd rfl h, fun a ha => (by cases ha), .inl ⟨rfl, rfl⟩, Below.refl _ _⟩
  · have z : W.cell? ⟨g, 0, none⟩ = some (.slice A l.length c) := (blk_cell h1 0).trans rfl
    have HN := Aside0.mk (chance_new w0 W A c l h4 h3 hB)
    clear h1 h4 hB
    go_enter Try.func27, Try.ntmps27
    go_wp2_with (go_at_call 17; refine HN.out.mono ?_; rintro e w1 ⟨q, rfl, hq, hq2, hq3, hq4⟩; have HQ := Aside0.mk hq; have HQ2 := Aside0.mk hq2; have HQ3 := Aside0.mk hq3; have HQ4 := Aside0.mk hq4; clear hq hq2 hq3 hq4)
    go_ret
    exact ⟨q, rfl, fun h => (by cases h), fun _ => HQ.out, HQ2.out, HQ3.out, HQ4.out⟩

/-! ### jobberlaw05_ChanceSame: function 5 (by hand) -/
theorem some_nil : ∀ n : Nat, someS n [] 0 = (0, [])
  | 0 => rfl
  | n + 1 => by
    rw [someS]
    have e : Go.bits .or .u64 (IntKind.u64.wrap (0 * 256)) (IntKind.u64.wrap (hdS [])) = 0 := by
      rw [or_add (by simp [hdS]) (by simp [hdS])]
      rfl
    rw [e]
    exact some_nil n
theorem below_nil (n : Int) : belowS n [] = (0, []) := by
  unfold belowS
  split
  · rfl
  · rw [some_nil]; simp
theorem between_nil {low high : Int} (hl : -9223372036854775808 ≤ low ∧ low ≤ 9223372036854775807) : betweenS low high [] = (low, []) := by
  have e : wrap64 (IntKind.u64.wrap (IntKind.u64.wrap low + 0)) = low := by
    rw [u64w, u64w]
    unfold wrap64
    omega
  unfold betweenS
  split
  · rfl
  · split
    · rw [some_nil]; simp only [e]
    · rw [below_nil]; simp only [e]
theorem ask_nil {x : S34} (hl : -9223372036854775808 ≤ x.f2 ∧ x.f2 ≤ 9223372036854775807) : (askS x []).2 = [] := by
  unfold askS
  repeat' split
  · rfl
  · rw [below_nil]
  · rw [between_nil hl]
  · unfold pickS; rw [below_nil]
theorem Src.left_nil {t : TypeId} {w W : World} {g : Nat} (h : W.heap[g]? = some (.cells #[.slice none 0 0] t (0, 0))) (hg : w.heap.size ≤ g) : Src t w W (some ⟨g, 0, none⟩) [] := .inr ⟨g, none, 0, rfl, h, hg, Nat.le_refl _, Kd.C_nil _ _⟩
theorem Src.nil_ (t : TypeId) (w W : World) : Src t w W none [] := .inl ⟨rfl, rfl⟩
def jobberlaw05_ChanceSame.f (l0 : List Int) (l1 : List (S34)) : Option Bool := if (∀ x ∈ l0, 0 ≤ x ∧ x < 256) ∧ (∀ x ∈ l1, (0 ≤ x.f1 ∧ x.f1 < 18446744073709551616) ∧ (-9223372036854775808 ≤ x.f2 ∧ x.f2 ≤ 9223372036854775807)) then some true else none
set_option maxHeartbeats 8000000 in
set_option maxRecDepth 100000 in
theorem jobberlaw05_ChanceSame.calls (A0 : Option Addr) (c0 : Nat) (l0 : List Int) (A1 : Option Addr) (c1 : Nat) (l1 : List (S34)) (r : Bool) (w : World) (hr0 : Kd.C (Kd.int .u8) w A0 l0.length l0) (hc0 : l0.length ≤ c0) (hr1 : Kd.C k34 w A1 l1.length l1) (hc1 : l1.length ≤ c1) (h : jobberlaw05_ChanceSame.f l0 l1 = some r) :
    Calls Try.prog 5 #[.slice A0 l0.length c0, .slice A1 l1.length c1] w fun e w' => e = .returned (.bool r) ∧ Below w.heap.size w w' := by
  unfold jobberlaw05_ChanceSame.f at h
  by_cases hh : (∀ x ∈ l0, 0 ≤ x ∧ x < 256) ∧ (∀ x ∈ l1, (0 ≤ x.f1 ∧ x.f1 < 18446744073709551616) ∧ (-9223372036854775808 ≤ x.f2 ∧ x.f2 ≤ 9223372036854775807))
  case neg => rw [if_neg hh] at h; cases h
  rw [if_pos hh] at h
  obtain rfl := Option.some.inj h
  obtain ⟨hb0, hb1⟩ := hh
  obtain ⟨k, lr, hk, hlr⟩ := light_any l0 l1 hr1.2.1
  have HLI := Aside0.mk (jobberlaw05_light.calls k A0 c0 l0 A1 c1 l1 lr w hr0 hc0 hr1 hc1 hk)
  have HLV := Aside0.mk chance_lives
  have hu34 := Try.underlying34
  have hu44 := Try.underlying44
  have HC0 := Aside0.mk hc0
  have HR0 := Aside0.mk hr0
  have HR1 := Aside0.mk hr1
  have HB0 : Aside0 (Bytes l0) := ⟨hb0⟩
  have HB1 := Aside0.mk hb1
  have HLR := Aside0.mk hlr
  have HNW := Aside0.mk (fun (W : World) (hB : Below w.heap.size w W) => chance_new w W A0 c0 l0 hr0 hc0 hB)
  have HBY := Aside0.mk (fun W p h1 h2 => chance_byte w W p l0 h1 h2)
  have HFK := Aside0.mk (fun W p h1 h2 => chance_fork w W p l0.tail h1 h2)
  clear hr0 hc0 hr1 hc1 h hb0 hb1 hk hlr
  cases lr with
  | false =>
    clear HLR
    go_enter Try.func5, Try.ntmps5
    go_wp2_with (first | (go_at_call 15; refine HLI.out.mono ?_; rintro e w1 ⟨rfl, hb⟩; have HX1 := Aside0.mk hb; clear hb) | (go_at_call 16; refine (HLV.out _).mono ?_; rintro e w2 ⟨rfl, hb⟩; have HX2 := Aside0.mk (below_step HX1.out hb); clear hb))
    go_ret
    exact ⟨rfl, HX2.out⟩
  | true =>
    have HS := Aside0.mk (HLR.out rfl)
    clear HLR
    go_enter Try.func5, Try.ntmps5
    go_wp2_with (first | (go_at_call 15; refine HLI.out.mono ?_; rintro e w1 ⟨rfl, hb⟩; have HX1 := Aside0.mk hb; clear hb) | (go_at_call 17; refine (HNW.out _ HX1.out).mono ?_; rintro e w2 ⟨p, rfl, hp, hp2, hp3, hp4⟩; have HP := Aside0.mk hp; have HP3 := Aside0.mk hp3; have HX2 := Aside0.mk (below_step HX1.out hp4); clear hp hp2 hp3 hp4) | (go_at_call 18; refine (HBY.out _ _ HP3.out HX2.out).mono ?_; rintro e w3 ⟨rfl, hs3, ht3⟩; have HSP3 := Aside0.mk hs3; have HX3 := Aside0.mk ht3.1; clear hs3 ht3) | (go_at_call 27; refine (HFK.out _ _ HSP3.out HX3.out).mono ?_; rintro e w4 ⟨q, rfl, _, hq1, hq2, hq3, hq4⟩; have HQ := Aside0.mk (hq1 HP.out); have HQ2 := Aside0.mk hq2; have HSQ4 := Aside0.mk hq3; have HSP4 := Aside0.mk (HSP3.out.below hq4); have HX4 := Aside0.mk (below_step HX3.out hq4); clear hq1 hq2 hq3 hq4) | ((with_reducible refine gate_dst (N := 8) rfl ?_); refine box_event ?hg (N := 8) ?hd (cs := #[.slice none 0 0]) (t := 44) ?hr ?_; (case hd => rfl); (case hg => rfl); (case hr => first | (go_simp; done) | (go_simp; rfl)); intro gE hg w5 hbox hb; have HBK := Aside0.mk hbox; have HB5 := Aside0.mk hb; have HG := Aside0.mk hg; clear hb hbox hg))
    have HPQ : Aside0 (∀ a b, p = some a → q = some b → a.block ≠ b.block) := ⟨fun a b ha hb => by have := HSP3.out.lt a ha; have := (HQ2.out b hb).1; omega⟩
    have HPE : Aside0 (∀ a, p = some a → a.block ≠ gE) := ⟨fun a ha => by have := HSP4.out.lt a ha; have := HG.out; omega⟩
    have HQE : Aside0 (∀ a, q = some a → a.block ≠ gE) := ⟨fun a ha => by have := HSQ4.out.lt a ha; have := HG.out; omega⟩
    have HP0 := Aside0.mk (HSP4.out.below HB5.out)
    have HQ0 := Aside0.mk (HSQ4.out.below HB5.out)
    have HX5 := Aside0.mk (below_step HX4.out HB5.out)
    have HE0 : Aside0 (Src 44 w w5 (some ⟨gE, 0, none⟩) []) := ⟨Src.left_nil HBK.out (by have := HX4.out.size; have := HG.out; omega)⟩
    clear HSP3 HSP4 HSQ4 HB5 HBK HG HX4 HX3 HX2 HX1 HLI HNW HFK HP3 HQ2
    go_loopg [24] l1.length (fun kq v24 wr => ∃ (i : Int) (ls : List Int), v24 = .int .i64 i ∧ Aside0 (0 ≤ i ∧ i + kq = l1.length) ∧ Aside0 (Src 44 w wr p ls) ∧ Aside0 (Src 44 w wr q ls) ∧ Aside0 (Src 44 w wr (some ⟨gE, 0, none⟩) []) ∧ Aside0 (Below w.heap.size w wr))
    case atStart => exact ⟨0, l0.tail, rfl, ⟨by omega⟩, HP0, HQ0, HE0, HX5⟩
    case round =>
      clear HP0 HQ0 HE0 HX5 HB0
      obtain ⟨i, ls, rfl, HI, HSP, HSQ, HSE, HB⟩ := hrel
      by_cases hlt : i < (l1.length : Int)
      · have hd : decide (i < (l1.length : Int)) = true := decide_eq_true hlt
        obtain ⟨ad, A4, c4, e1, hx0, hx1, hx2, hx3, hx4, hl4, hi4⟩ := at_T34 HR1.out i HI.out.1 hlt
        subst e1
        replace hx0 := (HB.out.cell (World.block_lt_of_cell? w _ hx0)).trans hx0
        replace hx1 := (HB.out.cell (World.block_lt_of_cell? w _ hx1)).trans hx1
        replace hx2 := (HB.out.cell (World.block_lt_of_cell? w _ hx2)).trans hx2
        replace hx3 := (HB.out.cell (World.block_lt_of_cell? w _ hx3)).trans hx3
        replace hx4 := (HB.out.cell (World.block_lt_of_cell? w _ hx4)).trans hx4
        have HA4 := Aside0.mk hi4
        have HQQ := Aside0.mk (HB1.out (rd_T34 l1 i) (by unfold rd_T34; rw [List.getD_eq_getElem?_getD, List.getElem?_eq_getElem (show i.toNat < l1.length by have := HI.out; omega)]; exact List.getElem_mem _))
        have HW4 := Aside0.mk (HS.out.2.2 i HI.out.1 hlt)
        have p1 := eq_true HI.out.1
        have p2 := eq_true hlt
        obtain ⟨x, hx⟩ : ∃ x, rd_T34 l1 i = x := ⟨_, rfl⟩
        rw [hx] at hx0 hx1 hx2 hx3 hx4 HA4 HQQ HW4
        clear hx hl4 hi4
        have hw := Aside0.mk (show wrap64 (i + 1) = i + 1 by have := HI.out; have := HS.out.1; unfold wrap64; omega)
        cases gk with
        | zero => exact absurd HI.out.2 (by omega)
        | succ gk =>
          go_upto_region 11 with ((with_reducible refine gate_dst (N := 10) rfl ?_); refine box_event ?hg (N := 10) ?hd (cs := #[.int .i64 0, .int .u64 0, .int .i64 0, .int .i64 0, .slice none 0 0]) (t := 34) ?hr ?_; (case hd => rfl); (case hg => rfl); (case hr => first | (go_simp; done) | (go_simp; rfl)); intro gA hg w4 hbox hb; have HBK := Aside0.mk hbox; have HB4 := Aside0.mk hb; have HG := Aside0.mk hg; clear hb hbox hg; have hcz0 : w4.cell? ⟨gA, 0, none⟩ = some (.int .i64 0) := (blk_cell HBK.out 0).trans rfl; have hcz1 : w4.cell? ⟨gA, 1, none⟩ = some (.int .u64 0) := (blk_cell HBK.out 1).trans rfl; have hcz2 : w4.cell? ⟨gA, 2, none⟩ = some (.int .i64 0) := (blk_cell HBK.out 2).trans rfl; have hcz3 : w4.cell? ⟨gA, 3, none⟩ = some (.int .i64 0) := (blk_cell HBK.out 3).trans rfl; have hcz4 : w4.cell? ⟨gA, 4, none⟩ = some (.slice none 0 0) := (blk_cell HBK.out 4).trans rfl; have hfz0 := blk_frozen HBK.out 0; have hfz1 := blk_frozen HBK.out 1; have hfz2 := blk_frozen HBK.out 2; have hfz3 := blk_frozen HBK.out 3; have hfz4 := blk_frozen HBK.out 4)
          refine wp_abs (fun W3 => W3.heap[gA]? = some (.cells #[.int .i64 x.f0, .int .u64 x.f1, .int .i64 x.f2, .int .i64 x.f3, .slice A4 x.f4.length c4] 34 (0, 0)) ∧ Below wr.heap.size wr W3) ⟨?_, ?_⟩ ?_
          case refine_1 => exact blk_put (blk_put (blk_put (blk_put (blk_put HBK.out 0 _ rfl) 1 _ rfl) 2 _ rfl) 3 _ rfl) 4 _ rfl
          case refine_2 => exact below_set (below_set (below_set (below_set (below_set HB4.out (by rw [HG.out]; exact Nat.le_refl _)) (by rw [HG.out]; exact Nat.le_refl _)) (by rw [HG.out]; exact Nat.le_refl _)) (by rw [HG.out]; exact Nat.le_refl _)) (by rw [HG.out]; exact Nat.le_refl _)
          clear hcz0 hcz1 hcz2 hcz3 hcz4 hfz0 hfz1 hfz2 hfz3 hfz4 hx0 hx1 hx2 hx3 hx4
          intro W3 hW3
          have HGA : Aside0 (wr.heap.size ≤ gA) := ⟨by rw [HG.out]; exact Nat.le_refl _⟩
          have HNP : Aside0 (∀ a, p = some a → gA ≠ a.block) := ⟨fun a ha => by have := HSP.out.lt a ha; have := HGA.out; omega⟩
          have HNQ : Aside0 (∀ a, q = some a → gA ≠ a.block) := ⟨fun a ha => by have := HSQ.out.lt a ha; have := HGA.out; omega⟩
          have HNE : Aside0 (gA ≠ gE) := ⟨by have h_ : gE < wr.heap.size := HSE.out.lt _ rfl; have := HGA.out; omega⟩
          have HB3 := Aside0.mk (below_drew (below_step HB.out hW3.2))
          have HSP3 := Aside0.mk (HSP.out.below (below_drew hW3.2))
          have HSQ3 := Aside0.mk (HSQ.out.below (below_drew hW3.2))
          have HSE3 := Aside0.mk (HSE.out.below (below_drew hW3.2))
          have BK3 := Aside0.mk (show W3.drew.heap[gA]? = some (.cells #[.int .i64 x.f0, .int .u64 x.f1, .int .i64 x.f2, .int .i64 x.f3, .slice A4 x.f4.length c4] 34 (0, 0)) from hW3.1)
          clear HBK HB4 HG HSP HSQ HSE HB
          have HBA := Aside0.mk hW3.1
          clear hW3
          have z0 : W3.cell? ⟨gA, 0, none⟩ = some (.int .i64 x.f0) := (blk_cell HBA.out 0).trans rfl
          have z1 : W3.cell? ⟨gA, 1, none⟩ = some (.int .u64 x.f1) := (blk_cell HBA.out 1).trans rfl
          have z2 : W3.cell? ⟨gA, 2, none⟩ = some (.int .i64 x.f2) := (blk_cell HBA.out 2).trans rfl
          have z3 : W3.cell? ⟨gA, 3, none⟩ = some (.int .i64 x.f3) := (blk_cell HBA.out 3).trans rfl
          have z4 : W3.cell? ⟨gA, 4, none⟩ = some (.slice A4 x.f4.length c4) := (blk_cell HBA.out 4).trans rfl
          have HC1 := Aside0.mk (chance_ask w W3.drew p ls x A4 c4 HA4.out HQQ.out.1.1 HQQ.out.1.2 HSP3.out HSP3.out.lt HB3.out)
          have HC2 := Aside0.mk (fun W5 h1 h2 h3 => chance_ask w W5 q ls x A4 c4 HA4.out HQQ.out.1.1 HQQ.out.1.2 h1 h2 h3)
          have HC3 := Aside0.mk (fun W5 h3 => chance_ask w W5 none [] x A4 c4 HA4.out HQQ.out.1.1 HQQ.out.1.2 (Src.nil_ _ _ _) (fun a ha => by cases ha) h3)
          have HC4 := Aside0.mk (fun W5 h1 h2 h3 => chance_ask w W5 (some ⟨gE, 0, none⟩) [] x A4 c4 HA4.out HQQ.out.1.1 HQQ.out.1.2 h1 h2 h3)
          have HC5 := Aside0.mk (fun W5 h3 => chance_between w W5 none [] x.f2 x.f3 (Src.nil_ _ _ _) h3)
          have HEN := Aside0.mk (ask_nil HQQ.out.2)
          have HBN := Aside0.mk (between_nil (high := x.f3) HQQ.out.2)
          obtain ⟨y, hy⟩ : ∃ y, (askS x ls).1 = y := ⟨_, rfl⟩
          obtain ⟨LS, hLS⟩ : ∃ LS, (askS x ls).2 = LS := ⟨_, rfl⟩
          obtain ⟨y2, hy2⟩ : ∃ y, (askS x []).1 = y := ⟨_, rfl⟩
          rw [hy, hLS] at HC1
          simp only [hy, hLS] at HC2
          simp only [hy2, HEN.out] at HC3 HC4
          rw [HBN.out] at HC5
          clear hy hLS hy2
          by_cases q2 : x.f0 = 2
          · have d2 : (x.f0 == 2) = true := beq_iff_eq.mpr q2
            clear q2
            go_region_held3 (fun w' => w'.cell? ⟨gA, 0, none⟩ = some (.int .i64 x.f0) ∧ w'.cell? ⟨gA, 1, none⟩ = some (.int .u64 x.f1) ∧ w'.cell? ⟨gA, 2, none⟩ = some (.int .i64 x.f2) ∧ w'.cell? ⟨gA, 3, none⟩ = some (.int .i64 x.f3) ∧ w'.cell? ⟨gA, 4, none⟩ = some (.slice A4 x.f4.length c4)) (first | exact V5 | exact V6 | exact V7 | exact V8 | exact V9 | go_keep) (first | (go_at_call 28; (with_reducible refine HC1.out.mono ?_); rintro e W5 ⟨rfl, hs5, ht5⟩; have HSP5 := Aside0.mk hs5; have HSQ5 := Aside0.mk (HSQ3.out.keep ht5 (fun a b h1 h2 => (HPQ.out b a h2 h1).symm)); have HSE5 := Aside0.mk (HSE3.out.keep ht5 (fun a b h1 h2 => by cases h1; exact (HPE.out b h2).symm)); have HB5 := Aside0.mk ht5.1; have BK5 := Aside0.mk (ht5.blk BK3.out HNP.out); have V5 : W5.cell? ⟨gA, 0, none⟩ = some (.int .i64 x.f0) ∧ W5.cell? ⟨gA, 1, none⟩ = some (.int .u64 x.f1) ∧ W5.cell? ⟨gA, 2, none⟩ = some (.int .i64 x.f2) ∧ W5.cell? ⟨gA, 3, none⟩ = some (.int .i64 x.f3) ∧ W5.cell? ⟨gA, 4, none⟩ = some (.slice A4 x.f4.length c4) := ⟨(blk_cell BK5.out 0).trans rfl, (blk_cell BK5.out 1).trans rfl, (blk_cell BK5.out 2).trans rfl, (blk_cell BK5.out 3).trans rfl, (blk_cell BK5.out 4).trans rfl⟩; clear hs5 ht5 HC1) | (go_at_call 28; (with_reducible refine (HC2.out _ HSQ5.out HSQ5.out.lt HB5.out).mono ?_); rintro e W6 ⟨rfl, hs6, ht6⟩; have HSQ6 := Aside0.mk hs6; have HSP6 := Aside0.mk (HSP5.out.keep ht6 (fun a b h1 h2 => HPQ.out a b h1 h2)); have HSE6 := Aside0.mk (HSE5.out.keep ht6 (fun a b h1 h2 => by cases h1; exact (HQE.out b h2).symm)); have HB6 := Aside0.mk ht6.1; have BK6 := Aside0.mk (ht6.blk BK5.out HNQ.out); have V6 : W6.cell? ⟨gA, 0, none⟩ = some (.int .i64 x.f0) ∧ W6.cell? ⟨gA, 1, none⟩ = some (.int .u64 x.f1) ∧ W6.cell? ⟨gA, 2, none⟩ = some (.int .i64 x.f2) ∧ W6.cell? ⟨gA, 3, none⟩ = some (.int .i64 x.f3) ∧ W6.cell? ⟨gA, 4, none⟩ = some (.slice A4 x.f4.length c4) := ⟨(blk_cell BK6.out 0).trans rfl, (blk_cell BK6.out 1).trans rfl, (blk_cell BK6.out 2).trans rfl, (blk_cell BK6.out 3).trans rfl, (blk_cell BK6.out 4).trans rfl⟩; clear hs6 ht6 HC2) | (go_at_call 28; (with_reducible refine (HC3.out _ HB6.out).mono ?_); rintro e W7 ⟨rfl, _, ht7⟩; have HSQ7 := Aside0.mk (HSQ6.out.keep ht7 (fun a b h1 h2 => by cases h2)); have HSP7 := Aside0.mk (HSP6.out.keep ht7 (fun a b h1 h2 => by cases h2)); have HSE7 := Aside0.mk (HSE6.out.keep ht7 (fun a b h1 h2 => by cases h2)); have HB7 := Aside0.mk ht7.1; have BK7 := Aside0.mk (ht7.blk BK6.out (fun a ha => by cases ha)); have V7 : W7.cell? ⟨gA, 0, none⟩ = some (.int .i64 x.f0) ∧ W7.cell? ⟨gA, 1, none⟩ = some (.int .u64 x.f1) ∧ W7.cell? ⟨gA, 2, none⟩ = some (.int .i64 x.f2) ∧ W7.cell? ⟨gA, 3, none⟩ = some (.int .i64 x.f3) ∧ W7.cell? ⟨gA, 4, none⟩ = some (.slice A4 x.f4.length c4) := ⟨(blk_cell BK7.out 0).trans rfl, (blk_cell BK7.out 1).trans rfl, (blk_cell BK7.out 2).trans rfl, (blk_cell BK7.out 3).trans rfl, (blk_cell BK7.out 4).trans rfl⟩; clear ht7 HC3) | (go_at_call 28; (with_reducible refine (HC4.out _ HSE7.out HSE7.out.lt HB7.out).mono ?_); rintro e W8 ⟨rfl, hs8, ht8⟩; have HSE8 := Aside0.mk hs8; have HSQ8 := Aside0.mk (HSQ7.out.keep ht8 (fun a b h1 h2 => by cases h2; exact HQE.out a h1)); have HSP8 := Aside0.mk (HSP7.out.keep ht8 (fun a b h1 h2 => by cases h2; exact HPE.out a h1)); have HB8 := Aside0.mk ht8.1; have BK8 := Aside0.mk (ht8.blk BK7.out (fun a ha => by cases ha; exact HNE.out)); have V8 : W8.cell? ⟨gA, 0, none⟩ = some (.int .i64 x.f0) ∧ W8.cell? ⟨gA, 1, none⟩ = some (.int .u64 x.f1) ∧ W8.cell? ⟨gA, 2, none⟩ = some (.int .i64 x.f2) ∧ W8.cell? ⟨gA, 3, none⟩ = some (.int .i64 x.f3) ∧ W8.cell? ⟨gA, 4, none⟩ = some (.slice A4 x.f4.length c4) := ⟨(blk_cell BK8.out 0).trans rfl, (blk_cell BK8.out 1).trans rfl, (blk_cell BK8.out 2).trans rfl, (blk_cell BK8.out 3).trans rfl, (blk_cell BK8.out 4).trans rfl⟩; clear hs8 ht8 HC4) | (go_at_call 22; (with_reducible refine (HC5.out _ HB8.out).mono ?_); rintro e W9 ⟨rfl, _, ht9⟩; have HSP9 := Aside0.mk (HSP8.out.keep ht9 (fun a b h1 h2 => by cases h2)); have HSQ9 := Aside0.mk (HSQ8.out.keep ht9 (fun a b h1 h2 => by cases h2)); have HSE9 := Aside0.mk (HSE8.out.keep ht9 (fun a b h1 h2 => by cases h2)); have HB9 := Aside0.mk ht9.1; have BK9 := Aside0.mk (ht9.blk BK8.out (fun a ha => by cases ha)); have V9 : W9.cell? ⟨gA, 0, none⟩ = some (.int .i64 x.f0) ∧ W9.cell? ⟨gA, 1, none⟩ = some (.int .u64 x.f1) ∧ W9.cell? ⟨gA, 2, none⟩ = some (.int .i64 x.f2) ∧ W9.cell? ⟨gA, 3, none⟩ = some (.int .i64 x.f3) ∧ W9.cell? ⟨gA, 4, none⟩ = some (.slice A4 x.f4.length c4) := ⟨(blk_cell BK9.out 0).trans rfl, (blk_cell BK9.out 1).trans rfl, (blk_cell BK9.out 2).trans rfl, (blk_cell BK9.out 3).trans rfl, (blk_cell BK9.out 4).trans rfl⟩; clear ht9))
            go_wp2
            go_roundg gk
            case measure => omega
            case rel => exact ⟨wrap64 (i + 1), LS, rfl, ⟨by have := HI.out; rw [hw.out]; omega⟩, HSP9, HSQ9, HSE9, HB9⟩
          · have d2 : (x.f0 == 2) = false := beq_eq_false_iff_ne.mpr q2
            clear q2
            refine wp_region_held_drew (S := (fun w' => w'.cell? ⟨gA, 0, none⟩ = some (.int .i64 x.f0) ∧ w'.cell? ⟨gA, 1, none⟩ = some (.int .u64 x.f1) ∧ w'.cell? ⟨gA, 2, none⟩ = some (.int .i64 x.f2) ∧ w'.cell? ⟨gA, 3, none⟩ = some (.int .i64 x.f3) ∧ w'.cell? ⟨gA, 4, none⟩ = some (.slice A4 x.f4.length c4))) (by kernel_rfl) ?hS0 (fun hHeld => ?hrest0)
            case hS0 => go_keep
            refine wpAnyH_take (i := 0) (v := ?vq0) (by simp only [List.getElem?_toArray, List.getElem?_cons_succ, List.getElem?_cons_zero]; rfl) (by kernel_rfl) (by kernel_rfl) (by kernel_rfl) (by exact fun _ _ _ h => h) (Or.inl ⟨by rfl, ?hyq0⟩) (by assumption) ?rq0
            case hyq0 => (intro w hSw; (try dsimp only at hSw); go_simp; try with_reducible rfl)
            try simp only [Act.put, List.setIfInBounds_toArray, List.set_cons_zero, List.set_cons_succ]
            refine wpAnyH_take (i := 1) (v := ?vq1) (by simp only [List.getElem?_toArray, List.getElem?_cons_succ, List.getElem?_cons_zero]; rfl) (by kernel_rfl) (by kernel_rfl) (by kernel_rfl) (by exact fun _ _ _ h => h) (Or.inl ⟨by rfl, ?hyq1⟩) (by assumption) ?rq1
            case hyq1 => (intro w hSw; (try dsimp only at hSw); go_simp; try with_reducible rfl)
            try simp only [Act.put, List.setIfInBounds_toArray, List.set_cons_zero, List.set_cons_succ]
            refine wpAnyH_take (i := 3) (v := ?vq2) (by simp only [List.getElem?_toArray, List.getElem?_cons_succ, List.getElem?_cons_zero]; rfl) (by kernel_rfl) (by kernel_rfl) (by kernel_rfl) (by exact fun _ _ _ h => h) (Or.inl ⟨by rfl, ?hyq2⟩) (by assumption) ?rq2
            case hyq2 => (intro w hSw; (try dsimp only at hSw); go_simp; try with_reducible rfl)
            try simp only [Act.put, List.setIfInBounds_toArray, List.set_cons_zero, List.set_cons_succ]
            refine wpAnyH_take (i := 4) (v := ?vq3) (by simp only [List.getElem?_toArray, List.getElem?_cons_succ, List.getElem?_cons_zero]; rfl) (by kernel_rfl) (by kernel_rfl) (by kernel_rfl) (by exact fun _ _ _ h => h) (Or.inl ⟨by rfl, ?hyq3⟩) (by assumption) ?rq3
            case hyq3 => (intro w hSw; (try dsimp only at hSw); go_simp; try with_reducible rfl)
            try simp only [Act.put, List.setIfInBounds_toArray, List.set_cons_zero, List.set_cons_succ]
            refine wpAnyH_ready (rs := [2]) (by kernel_rfl) (by simp) ?_
            refine AllReadyH.cons (by simp only [List.getElem?_toArray, List.getElem?_cons_succ, List.getElem?_cons_zero]; rfl) (fun K hK => ?_) AllReadyH.nil
            go_simp
            (go_at_call 28; (with_reducible refine HC1.out.mono ?_); rintro e W5 ⟨rfl, hs5, ht5⟩; have HSP5 := Aside0.mk hs5; have HSQ5 := Aside0.mk (HSQ3.out.keep ht5 (fun a b h1 h2 => (HPQ.out b a h2 h1).symm)); have HSE5 := Aside0.mk (HSE3.out.keep ht5 (fun a b h1 h2 => by cases h1; exact (HPE.out b h2).symm)); have HB5 := Aside0.mk ht5.1; have BK5 := Aside0.mk (ht5.blk BK3.out HNP.out); have V5 : W5.cell? ⟨gA, 0, none⟩ = some (.int .i64 x.f0) ∧ W5.cell? ⟨gA, 1, none⟩ = some (.int .u64 x.f1) ∧ W5.cell? ⟨gA, 2, none⟩ = some (.int .i64 x.f2) ∧ W5.cell? ⟨gA, 3, none⟩ = some (.int .i64 x.f3) ∧ W5.cell? ⟨gA, 4, none⟩ = some (.slice A4 x.f4.length c4) := ⟨(blk_cell BK5.out 0).trans rfl, (blk_cell BK5.out 1).trans rfl, (blk_cell BK5.out 2).trans rfl, (blk_cell BK5.out 3).trans rfl, (blk_cell BK5.out 4).trans rfl⟩; clear hs5 ht5 HC1)
            refine hK.out _ _ ?hSq4 (fun hHeld => ?rq4)
            case hSq4 => exact V5
            clear hK K
            try simp only [Act.put, List.setIfInBounds_toArray, List.set_cons_zero, List.set_cons_succ]
            refine wpAnyH_ready (rs := [5]) (by kernel_rfl) (by simp) ?_
            refine AllReadyH.cons (by simp only [List.getElem?_toArray, List.getElem?_cons_succ, List.getElem?_cons_zero]; rfl) (fun K hK => ?_) AllReadyH.nil
            go_simp
            (go_at_call 28; (with_reducible refine (HC2.out _ HSQ5.out HSQ5.out.lt HB5.out).mono ?_); rintro e W6 ⟨rfl, hs6, ht6⟩; have HSQ6 := Aside0.mk hs6; have HSP6 := Aside0.mk (HSP5.out.keep ht6 (fun a b h1 h2 => HPQ.out a b h1 h2)); have HSE6 := Aside0.mk (HSE5.out.keep ht6 (fun a b h1 h2 => by cases h1; exact (HQE.out b h2).symm)); have HB6 := Aside0.mk ht6.1; have BK6 := Aside0.mk (ht6.blk BK5.out HNQ.out); have V6 : W6.cell? ⟨gA, 0, none⟩ = some (.int .i64 x.f0) ∧ W6.cell? ⟨gA, 1, none⟩ = some (.int .u64 x.f1) ∧ W6.cell? ⟨gA, 2, none⟩ = some (.int .i64 x.f2) ∧ W6.cell? ⟨gA, 3, none⟩ = some (.int .i64 x.f3) ∧ W6.cell? ⟨gA, 4, none⟩ = some (.slice A4 x.f4.length c4) := ⟨(blk_cell BK6.out 0).trans rfl, (blk_cell BK6.out 1).trans rfl, (blk_cell BK6.out 2).trans rfl, (blk_cell BK6.out 3).trans rfl, (blk_cell BK6.out 4).trans rfl⟩; clear hs6 ht6 HC2)
            refine hK.out _ _ ?hSq5 (fun hHeld => ?rq5)
            case hSq5 => exact V6
            clear hK K
            try simp only [Act.put, List.setIfInBounds_toArray, List.set_cons_zero, List.set_cons_succ]
            refine wpAnyH_take (i := 6) (v := ?vq6) (by simp only [List.getElem?_toArray, List.getElem?_cons_succ, List.getElem?_cons_zero]; rfl) (by kernel_rfl) (by kernel_rfl) (by kernel_rfl) (by exact fun _ _ _ h => h) (Or.inl ⟨by rfl, ?hyq6⟩) (by assumption) ?rq6
            case hyq6 => (intro w hSw; (try dsimp only at hSw); go_simp; try with_reducible rfl)
            try simp only [Act.put, List.setIfInBounds_toArray, List.set_cons_zero, List.set_cons_succ]
            refine wpAnyH_take (i := 7) (v := ?vq7) (by simp only [List.getElem?_toArray, List.getElem?_cons_succ, List.getElem?_cons_zero]; rfl) (by kernel_rfl) (by kernel_rfl) (by kernel_rfl) (by exact fun _ _ _ h => h) (Or.inl ⟨by rfl, ?hyq7⟩) (by assumption) ?rq7
            case hyq7 => (intro w hSw; (try dsimp only at hSw); go_simp; try with_reducible rfl)
            try simp only [Act.put, List.setIfInBounds_toArray, List.set_cons_zero, List.set_cons_succ]
            refine wpAnyH_take (i := 8) (v := ?vq8) (by simp only [List.getElem?_toArray, List.getElem?_cons_succ, List.getElem?_cons_zero]; rfl) (by kernel_rfl) (by kernel_rfl) (by kernel_rfl) (by exact fun _ _ _ h => h) (Or.inl ⟨by rfl, ?hyq8⟩) (by assumption) ?rq8
            case hyq8 => (intro w hSw; (try dsimp only at hSw); go_simp; try with_reducible rfl)
            try simp only [Act.put, List.setIfInBounds_toArray, List.set_cons_zero, List.set_cons_succ]
            refine wpAnyH_take (i := 9) (v := ?vq9) (by simp only [List.getElem?_toArray, List.getElem?_cons_succ, List.getElem?_cons_zero]; rfl) (by kernel_rfl) (by kernel_rfl) (by kernel_rfl) (by exact fun _ _ _ h => h) (Or.inl ⟨by rfl, ?hyq9⟩) (by assumption) ?rq9
            case hyq9 => (intro w hSw; (try dsimp only at hSw); go_simp; try with_reducible rfl)
            try simp only [Act.put, List.setIfInBounds_toArray, List.set_cons_zero, List.set_cons_succ]
            refine wpAnyH_take (i := 11) (v := ?vq10) (by simp only [List.getElem?_toArray, List.getElem?_cons_succ, List.getElem?_cons_zero]; rfl) (by kernel_rfl) (by kernel_rfl) (by kernel_rfl) (by exact fun _ _ _ h => h) (Or.inl ⟨by rfl, ?hyq10⟩) (by assumption) ?rq10
            case hyq10 => (intro w hSw; (try dsimp only at hSw); go_simp; try with_reducible rfl)
            try simp only [Act.put, List.setIfInBounds_toArray, List.set_cons_zero, List.set_cons_succ]
            refine wpAnyH_ready (rs := [10]) (by kernel_rfl) (by simp) ?_
            refine AllReadyH.cons (by simp only [List.getElem?_toArray, List.getElem?_cons_succ, List.getElem?_cons_zero]; rfl) (fun K hK => ?_) AllReadyH.nil
            go_simp
            (go_at_call 28; (with_reducible refine (HC3.out _ HB6.out).mono ?_); rintro e W7 ⟨rfl, _, ht7⟩; have HSQ7 := Aside0.mk (HSQ6.out.keep ht7 (fun a b h1 h2 => by cases h2)); have HSP7 := Aside0.mk (HSP6.out.keep ht7 (fun a b h1 h2 => by cases h2)); have HSE7 := Aside0.mk (HSE6.out.keep ht7 (fun a b h1 h2 => by cases h2)); have HB7 := Aside0.mk ht7.1; have BK7 := Aside0.mk (ht7.blk BK6.out (fun a ha => by cases ha)); have V7 : W7.cell? ⟨gA, 0, none⟩ = some (.int .i64 x.f0) ∧ W7.cell? ⟨gA, 1, none⟩ = some (.int .u64 x.f1) ∧ W7.cell? ⟨gA, 2, none⟩ = some (.int .i64 x.f2) ∧ W7.cell? ⟨gA, 3, none⟩ = some (.int .i64 x.f3) ∧ W7.cell? ⟨gA, 4, none⟩ = some (.slice A4 x.f4.length c4) := ⟨(blk_cell BK7.out 0).trans rfl, (blk_cell BK7.out 1).trans rfl, (blk_cell BK7.out 2).trans rfl, (blk_cell BK7.out 3).trans rfl, (blk_cell BK7.out 4).trans rfl⟩; clear ht7 HC3)
            refine hK.out _ _ ?hSq11 (fun hHeld => ?rq11)
            case hSq11 => exact V7
            clear hK K
            try simp only [Act.put, List.setIfInBounds_toArray, List.set_cons_zero, List.set_cons_succ]
            refine wpAnyH_ready (rs := [12]) (by kernel_rfl) (by simp) ?_
            refine AllReadyH.cons (by simp only [List.getElem?_toArray, List.getElem?_cons_succ, List.getElem?_cons_zero]; rfl) (fun K hK => ?_) AllReadyH.nil
            go_simp
            (go_at_call 28; (with_reducible refine (HC4.out _ HSE7.out HSE7.out.lt HB7.out).mono ?_); rintro e W8 ⟨rfl, hs8, ht8⟩; have HSE8 := Aside0.mk hs8; have HSQ8 := Aside0.mk (HSQ7.out.keep ht8 (fun a b h1 h2 => by cases h2; exact HQE.out a h1)); have HSP8 := Aside0.mk (HSP7.out.keep ht8 (fun a b h1 h2 => by cases h2; exact HPE.out a h1)); have HB8 := Aside0.mk ht8.1; have BK8 := Aside0.mk (ht8.blk BK7.out (fun a ha => by cases ha; exact HNE.out)); have V8 : W8.cell? ⟨gA, 0, none⟩ = some (.int .i64 x.f0) ∧ W8.cell? ⟨gA, 1, none⟩ = some (.int .u64 x.f1) ∧ W8.cell? ⟨gA, 2, none⟩ = some (.int .i64 x.f2) ∧ W8.cell? ⟨gA, 3, none⟩ = some (.int .i64 x.f3) ∧ W8.cell? ⟨gA, 4, none⟩ = some (.slice A4 x.f4.length c4) := ⟨(blk_cell BK8.out 0).trans rfl, (blk_cell BK8.out 1).trans rfl, (blk_cell BK8.out 2).trans rfl, (blk_cell BK8.out 3).trans rfl, (blk_cell BK8.out 4).trans rfl⟩; clear hs8 ht8 HC4)
            refine hK.out _ _ ?hSq12 (fun hHeld => ?rq12)
            case hSq12 => exact V8
            clear hK K
            try simp only [Act.put, List.setIfInBounds_toArray, List.set_cons_zero, List.set_cons_succ]
            refine wpAnyH_take (i := 13) (v := ?vq13) (by simp only [List.getElem?_toArray, List.getElem?_cons_succ, List.getElem?_cons_zero]; rfl) (by kernel_rfl) (by kernel_rfl) (by kernel_rfl) (by exact fun _ _ _ h => h) (Or.inl ⟨by rfl, ?hyq13⟩) (by assumption) ?rq13
            case hyq13 => (intro w hSw; (try dsimp only at hSw); go_simp; try with_reducible rfl)
            try simp only [Act.put, List.setIfInBounds_toArray, List.set_cons_zero, List.set_cons_succ]
            refine wpAnyH_take (i := 14) (v := ?vq14) (by simp only [List.getElem?_toArray, List.getElem?_cons_succ, List.getElem?_cons_zero]; rfl) (by kernel_rfl) (by kernel_rfl) (by kernel_rfl) (by exact fun _ _ _ h => h) (Or.inl ⟨by rfl, ?hyq14⟩) (by assumption) ?rq14
            case hyq14 => (intro w hSw; (try dsimp only at hSw); go_simp; try with_reducible rfl)
            try simp only [Act.put, List.setIfInBounds_toArray, List.set_cons_zero, List.set_cons_succ]
            refine wpAnyH_take (i := 15) (v := ?vq15) (by simp only [List.getElem?_toArray, List.getElem?_cons_succ, List.getElem?_cons_zero]; rfl) (by kernel_rfl) (by kernel_rfl) (by kernel_rfl) (by exact fun _ _ _ h => h) (Or.inl ⟨by rfl, ?hyq15⟩) (by assumption) ?rq15
            case hyq15 => (intro w hSw; (try dsimp only at hSw); go_simp; try with_reducible rfl)
            try simp only [Act.put, List.setIfInBounds_toArray, List.set_cons_zero, List.set_cons_succ]
            refine wpAnyH_take (i := 16) (v := ?vq16) (by simp only [List.getElem?_toArray, List.getElem?_cons_succ, List.getElem?_cons_zero]; rfl) (by kernel_rfl) (by kernel_rfl) (by kernel_rfl) (by exact fun _ _ _ h => h) (Or.inl ⟨by rfl, ?hyq16⟩) (by assumption) ?rq16
            case hyq16 => (intro w hSw; (try dsimp only at hSw); go_simp; try with_reducible rfl)
            try simp only [Act.put, List.setIfInBounds_toArray, List.set_cons_zero, List.set_cons_succ]
            refine wpAnyH_take (i := 17) (v := ?vq17) (by simp only [List.getElem?_toArray, List.getElem?_cons_succ, List.getElem?_cons_zero]; rfl) (by kernel_rfl) (by kernel_rfl) (by kernel_rfl) (by exact fun _ _ _ h => h) (Or.inl ⟨by rfl, ?hyq17⟩) (by assumption) ?rq17
            case hyq17 => (intro w hSw; (try dsimp only at hSw); go_simp; try with_reducible rfl)
            try simp only [Act.put, List.setIfInBounds_toArray, List.set_cons_zero, List.set_cons_succ]
            refine wpAnyH_take (i := 18) (v := ?vq18) (by simp only [List.getElem?_toArray, List.getElem?_cons_succ, List.getElem?_cons_zero]; rfl) (by kernel_rfl) (by kernel_rfl) (by kernel_rfl) (by exact fun _ _ _ h => h) (Or.inl ⟨by rfl, ?hyq18⟩) (by assumption) ?rq18
            case hyq18 => (intro w hSw; (try dsimp only at hSw); go_simp; try with_reducible rfl)
            try simp only [Act.put, List.setIfInBounds_toArray, List.set_cons_zero, List.set_cons_succ]
            refine wpAnyH_take (i := 19) (v := ?vq19) (by simp only [List.getElem?_toArray, List.getElem?_cons_succ, List.getElem?_cons_zero]; rfl) (by kernel_rfl) (by kernel_rfl) (by kernel_rfl) (by exact fun _ _ _ h => h) (Or.inl ⟨by rfl, ?hyq19⟩) (by assumption) ?rq19
            case hyq19 => (intro w hSw; (try dsimp only at hSw); go_simp; try with_reducible rfl)
            try simp only [Act.put, List.setIfInBounds_toArray, List.set_cons_zero, List.set_cons_succ]
            refine wpAnyH_take (i := 20) (v := undef) (by simp only [List.getElem?_toArray, List.getElem?_cons_succ, List.getElem?_cons_zero]; rfl) (by kernel_rfl) (by kernel_rfl) (by kernel_rfl) (by exact fun _ _ _ h => h) (Or.inr ⟨by rfl, rfl⟩) (by assumption) ?rq20
            try simp only [Act.put, List.setIfInBounds_toArray, List.set_cons_zero, List.set_cons_succ]
            refine wpAnyH_take (i := 21) (v := undef) (by simp only [List.getElem?_toArray, List.getElem?_cons_succ, List.getElem?_cons_zero]; rfl) (by kernel_rfl) (by kernel_rfl) (by kernel_rfl) (by exact fun _ _ _ h => h) (Or.inr ⟨by rfl, rfl⟩) (by assumption) ?rq21
            try simp only [Act.put, List.setIfInBounds_toArray, List.set_cons_zero, List.set_cons_succ]
            refine wpAnyH_take (i := 22) (v := undef) (by simp only [List.getElem?_toArray, List.getElem?_cons_succ, List.getElem?_cons_zero]; rfl) (by kernel_rfl) (by kernel_rfl) (by kernel_rfl) (by exact fun _ _ _ h => h) (Or.inr ⟨by rfl, rfl⟩) (by assumption) ?rq22
            try simp only [Act.put, List.setIfInBounds_toArray, List.set_cons_zero, List.set_cons_succ]
            refine wpAnyH_take (i := 23) (v := undef) (by simp only [List.getElem?_toArray, List.getElem?_cons_succ, List.getElem?_cons_zero]; rfl) (by kernel_rfl) (by kernel_rfl) (by kernel_rfl) (by exact fun _ _ _ h => h) (Or.inr ⟨by rfl, rfl⟩) (by assumption) ?rq23
            try simp only [Act.put, List.setIfInBounds_toArray, List.set_cons_zero, List.set_cons_succ]
            refine wpAnyH_take (i := 24) (v := undef) (by simp only [List.getElem?_toArray, List.getElem?_cons_succ, List.getElem?_cons_zero]; rfl) (by kernel_rfl) (by kernel_rfl) (by kernel_rfl) (by exact fun _ _ _ h => h) (Or.inr ⟨by rfl, rfl⟩) (by assumption) ?rq24
            try simp only [Act.put, List.setIfInBounds_toArray, List.set_cons_zero, List.set_cons_succ]
            refine wpAnyH_take (i := 25) (v := undef) (by simp only [List.getElem?_toArray, List.getElem?_cons_succ, List.getElem?_cons_zero]; rfl) (by kernel_rfl) (by kernel_rfl) (by kernel_rfl) (by exact fun _ _ _ h => h) (Or.inr ⟨by rfl, rfl⟩) (by assumption) ?rq25
            try simp only [Act.put, List.setIfInBounds_toArray, List.set_cons_zero, List.set_cons_succ]
            refine wpAnyH_take (i := 26) (v := undef) (by simp only [List.getElem?_toArray, List.getElem?_cons_succ, List.getElem?_cons_zero]; rfl) (by kernel_rfl) (by kernel_rfl) (by kernel_rfl) (by exact fun _ _ _ h => h) (Or.inr ⟨by rfl, rfl⟩) (by assumption) ?rq26
            try simp only [Act.put, List.setIfInBounds_toArray, List.set_cons_zero, List.set_cons_succ]
            refine wpAnyH_take (i := 27) (v := undef) (by simp only [List.getElem?_toArray, List.getElem?_cons_succ, List.getElem?_cons_zero]; rfl) (by kernel_rfl) (by kernel_rfl) (by kernel_rfl) (by exact fun _ _ _ h => h) (Or.inr ⟨by rfl, rfl⟩) (by assumption) ?rq27
            try simp only [Act.put, List.setIfInBounds_toArray, List.set_cons_zero, List.set_cons_succ]
            refine wpAnyH_take (i := 28) (v := undef) (by simp only [List.getElem?_toArray, List.getElem?_cons_succ, List.getElem?_cons_zero]; rfl) (by kernel_rfl) (by kernel_rfl) (by kernel_rfl) (by exact fun _ _ _ h => h) (Or.inr ⟨by rfl, rfl⟩) (by assumption) ?rq28
            try simp only [Act.put, List.setIfInBounds_toArray, List.set_cons_zero, List.set_cons_succ]
            refine wpAnyH_take (i := 29) (v := ?vq29) (by simp only [List.getElem?_toArray, List.getElem?_cons_succ, List.getElem?_cons_zero]; rfl) (by kernel_rfl) (by kernel_rfl) (by kernel_rfl) (by exact fun _ _ _ h => h) (Or.inl ⟨by rfl, ?hyq29⟩) (by assumption) ?rq29
            case hyq29 => (intro w hSw; (try dsimp only at hSw); go_simp; try with_reducible rfl)
            try simp only [Act.put, List.setIfInBounds_toArray, List.set_cons_zero, List.set_cons_succ]
            refine wpAnyH_take (i := 30) (v := ?vq30) (by simp only [List.getElem?_toArray, List.getElem?_cons_succ, List.getElem?_cons_zero]; rfl) (by kernel_rfl) (by kernel_rfl) (by kernel_rfl) (by exact fun _ _ _ h => h) (Or.inl ⟨by rfl, ?hyq30⟩) (by assumption) ?rq30
            case hyq30 => (intro w hSw; (try dsimp only at hSw); go_simp; try with_reducible rfl)
            try simp only [Act.put, List.setIfInBounds_toArray, List.set_cons_zero, List.set_cons_succ]
            refine wpAnyH_done (by kernel_rfl) ?_ _
            go_wp2
            go_roundg gk
            case measure => omega
            case rel => exact ⟨wrap64 (i + 1), LS, rfl, ⟨by have := HI.out; rw [hw.out]; omega⟩, HSP8, HSQ8, HSE8, HB8⟩
      · have hd : decide (i < (l1.length : Int)) = false := decide_eq_false hlt
        have HL1 := Aside0.mk ((chance_left w wr p ls HSP.out).mono (fun e w' h => (⟨h.1, h.2.symm⟩ : _ ∧ wr = w')))
        have HL2 := Aside0.mk ((chance_left w wr q ls HSQ.out).mono (fun e w' h => (⟨h.1, h.2.symm⟩ : _ ∧ wr = w')))
        have HL3 := Aside0.mk ((chance_left w wr none [] (Src.nil_ _ _ _)).mono (fun e w' h => (⟨h.1, h.2.symm⟩ : e = .returned (.int .i64 0) ∧ wr = w')))
        have HL4 := Aside0.mk (chance_fork w wr none [] (Src.nil_ _ _ _) HB.out)
        have HL5 := Aside0.mk (fun W h => chance_byte w W none [] (Src.nil_ _ _ _) h)
        go_wp2_with (first | (go_at_call 26; (first | ((with_reducible refine HL1.out.mono ?_); rintro e w9 ⟨rfl, rfl⟩; clear HL1) | ((with_reducible refine HL2.out.mono ?_); rintro e w9 ⟨rfl, rfl⟩) | ((with_reducible refine HL3.out.mono ?_); rintro e w9 ⟨rfl, rfl⟩))) | (go_at_call 27; refine HL4.out.mono ?_; rintro e w9 ⟨q9, rfl, hq1, _, _, _, hq5⟩; have hqn := hq1 (by first | rfl | trivial); subst hqn; have HX9 := Aside0.mk (below_step HB.out hq5); clear hq1 hq5) | (go_at_call 18; refine (HL5.out _ HX9.out).mono ?_; rintro e w10 ⟨rfl, _, ht10⟩; have HX10 := Aside0.mk ht10.1; clear ht10) | (go_at_call 16; refine (HLV.out _).mono ?_; rintro e w11 ⟨rfl, hb⟩; have HX11 := Aside0.mk (below_step HX10.out hb); clear hb))
        go_ret
        exact ⟨rfl, HX11.out⟩

end Go.Proofs.Ytdfkbdcdgbjgcaa.Cha
