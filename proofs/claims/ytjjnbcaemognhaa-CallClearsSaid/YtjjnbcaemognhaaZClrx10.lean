/- Printed by this session's wip/drive.py over the translation; some functions by hand. -/
import Derived.Test.YtjjnbcaemognhaaZClrx0
import Derived.Test.YtjjnbcaemognhaaZClrx4
import Derived.Test.YtjjnbcaemognhaaZClrx5
import Derived.Test.YtjjnbcaemognhaaZClrx9
namespace Go.Proofs.Ytjjnbcaemognhaa.Clr
open Go.RowKit Go.Proofs.YtjjnbcaemognhaaW.PrintWords Go.Proofs.YtjjnbcaemognhaaW.PrintLast Go.Proofs.YtjjnbcaemognhaaW.PrintMore
attribute [local go_sem] max2_int min2_int max_two min_two max_three min_three max_four min_four
set_option linter.unusedVariables false
set_option linter.unusedSimpArgs false
theorem reps_map (k : IntKind) (xs : List Int) (cs : List Value) (h : ∀ j p, xs[j]? = some p → (cs.drop (j * 1)).take 1 = [.int k p]) (hl : cs.length = xs.length * 1) : cs = xs.map (.int k) := by
  refine List.ext_getElem (by simp; omega) fun j h1 h2 => ?_
  have hj : j < xs.length := by simpa using h2
  have := h j xs[j] (List.getElem?_eq_getElem hj)
  rw [Nat.mul_one, List.drop_eq_getElem_cons h1, List.take_succ_cons, List.take_zero] at this
  injection this with e _
  rw [e, List.getElem_map]
theorem run_copy_off {P : Program} (w : World) (dT sT ty elem : TypeId) (z g f dLen dCap : Nat) (A : Option Addr) (sLen sCap : Nat) (cur : Array Value) (t : TypeId) (cs : List Value)
    (hu : P.underlying dT = some (.slice elem)) (hs : (P.info? elem).map (·.size) = some z) (hg : w.heap[g]? = some (.cells cur t (0, 0))) (hn : Nat.min sLen dLen * z = cs.length) (hA : A = none → cs = [])
    (hsrc : ∀ a, A = some a → ∀ (j : Nat) v, cs[j]? = some v → w.cell? (a.add j) = some v) (hfit : f + cs.length ≤ cur.size) (h1 : ∀ v ∈ cs, v.oneCell' = true) :
    (Builtin.copy_ #[dT, sT] ty #[.slice (some ⟨g, f, none⟩) dLen dCap, .slice A sLen sCap]).run P w = .ok (goInt (Nat.min sLen dLen)) (w.setRow g (cur.toList.take f ++ cs ++ cur.toList.drop (f + cs.length)).toArray) := by
  cases hq : P.info? elem with
  | none => simp [hq] at hs
  | some i =>
    have hi : i.size = z := by simpa [hq] using hs
    cases A with
    | none =>
      obtain rfl := hA rfl
      have e : w.setRow g (cur.toList.take f ++ ([] : List Value) ++ cur.toList.drop (f + ([] : List Value).length)).toArray = w := by
        simp only [List.append_nil, List.length_nil, Nat.add_zero, List.take_append_drop, Array.toArray_toList]
        exact setRow_self w g cur t (0, 0) hg
      rw [e]
      simp [Builtin.copy_, run_underlying hu, Builtin.lenOf, Builtin.firstCells, sizeOf, typeInfo, hq, storeCells]
    | some a =>
      have hl := run_loadCells_list (P := P) w a cs (hsrc a rfl)
      have hst := run_storeCells_at P g f t cs 0 cur w hg (by simpa using hfit) h1
      simp only [Nat.add_zero] at hst
      simp [Builtin.copy_, run_underlying hu, Builtin.lenOf, Builtin.firstCells, sizeOf, typeInfo, hq, hi, hn, hl, hst]
theorem copy_off {P : Program} {W : World} {base e g n cap f d c' c : Nat} {k : IntKind} {ok : Nat → Prop} {out xs : List Int} {A : Option Addr} (dT sT ty : TypeId) (hu : P.underlying dT = some (.slice e)) (hsz : (P.info? e).map (·.size) = some 1)
    (hR : (Kd.int k).R e W base ok (.slice (some ⟨g, 0, none⟩) n cap) out) (hf : f + d ≤ n) (hC : (Kd.int k).C W A xs.length xs) :
    ∃ W', (Builtin.copy_ #[dT, sT] ty #[.slice (some ⟨g, f, none⟩) d c', .slice A xs.length c]).run P W = .ok (goInt (Nat.min xs.length d)) W' ∧ (Kd.int k).R e W' base ok (.slice (some ⟨g, 0, none⟩) n cap) (out.take f ++ xs.take d ++ out.drop (f + Nat.min xs.length d)) ∧ W.grownBy W' (some g) := by
  obtain ⟨h0, inner, how, hr⟩ := hR
  obtain ⟨hil, hcase⟩ := how
  rcases hcase with ⟨e1, _⟩ | ⟨g', cap', cur, e1, hbg, hg, hnc, hcm, hcs, htk⟩
  · cases e1
  injection e1 with e1a e1b e1c
  injection e1a with e1a
  injection e1a with e1a _ _
  subst e1a e1b e1c
  have z1 : (Kd.int k).sz = 1 := rfl
  rw [z1] at hil hcs htk
  have hin : inner = out.map (.int k) := reps_map k out inner (fun j p hj => hr.2 j p hj) hil
  subst hin
  rw [Nat.mul_one] at htk hcs
  obtain ⟨m, hm⟩ : ∃ m, Nat.min xs.length d = m := ⟨_, rfl⟩
  have hm2 : m ≤ d ∧ m ≤ xs.length := by rw [← hm]; exact ⟨Nat.min_le_right _ _, Nat.min_le_left _ _⟩
  have hml : ((xs.take d).map (Value.int k)).length = m := by rw [List.length_map, List.length_take, ← hm]; exact Nat.min_comm _ _
  have hrun := run_copy_off (P := P) W dT sT ty e 1 g f d c' A xs.length c cur e ((xs.take d).map (Value.int k)) hu hsz hg (by rw [hml, hm, Nat.mul_one]) (fun hA => by
      have : xs = [] := by
        rcases Nat.eq_zero_or_pos xs.length with h | h
        · exact List.eq_nil_of_length_eq_zero h
        · obtain ⟨ad, e2, _⟩ := hC.2.2 h
          rw [hA] at e2; cases e2
      rw [this]; simp) (fun a ha j v hv => by
      rw [List.getElem?_map, List.getElem?_take] at hv
      split at hv
      · cases hq : xs[j]? with
        | none => rw [hq] at hv; cases hv
        | some p =>
          rw [hq] at hv
          have hlt : j < xs.length := by
            rcases Nat.lt_or_ge j xs.length with h | h
            · exact h
            · rw [List.getElem?_eq_none h] at hq; cases hq
          obtain ⟨ad, e2, hc⟩ := Kd.at_int hC (j : Int) (by omega) (by omega)
          rw [ha] at e2
          cases e2
          have hrd : rd xs (j : Int) = p := by
            show xs.getD ((j : Int)).toNat 0 = p
            rw [Int.toNat_natCast, List.getD, hq]; rfl
          rw [Int.toNat_natCast, hrd] at hc
          simp at hv
          rw [hc, hv]
      · cases hv) (by rw [hml]; omega) (fun v hv => by obtain ⟨p, _, rfl⟩ := List.mem_map.1 hv; rfl)
  rw [hm] at hrun ⊢
  rw [hml] at hrun
  have hol : (out.take f ++ xs.take d ++ out.drop (f + m)).length = out.length := by
    have : (xs.take d).length = m := by simpa using hml
    simp only [List.length_append, this, List.length_take, List.length_drop]; omega
  have htake : (cur.toList.take f ++ (xs.take d).map (Value.int k) ++ cur.toList.drop (f + m)).take out.length = (out.take f ++ xs.take d ++ out.drop (f + m)).map (Value.int k) := by
    have h1 : cur.toList.length = cap := by rw [Array.length_toList]; exact hcs
    have e1 : cur.toList.take f = (out.map (Value.int k)).take f := by rw [← htk, List.take_take, Nat.min_eq_left (by omega)]
    have e2 : cur.toList.drop (f + m) = (out.map (Value.int k)).drop (f + m) ++ cur.toList.drop out.length := by
      have e3 : cur.toList = out.map (Value.int k) ++ cur.toList.drop out.length := by rw [← htk, List.take_append_drop]
      have e4 : cur.toList.drop (f + m) = (out.map (Value.int k) ++ cur.toList.drop out.length).drop (f + m) := congrArg (List.drop (f + m)) e3
      rw [e4, List.drop_append_of_le_length (by rw [List.length_map]; omega)]
    rw [e1, e2, ← List.append_assoc, ← List.map_take, ← List.map_drop, ← List.map_append, ← List.map_append]
    exact List.take_left' (by rw [List.length_map]; exact hol)
  refine ⟨_, hrun, ⟨h0, (out.take f ++ xs.take d ++ out.drop (f + m)).map (Value.int k), ⟨by rw [List.length_map, z1, Nat.mul_one], Or.inr ⟨g, cap, _, by rw [hol], hbg, setRow_heap W g cur _ e _ hg, by rw [hol]; exact hnc, hcm, ?_, ?_⟩⟩, ⟨by rw [List.length_map, z1, Nat.mul_one], fun j p hj => ?_⟩⟩, ⟨rfl, rfl, rfl, by simp [World.setRow], fun k hk hne => setRow_other W g k _ (fun e => hne (by rw [e]))⟩⟩
  · rw [List.size_toArray, List.length_append, List.length_append, hml, List.length_take, List.length_drop, Array.length_toList, z1]; omega
  · rw [hol, z1, Nat.mul_one]; exact htake
  · rw [z1, Nat.mul_one, ← List.map_drop]
    have hlt : j < (out.take f ++ xs.take d ++ out.drop (f + m)).length := by
      rcases Nat.lt_or_ge j (out.take f ++ xs.take d ++ out.drop (f + m)).length with h | h
      · exact h
      · rw [List.getElem?_eq_none h] at hj; cases hj
    rw [List.drop_eq_getElem_cons hlt, List.map_cons, List.take_succ_cons, List.take_zero]
    rw [List.getElem?_eq_getElem hlt] at hj
    rw [Option.some.inj hj]
    exact rfl
def sameL (x y : SO) : Bool := decide (x.f2 = y.f2 ∧ x.f3 = y.f3)
def levN (l : List SO) (x : SO) : Nat → Nat → Nat
  | 0, t => t
  | k + 1, t => if h : t < l.length then (if sameL l[t] x = true then levN l x k (t + 1) else t) else t
theorem levN_range (l : List SO) (x : SO) : ∀ (k t : Nat), t ≤ levN l x k t ∧ (t ≤ l.length → levN l x k t ≤ l.length)
  | 0, t => ⟨Nat.le_refl _, fun h => h⟩
  | k + 1, t => by
    rw [levN]
    split
    · split
      · have := levN_range l x k (t + 1); omega
      · omega
    · omega
set_option maxHeartbeats 8000000 in
set_option maxRecDepth 100000 in
theorem call_level (W : World) (gL : Nat) (A : Option Addr) (c : Nat) (l : List SO) (n : Nat) (hn : l.length = n) (hC : KO.C W A l.length l) (hz : W.cell? ⟨gL, 0, none⟩ = some (.slice A n c)) (hl : n < 1000000) (fr : Nat) (hfr : fr < l.length) :
    Calls Try.prog 22 #[.int .i64 fr, .pointer (some ⟨gL, 0, none⟩)] W fun e w' => e = .returned (.int .i64 (levN l l[fr] n fr)) ∧ Below W.heap.size W w' := by
  have mixed : Try.prog.follows .mixedOrders = true := by kernel_rfl
  obtain ⟨y, hy⟩ : ∃ y, l[fr] = y := ⟨_, rfl⟩
  obtain ⟨ad, rfl, q0, q1, q2, q3, q4, q5⟩ := at_T42 hC (fr : Int) (by omega) (by omega)
  have hrd : rd_T42 l (fr : Int) = y := by rw [← hy]; simp [rd_T42, List.getD_eq_getElem?_getD, List.getElem?_eq_getElem hfr]
  rw [hrd] at q2 q3
  rw [hy]
  obtain ⟨y0, y1, y2, y3, y4, y5⟩ := y
  dsimp only at q2 q3
  have HC := Aside0.mk hC
  have HN := Aside0.mk hn
  obtain ⟨fz, hfz⟩ : ∃ z : Int, (fr : Int) = z := ⟨_, rfl⟩
  rw [hfz] at q2 q3 ⊢
  have hf0 : 0 ≤ fz := by omega
  have hfn : fz < (n : Int) := by omega
  have HFZ := Aside0.mk hfz
  have HFR := Aside0.mk hfr
  obtain ⟨RES, hres⟩ : ∃ r, levN l ⟨y0, y1, y2, y3, y4, y5⟩ n fr = r := ⟨_, rfl⟩
  rw [hres]
  have HRES := Aside0.mk hres
  have Q2 := fun (W' : World) (hb : Below W.heap.size W W') => (hb.cell (World.block_lt_of_cell? W _ q2)).trans q2
  have Q3 := fun (W' : World) (hb : Below W.heap.size W W') => (hb.cell (World.block_lt_of_cell? W _ q3)).trans q3
  have ZZ := fun (W' : World) (hb : Below W.heap.size W W') => (hb.cell (World.block_lt_of_cell? W _ hz)).trans hz
  have HQ := Aside0.mk (And.intro Q2 (And.intro Q3 ZZ))
  clear hrd hC hn hy hfz hfr hres q0 q1 q2 q3 q4 q5 Q2 Q3 ZZ hz
  go_enter Try.func22, Try.ntmps22
  go_wp2
  go_loopg [4] n (fun g1 v4 wr => ∃ (t : Nat) (tz : Int) (k : Nat), v4 = .int .i64 tz ∧ Aside0 (tz = t) ∧ 0 ≤ tz ∧ tz ≤ n ∧ n ≤ t + g1 ∧ n ≤ t + k ∧ t ≤ n ∧ Aside0 (levN l ⟨y0, y1, y2, y3, y4, y5⟩ k t = RES) ∧ Aside0 (Below W.heap.size W wr))
  case atStart => exact ⟨fr, fz, n, rfl, ⟨HFZ.out.symm⟩, hf0, by omega, by omega, by omega, by have := HFZ.out; omega, ⟨HRES.out⟩, ⟨Below.refl _ _⟩⟩
  case round =>
    obtain ⟨t, tz, k, rfl, HT, h0, h1, hg, hk, htn, HO, HB⟩ := hrel
    have b0 : wr.cell? ⟨gL, 0, none⟩ = some (.slice (some ad) n c) := HQ.out.2.2 _ HB.out
    have b2 : wr.cell? ⟨(ad.add (fz.toNat * 6)).block, (ad.add (fz.toNat * 6)).off + 2, none⟩ = some (.int .i64 y2) := HQ.out.1 _ HB.out
    have b3 : wr.cell? ⟨(ad.add (fz.toNat * 6)).block, (ad.add (fz.toNat * 6)).off + 3, none⟩ = some (.int .i64 y3) := HQ.out.2.1 _ HB.out
    by_cases hlt : t < n
    · have hltz : tz < (n : Int) := by have := HT.out; omega
      obtain ⟨k, rfl⟩ : ∃ k', k = k' + 1 := ⟨k - 1, by omega⟩
      have hx : t < l.length := by rw [HN.out]; exact hlt
      obtain ⟨ad2, e2, r0, r1, r2, r3, r4, r5⟩ := at_T42 HC.out tz h0 (by rw [HN.out]; exact hltz)
      cases e2
      have hrd : rd_T42 l tz = l[t] := by
        have : tz.toNat = t := by have := HT.out; omega
        show l.getD tz.toNat _ = _
        rw [this, List.getD, List.getElem?_eq_getElem hx]; rfl
      have hO := HO.out
      rw [levN, dif_pos hx] at hO
      rw [hrd] at r2 r3
      obtain ⟨x, hxx⟩ : ∃ x, l[t] = x := ⟨_, rfl⟩
      rw [hxx] at r2 r3 hO
      obtain ⟨x0, x1, x2, x3, x4, x5⟩ := x
      dsimp only at r2 r3
      have d2 : wr.cell? ⟨(ad.add (tz.toNat * 6)).block, (ad.add (tz.toNat * 6)).off + 2, none⟩ = some (.int .i64 x2) := (HB.out.cell (World.block_lt_of_cell? W _ r2)).trans r2
      have d3 : wr.cell? ⟨(ad.add (tz.toNat * 6)).block, (ad.add (tz.toNat * 6)).off + 3, none⟩ = some (.int .i64 x3) := (HB.out.cell (World.block_lt_of_cell? W _ r3)).trans r3
      have wi : IntKind.i64.wrap (tz + 1) = tz + 1 := by have := HT.out; rw [IntKind.wrap_i64]; omega
      have HO2 := Aside0.mk hO
      clear hrd hxx hx hO r0 r1 r2 r3 r4 r5 HO
      by_cases e2 : x2 = y2
      · have f2 : (x2 == y2) = true := by rw [e2]; simp
        by_cases e3 : x3 = y3
        · have f3 : (x3 == y3) = true := by rw [e3]; simp
          have HS : Aside0 (sameL ⟨x0, x1, x2, x3, x4, x5⟩ ⟨y0, y1, y2, y3, y4, y5⟩ = true) := ⟨decide_eq_true ⟨e2, e3⟩⟩
          clear e2 e3
          go_wp2_with fail
          go_quiet (fail)
          go_wp2
          go_roundg (n - (t + 1))
          case measure => omega
          case rel => exact ⟨t + 1, tz + 1, k, rfl, ⟨by rw [HT.out]; rfl⟩, by omega, by have := HT.out; omega, by omega, by omega, by omega, ⟨by have := HO2.out; rw [if_pos HS.out] at this; exact this⟩, ⟨pw_below_drewN HB.out _⟩⟩
        · have f3 : (x3 == y3) = false := by rw [beq_eq_false_iff_ne]; exact e3
          have HS : Aside0 (¬ sameL ⟨x0, x1, x2, x3, x4, x5⟩ ⟨y0, y1, y2, y3, y4, y5⟩ = true) := ⟨fun h => e3 (of_decide_eq_true h).2⟩
          clear e2 e3
          go_wp2_with fail
          go_quiet (fail)
          go_wp2
          go_ret
          exact ⟨by have := HO2.out; rw [if_neg HS.out] at this; rw [← this, ← HT.out]; rfl, pw_below_drewN HB.out _⟩
      · have f2 : (x2 == y2) = false := by rw [beq_eq_false_iff_ne]; exact e2
        have HS : Aside0 (¬ sameL ⟨x0, x1, x2, x3, x4, x5⟩ ⟨y0, y1, y2, y3, y4, y5⟩ = true) := ⟨fun h => e2 (of_decide_eq_true h).1⟩
        clear e2
        go_wp2_with fail
        go_quiet (fail)
        go_wp2
        go_ret
        exact ⟨by have := HO2.out; rw [if_neg HS.out] at this; rw [← this, ← HT.out]; rfl, pw_below_drewN HB.out _⟩
    · have hltz : decide (tz < (n : Int)) = false := decide_eq_false (by have := HT.out; omega)
      have hO : t = RES := by
        have := HO.out
        cases k with
        | zero => exact this
        | succ k => rw [levN, dif_neg (by rw [HN.out]; exact hlt)] at this; exact this
      have HO2 := Aside0.mk hO
      clear hO hlt
      go_wp2_with fail
      go_quiet (fail)
      go_wp2
      go_ret
      exact ⟨by rw [← HO2.out, ← HT.out]; rfl, pw_below_drewN HB.out _⟩
abbrev KI := Kd.int .i64
theorem cut_lh {P : Program} (t e : TypeId) (z : Nat) (ht : P.underlying t = some (.slice e)) (hs : (P.info? e).map (·.size) = some z) (A : Option Addr) (n c : Nat) (l h : Int) (h0 : 0 ≤ l) (h1 : l ≤ h) (hc : h ≤ c) (W : World) :
    (Instr.slice t (.slice A n c) (some (.int .i64 l)) (some (.int .i64 h)) none).run P W = .ok (.slice (if c = l.toNat then A else A.map (·.add (l.toNat * z))) (h.toNat - l.toNat) (c - l.toNat)) W := by
  cases hq : P.info? e with
  | none => simp [hq] at hs
  | some i =>
    have hi : i.size = z := by simpa [hq] using hs
    have hel : P.elem t = e := by simp [Program.elem, ht]
    have hu : P.underlying t = some (.slice (P.elem t)) := by rw [hel]; exact ht
    rw [run_slice_lh W t A n c hu .i64 .i64 l h h0 h1 hc, hel]
    simp [sizeOf, typeInfo, hq, hi, sliced, Result.andThen]
theorem C_cutO {w : World} {A : Option Addr} {xs : List SO} {c l h : Nat} (hC : KO.C w A xs.length xs) (hc : xs.length ≤ c) (h1 : l ≤ h) (h2 : h ≤ xs.length) : KO.C w (if c = l then A else A.map (·.add (l * 6))) ((xs.take h).drop l).length ((xs.take h).drop l) := by
  have := Kd.C_take hC h2
  exact Kd.C_drop (c := c) this (by rw [List.length_take]; omega) (by rw [List.length_take]; omega)
theorem C_cutI {w : World} {A : Option Addr} {xs : List Int} {c l h : Nat} (hC : KI.C w A xs.length xs) (hc : xs.length ≤ c) (h1 : l ≤ h) (h2 : h ≤ xs.length) : KI.C w (if c = l then A else A.map (·.add (l * 1))) ((xs.take h).drop l).length ((xs.take h).drop l) := by
  have := Kd.C_take hC h2
  exact Kd.C_drop (c := c) this (by rw [List.length_take]; omega) (by rw [List.length_take]; omega)
theorem own_some {α : Type} {d : Kd α} {e n c base : Nat} {ok : Nat → Prop} {A : Option Addr} {xs : List α} {w : World} (h : d.R e w base ok (.slice A n c) xs) (hp : 0 < xs.length) : ∃ g, A = some ⟨g, 0, none⟩ ∧ n ≤ c := by
  obtain ⟨_, inner, ⟨hil, hcase⟩, _⟩ := h
  rcases hcase with ⟨e1, e2⟩ | ⟨g, cap, cur, e1, _, _, hnc, _⟩
  · exact absurd hp (by omega)
  · injection e1 with a b c'
    subst b c'
    exact ⟨g, a, hnc⟩
theorem copy_off_step {P : Program} {W W' : World} {ops : Array Oper} {o : Oper} {a : Act} {Kc : Act → World → Prop} {Q : Exit → Act → World → Prop} {dT sT : TypeId} {V1 V2 v : Value} (hw : Region.wanted o (yielded ops a.tmps) = true) (dO sO : Operand) (ho : o.op = .call { callee := .builtin .copy, args := #[dO, sO], argTypes := #[dT, sT] }) (hd : a.eval dO = V1) (hs : a.eval sO = V2)
    (hrun : (Builtin.copy_ #[dT, sT] o.type #[V1, V2]).run P W = .ok v W') (h : Kc (a.put o.dst v) W') : if Region.wanted o (yielded ops a.tmps) = true then Oper.wp P o a W Kc Q else Kc (a.put o.dst undef) W := by
  rw [if_pos hw]
  unfold Oper.wp
  simp [execOp, ho, resolve, invoke, builtin, hd, hs, hrun, Result.andThen]
  exact h
theorem step_named {P : Program} {c : Bool} {o : Oper} {a : Act} {W : World} {Kc : Act → World → Prop} {Q : Exit → Act → World → Prop} (h : ∀ w', w' = W → if c = true then Oper.wp P o a w' Kc Q else Kc (a.put o.dst undef) w') : if c = true then Oper.wp P o a W Kc Q else Kc (a.put o.dst undef) W := h _ rfl
def subAll (v : Int) : List Int → Int
  | [] => v
  | n :: l => subAll (wrap64 (v - n)) l
def sideOut (k : Nat) (l : List SO) (side price mode lot vol : Int) (fr tt : Nat) (x : SO) (out : List Int) : Option (List Int) :=
  if x.f2 = side ∧ cr x price = true then (share_Share.f k mode ((l.take tt).drop fr) vol lot).map fun xs => out.take fr ++ xs.take (tt - fr) ++ out.drop (fr + Nat.min xs.length (tt - fr)) else some out
def sideGo (k : Nat) (l : List SO) (side price mode lot : Int) : Nat → Nat → Int → List Int → Option (List Int)
  | 0, _, _, _ => none
  | m + 1, fr, vol, out => if h : fr < l.length then
      (sideOut k l side price mode lot vol fr (levN l l[fr] l.length fr) l[fr] out).bind fun o => sideGo k l side price mode lot m (levN l l[fr] l.length fr) (subAll vol ((o.drop fr).take (levN l l[fr] l.length fr - fr))) o
    else some out
theorem levN_gt (l : List SO) (fr : Nat) (h : fr < l.length) : fr < levN l l[fr] l.length fr := by
  obtain ⟨k, hk⟩ : ∃ k, l.length = k + 1 := ⟨l.length - 1, by omega⟩
  have e : levN l l[fr] l.length fr = levN l l[fr] k (fr + 1) := by
    rw [hk, levN, dif_pos h, if_pos (by simp [sameL])]
  rw [e]
  have := (levN_range l l[fr] k (fr + 1)).1
  omega
theorem sideOut_len {k : Nat} {l : List SO} {side price mode lot vol : Int} {fr tt : Nat} {x : SO} {out o : List Int} (h : sideOut k l side price mode lot vol fr tt x out = some o) (ho : fr ≤ tt ∧ tt ≤ out.length) : o.length = out.length := by
  unfold sideOut at h
  split at h
  · obtain ⟨xs, _, e⟩ := Option.map_eq_some_iff.1 h
    subst e
    have : Nat.min xs.length (tt - fr) ≤ tt - fr := Nat.min_le_right _ _
    have e2 : Nat.min xs.length (tt - fr) = min (tt - fr) xs.length := Nat.min_comm _ _
    simp only [List.length_append, List.length_take, List.length_drop]
    omega
  · rw [← Option.some.inj h]
set_option maxHeartbeats 8000000 in
set_option maxRecDepth 100000 in
theorem call_side_go (W : World) (A0 : Option Addr) (c0 : Nat) (l : List SO) (hC : KO.C W A0 l.length l) (hc0 : l.length ≤ c0) (hbk : order_Book.f l = some true) (hlen : l.length ≤ 64) (k : Nat) (side price vol mode lot : Int) (hv : 1 ≤ vol ∧ vol ≤ 4611686018427387904) (hlo : 1 ≤ lot ∧ lot ≤ 1099511627776) (hmo : mode = 1 ∨ mode = 2) (r : List Int) (hr : sideGo k l side price mode lot (l.length + 1) 0 vol (List.replicate l.length 0) = some r) :
    Calls Try.prog 12 #[.slice A0 l.length c0, .int .i64 side, .int .i64 price, .int .i64 vol, .int .i64 mode, .int .i64 lot] W fun e w' => ∃ v, e = .returned v ∧ Kd.R KI 2 w' W.heap.size (fun _ => True) v r ∧ Below W.heap.size W w' := by
  have mixed : Try.prog.follows .mixedOrders = true := by kernel_rfl
  have HC := Aside0.mk hC
  have HC0 := Aside0.mk hc0
  obtain ⟨n, hn⟩ : ∃ x, l.length = x := ⟨_, rfl⟩
  have HBK := Aside0.mk (fun (w' : World) (hb : Below W.heap.size W w') => order_Book.calls A0 c0 l true w' (Kd.C_below hC hb) hc0 hbk)
  rw [hn] at hlen HBK hr ⊢
  have HN := Aside0.mk hn
  have HR := Aside0.mk hr
  have S0 := St.start W (fun _ => False)
  have v1 : decide (vol < 1) = false := decide_eq_false (by omega)
  have v2 : decide (4611686018427387904 < vol) = false := decide_eq_false (by omega)
  have v3 : decide (lot < 1) = false := decide_eq_false (by omega)
  have v4 : decide (1099511627776 < lot) = false := decide_eq_false (by omega)
  have v5 : (mode != 1 && mode != 2) = false := by rcases hmo with rfl | rfl <;> rfl
  have v6 : (mode == 1) = true ∨ ((mode == 1) = false ∧ (mode == 2) = true) := by rcases hmo with rfl | rfl; exact .inl rfl; exact .inr ⟨rfl, rfl⟩
  clear hC hc0 hbk hn hr hv hlo hmo
  go_enter Try.func12, Try.ntmps12
  have v7 : (mode != 1) = false ∨ ((mode != 1) = true ∧ (mode != 2) = false) := by
    rcases v6 with h | ⟨h, h'⟩
    · exact .inl (by rw [bne, h]; rfl)
    · exact .inr ⟨by rw [bne, h]; rfl, by rw [bne, h']; rfl⟩
  clear v6 v5
  rcases v7 with v7 | ⟨v7, v8⟩
  all_goals
    go_wp2_with (first
      | ((with_reducible refine gate_dst (N := 6) rfl ?_); refine box_event ?hg (N := 6) ?hd (cs := #[.slice A0 n c0]) (t := 22) ?hr ?_; (case hd => rfl); (case hg => rfl); (case hr => first | (go_simp; done) | (go_simp; rfl)); intro gL hg_ w1 hbB hb; have S1 := S0.box hg_ hb hbB; clear S0 hg_ hbB hb; have zL : w1.cell? ⟨gL, 0, none⟩ = some (.slice A0 n c0) := (blk_cell (S1.blk 0 rfl) 0).trans rfl)
      | (go_at_call 16; refine (HBK.out w1 S1.below).mono ?_; rintro e w2 ⟨rfl, hb⟩; have S2 := S1.call hb; have zL : w2.cell? ⟨gL, 0, none⟩ = some (.slice A0 n c0) := (blk_cell (S2.blk 0 rfl) 0).trans rfl; clear S1 hb)
      | ((with_reducible refine gate_dst (N := 48) rfl ?_); refine Kd.R_make KI (w0 := w2) w2.heap.size 2 rfl (N := 48) rfl 31 _ _ rfl (n : Int) rfl rfl Try.underlying31 (.int .i64 0) 8 info2 rfl (by decide) (by omega) 0 (ok := fun _ => True) (okp := fun _ => True) rfl (fun _ hk => hk) trivial (by omega) (by omega) (Below.refl _ _) (Nat.le_refl _) ?_; intro v3 w3 ho3 hb3 hg3 hnew3; rw [Int.toNat_natCast] at ho3; have S3 := S2.row hb3 ho3; clear hg3 hnew3 S2 zL ho3 hb3))
    obtain ⟨ok3, h3⟩ := S3.rd 0 rfl
    obtain ⟨A3, c3, e3⟩ := Kd.R_slice h3
    rw [List.length_replicate] at e3
    subst e3
    clear h3
    have HS := Aside0.mk S3
    clear S3
    go_loopg [3, 15, 16, 18] n (fun g1 v3 v15 v16 v18 wr => ∃ (fr m : Nat) (fz vol' : Int) (out : List Int), v3 = .int .i64 vol' ∧ v15 = .int .i64 fz ∧ Aside0 (fz = fr) ∧ 0 ≤ fz ∧ fz ≤ n ∧ n ≤ fr + g1 ∧ n < fr + m ∧ fr ≤ n ∧ Aside0 (out.length = n) ∧ Aside0 (sideGo k l side price mode lot m fr vol' out = some r) ∧ Aside0 (St W (fun _ => False) wr [Rw KI 2 (.slice A3 n c3) out, Pt gL #[.slice A0 n c0] 22]))
    case atStart => exact ⟨0, n + 1, 0, vol, List.replicate n 0, rfl, rfl, ⟨rfl⟩, by omega, by omega, by omega, by omega, by omega, ⟨by simp⟩, HR, HS⟩
    case round =>
      clear HS
      obtain ⟨fr, m, fz, vol', out, rfl, rfl, HF, hf0, hfn, hg, hm, hfr, HOL, HO, HS⟩ := hrel
      have zL : wr.cell? ⟨gL, 0, none⟩ = some (.slice A0 n c0) := (blk_cell (HS.out.blk 1 rfl) 0).trans rfl
      by_cases hlt : fr < n
      · have hltz : fz < (n : Int) := by have := HF.out; omega
        obtain ⟨m, rfl⟩ : ∃ m', m = m' + 1 := ⟨m - 1, by omega⟩
        have hx : fr < l.length := by rw [HN.out]; exact hlt
        have hO := HO.out
        rw [sideGo, dif_pos hx] at hO
        have hgt := levN_gt l fr hx
        have hle := (levN_range l l[fr] l.length fr).2 (by omega)
        have KLV := fun (w' : World) (hb : Below W.heap.size W w') (hz : w'.cell? ⟨gL, 0, none⟩ = some (.slice A0 n c0)) => call_level w' gL A0 c0 l n HN.out (Kd.C_below HC.out hb) hz (by omega) fr hx
        have hff := HF.out
        simp only [← hff] at KLV
        rw [HN.out] at hO hgt hle
        obtain ⟨tt, htt⟩ : ∃ t, levN l l[fr] n fr = t := ⟨_, rfl⟩
        rw [htt] at hO hgt hle KLV
        obtain ⟨ad, rfl, q0, q1, q2, q3, q4, q5⟩ := at_T42 HC.out fz hf0 (by rw [HN.out]; exact hltz)
        have hrd : rd_T42 l fz = l[fr] := by
          have : fz.toNat = fr := by have := HF.out; omega
          show l.getD fz.toNat _ = _
          rw [this, List.getD, List.getElem?_eq_getElem hx]; rfl
        rw [hrd] at q2 q3
        obtain ⟨x, hxx⟩ : ∃ x, l[fr] = x := ⟨_, rfl⟩
        rw [hxx] at q2 q3 hO
        have HKL := Aside0.mk KLV
        obtain ⟨o, ho, hO⟩ := Option.bind_eq_some_iff.mp hO
        have HOO := Aside0.mk ho
        have HO2 := Aside0.mk hO
        have HGT := Aside0.mk (And.intro hgt hle)
        obtain ⟨tz, htz⟩ : ∃ z : Int, (tt : Int) = z := ⟨_, rfl⟩
        have HTZ := Aside0.mk htz
        rw [htz] at HKL
        have hcx := crosses_eq x price
        obtain ⟨x0, x1, x2, x3, x4, x5⟩ := x
        dsimp only at q2 q3 hcx
        have HB := Aside0.mk HS.out.below
        replace q2 := (HB.out.cell (World.block_lt_of_cell? W _ q2)).trans q2
        replace q3 := (HB.out.cell (World.block_lt_of_cell? W _ q3)).trans q3
        have S4 := HS.out
        have HFS : Aside0 (fz = fr ∧ (fz.toNat = fr)) := ⟨by have := HF.out; omega⟩
        clear hO ho KLV hrd hxx hx hgt hle htz htt q0 q1 q4 q5 HO hff
        go_upto_region 10 with (first
          | (go_at_call 22; refine (HKL.out wr HB.out zL).mono ?_; rintro e w5 ⟨rfl, hb⟩; have S5 := S4.call hb; have zL : w5.cell? ⟨gL, 0, none⟩ = some (.slice (some ad) n c0) := (blk_cell (S5.blk 1 rfl) 0).trans rfl; replace q2 := (hb.cell (World.block_lt_of_cell? wr _ q2)).trans q2; replace q3 := (hb.cell (World.block_lt_of_cell? wr _ q3)).trans q3; have HB5 := Aside0.mk (below_step HB.out hb); clear hb S4))
        obtain ⟨cb, hcb⟩ : ∃ c, decide (x2 = side ∧ cr ⟨x0, x1, x2, x3, x4, x5⟩ price = true) = c := ⟨_, rfl⟩
        have HCB := Aside0.mk hcb
        obtain ⟨cc, hcc⟩ : ∃ c, cr ⟨x0, x1, x2, x3, x4, x5⟩ price = c := ⟨_, rfl⟩
        rw [hcc] at hcx hcb
        go_cut [73] from 57 to 73 (fun v73 wc => v73 = .bool cb ∧ Aside0 (St W (fun _ => False) wc [Rw KI 2 (.slice A3 n c3) out, Pt gL #[.slice (some ad) n c0] 22]))
        case first =>
          by_cases e2 : x2 = side
          · subst e2
            have hcx2 : ∀ w' : World, Calls Try.prog 23 #[.int .i64 x2, .int .i64 x3, .int .i64 price] w' fun e w'' => e = .returned (.bool cc) ∧ Below w'.heap.size w' w'' := fun w' => (order_Crosses.calls x2 x3 price cc w' hcx).mono (fun e w'' ⟨he, hd⟩ => ⟨he, hd.below⟩)
            have HEB : Aside0 (cb = cc) := ⟨by rw [← hcb]; cases cc <;> simp⟩
            have HCX := Aside0.mk hcx2
            clear hcb hcc hcx hcx2
            go_wp2_with (go_at_call 23; refine (HCX.out _).mono ?_; rintro e w6 ⟨rfl, hb⟩; have S6 := S5.call hb; clear hb)
            all_goals go_meet
            all_goals exact ⟨by rw [HEB.out], ⟨S6⟩⟩
          · have e2b : (x2 == side) = false := by rw [beq_eq_false_iff_ne]; exact e2
            have HEB : Aside0 (cb = false) := ⟨by rw [← hcb]; exact decide_eq_false (fun h => e2 h.1)⟩
            clear hcb hcc hcx e2
            go_wp2_with fail
            all_goals go_meet
            all_goals exact ⟨by rw [HEB.out], ⟨S5⟩⟩
        case rest =>
          obtain ⟨rfl, HS6⟩ := hcut
          clear S5 hcb hcc hcx
          go_upto_if 73 with fail
          go_cut [] from 74 to 86 (fun wd => Aside0 (St W (fun _ => False) wd [Rw KI 2 (.slice A3 n c3) o, Pt gL #[.slice (some ad) n c0] 22]))
          case first =>
            have S6 := HS6.out
            have ho := HOO.out
            rw [sideOut] at ho
            cases cb with
            | false =>
              rw [if_neg (of_decide_eq_false HCB.out)] at ho
              obtain rfl := Option.some.inj ho
              clear ho
              go_wp2
              go_meet
              exact ⟨S6⟩
            | true =>
              rw [if_pos (of_decide_eq_true HCB.out)] at ho
              obtain ⟨xs, hxs, ho⟩ := Option.map_eq_some_iff.1 ho
              obtain ⟨ok6, h6⟩ := S6.rd 0 rfl
              obtain ⟨gO, rfl, hnc⟩ := own_some h6 (by rw [HOL.out]; omega)
              have z6 : wc.cell? ⟨gL, 0, none⟩ = some (.slice (some ad) n c0) := (blk_cell (S6.blk 1 rfl) 0).trans rfl
              have HXL := Aside0.mk hnc
              obtain ⟨AL, hAL⟩ : ∃ A, (if c0 = fr then some ad else (some ad).map (·.add (fr * 6))) = A := ⟨_, rfl⟩
              have hcutL : ∀ W' : World, (Instr.slice 22 (.slice (some ad) n c0) (some (.int .i64 fz)) (some (.int .i64 tz)) none).run Try.prog W' = .ok (.slice AL (tt - fr) (c0 - fr)) W' := fun W' => by
                have a := HGT.out; have b := HFS.out; have d := HTZ.out; have e := HC0.out; have f := HN.out
                rw [cut_lh 22 42 6 Try.underlying22 (by kernel_rfl) (some ad) n c0 fz tz (by omega) (by omega) (by omega) W', b.2, show tz.toNat = tt by omega, hAL]
              have hcutO : ∀ W' : World, (Instr.slice 31 (.slice (some ⟨gO, 0, none⟩) n c3) (some (.int .i64 fz)) (some (.int .i64 tz)) none).run Try.prog W' = .ok (.slice (some ⟨gO, fr, none⟩) (tt - fr) (c3 - fr)) W' := fun W' => by
                have a := HGT.out; have b := HFS.out; have d := HTZ.out
                rw [cut_lh 31 2 1 Try.underlying31 (by kernel_rfl) (some ⟨gO, 0, none⟩) n c3 fz tz (by omega) (by omega) (by omega) W', b.2, show tz.toNat = tt by omega, if_neg (show ¬ c3 = fr by have := HXL.out; omega)]
                simp only [Option.map_some, Addr.add, Nat.zero_add, Nat.mul_one]
                split
                · rename_i h; rw [h]
                · rfl
              have hCL := C_cutO (w := W) HC.out HC0.out (l := fr) (h := tt) (by have := HGT.out; omega) (by have := HGT.out; rw [HN.out]; omega)
              rw [hAL] at hCL
              have hll : ((l.take tt).drop fr).length = tt - fr := by have a := HGT.out; have f := HN.out; rw [List.length_drop, List.length_take]; omega
              have KSH := Aside0.mk (fun (w' : World) (hb : Below W.heap.size W w') => share_Share.calls k mode AL (c0 - fr) ((l.take tt).drop fr) vol' lot xs w' (Kd.C_below hCL hb) (by have := HC0.out; have := HGT.out; have := HN.out; rw [hll]; omega) hxs)
              rw [hll] at KSH
              have HB6 := Aside0.mk S6.below
              have HOE := Aside0.mk ho
              clear h6 hAL hCL hll ho hxs hnc
              go_wp2_with fail
              go_region_law (first
                | (go_simp; go_at_call 24; refine Calls.named ?_; intro v7 hv; have hB7 : Below wc.heap.size wc v7 := (by rw [hv]; with_reducible first | exact Below.refl _ _ | exact below_drew1 (Below.refl _ _) | exact below_drew1 (below_drew1 (Below.refl _ _))); clear hv; (with_reducible refine (KSH.out v7 (below_step HB6.out hB7)).mono ?_); rintro e w7 ⟨vs, rfl, hR, hb⟩; obtain ⟨As, cs, es⟩ := Kd.R_slice hR; subst es; have S7 := (S6.call hB7).row hb hR; have HR7 := Aside0.mk (Kd.R_reads' hR).2; have z7 : w7.cell? ⟨gL, 0, none⟩ = some (.slice (some ad) n c0) := (blk_cell (S7.blk 2 rfl) 0).trans rfl; clear hR hb hB7)
                | ((with_reducible refine step_named ?_); intro w8 hw8; have hB8 : Below w7.heap.size w7 w8 := (by rw [hw8]; with_reducible first | exact Below.refl _ _ | exact below_drew1 (Below.refl _ _) | exact below_drew1 (below_drew1 (Below.refl _ _))); clear hw8; have S8 := S7.call hB8; obtain ⟨F8, hA8, hF8, up8⟩ := (S8.front 1 rfl).upd; obtain ⟨w9, hrun, hR9, hg9⟩ := copy_off (P := Try.prog) (W := w8) (f := fr) (d := tt - fr) (c' := c3 - fr) (c := cs) 31 31 3 Try.underlying31 (by kernel_rfl) hA8 (by have := HGT.out; omega) (Kd.C_below HR7.out.2 hB8); rw [HOE.out] at hR9; have S9 := ((up8 w9 (Rw KI 2 (.slice (some ⟨gO, 0, none⟩) n c3) o) F8 (Fr.of_grown hg9 (fun k hk => by obtain rfl := Option.some.inj hk; exact hA8.1 _ rfl)) (fun k hk => .inl hk) Rw.loc hR9).front 1 rfl).drop; refine copy_off_step (by rfl) (.tmp 77) (.tmp 85) rfl rfl rfl hrun ?_; clear hrun hR9 hg9 hA8 hF8 up8 hB8))
              go_wp2
              go_meet
              exact ⟨S9⟩
          case rest =>
            have S8 := hcut.out
            clear HS6
            have hoL : o.length = n := (sideOut_len HOO.out (by have := HGT.out; have := HOL.out; omega)).trans HOL.out
            obtain ⟨ok8, h8⟩ := S8.rd 0 rfl
            obtain ⟨gO, rfl, hnc⟩ := own_some h8 (by omega)
            obtain ⟨AO, hAO⟩ : ∃ A, (if c3 = fr then some (⟨gO, 0, none⟩ : Addr) else (some (⟨gO, 0, none⟩ : Addr)).map (·.add (fr * 1))) = A := ⟨_, rfl⟩
            obtain ⟨os, hos⟩ : ∃ x, (o.drop fr).take (tt - fr) = x := ⟨_, rfl⟩
            have hos2 : (o.take tt).drop fr = os := by rw [List.drop_take]; exact hos
            have hCO := C_cutI (w := wc) (Kd.R_reads' h8).2.2 (c := c3) (l := fr) (h := tt) (by omega) (by have := HGT.out; omega) (by have := HGT.out; omega)
            rw [hAO, hos2] at hCO
            have hosl : os.length = tt - fr := by rw [← hos2, List.length_drop, List.length_take]; have := HGT.out; omega
            rw [hos] at HO2
            obtain ⟨m1, hm1⟩ : ∃ x, tt - fr = x := ⟨_, rfl⟩
            rw [hm1] at hosl
            have hcutO : ∀ W' : World, (Instr.slice 31 (.slice (some ⟨gO, 0, none⟩) n c3) (some (.int .i64 fz)) (some (.int .i64 tz)) none).run Try.prog W' = .ok (.slice AO m1 (c3 - fr)) W' := fun W' => by
              have a := HGT.out; have b := HFS.out; have d := HTZ.out
              rw [cut_lh 31 2 1 Try.underlying31 (by kernel_rfl) (some ⟨gO, 0, none⟩) n c3 fz tz (by omega) (by omega) (by omega) W', b.2, show tz.toNat = tt by omega, hAO, hm1]
            obtain ⟨c4, hc4⟩ : ∃ x, c3 - fr = x := ⟨_, rfl⟩
            rw [hc4] at hcutO
            have HCO := Aside0.mk hCO
            have HOSL := Aside0.mk hosl
            have HM1 := Aside0.mk hm1
            have HS8 := Aside0.mk S8
            have hm1b : m1 ≤ n := by have := HGT.out; omega
            clear hCO hos2 hos hAO hosl hm1 h8 hnc S8 hcut hc4
            go_upto_region 13 with fail
            go_loopg [3, 18, 92] m1 (fun g2 v3 v18 v92 wi => ∃ (j : Nat) (jz vj : Int), v3 = .int .i64 vj ∧ v92 = .int .i64 jz ∧ Aside0 (jz = j) ∧ 0 ≤ jz ∧ m1 ≤ j + g2 ∧ j ≤ m1 ∧ Aside0 (subAll vol' os = subAll vj (os.drop j)) ∧ wi = wc)
            case atStart => exact ⟨0, 0, vol', rfl, rfl, ⟨rfl⟩, by omega, by omega, by omega, ⟨rfl⟩, rfl⟩
            case round =>
              obtain ⟨j, jz, vj, rfl, rfl, HJ, hj0, hg2, hjn, HV, rfl⟩ := hrel
              by_cases hj : j < m1
              · have hjz : jz < (m1 : Int) := by have := HJ.out; omega
                obtain ⟨ad2, e2, hx2⟩ := Kd.at_int HCO.out jz hj0 (by rw [HOSL.out]; exact hjz)
                subst e2
                have HJ2 : Aside0 (subAll vol' os = subAll (wrap64 (vj - rd os jz)) (os.drop (j + 1))) := ⟨by
                  rw [HV.out, List.drop_eq_getElem_cons (show j < os.length by rw [HOSL.out]; exact hj)]
                  show subAll (wrap64 (vj - os[j]'_)) _ = _
                  have : rd os jz = os[j]'(by rw [HOSL.out]; exact hj) := by
                    show os.getD jz.toNat 0 = _
                    rw [show jz.toNat = j by have := HJ.out; omega, List.getD, List.getElem?_eq_getElem (by rw [HOSL.out]; exact hj)]; rfl
                  rw [this]⟩
                have wi : IntKind.i64.wrap (jz + 1) = jz + 1 := by rw [IntKind.wrap_i64]; omega
                go_wp2
                go_roundg (m1 - (j + 1))
                case measure => omega
                case rel => exact ⟨j + 1, jz + 1, wrap64 (vj - rd os jz), rfl, rfl, ⟨by have := HJ.out; omega⟩, by omega, by omega, by omega, HJ2, rfl⟩
              · have hjz : decide (jz < (m1 : Int)) = false := decide_eq_false (by have := HJ.out; omega)
                have HV2 : Aside0 (subAll vol' os = vj) := ⟨by rw [HV.out, List.drop_eq_nil_of_le (by rw [HOSL.out]; omega)]; rfl⟩
                clear HV
                go_wp2
                go_roundg (n - tt)
                case measure => have := HGT.out; omega
                case rel => exact ⟨tt, m, tz, vj, o, rfl, rfl, ⟨HTZ.out.symm⟩, by have := HTZ.out; omega, by have := HTZ.out; have := HGT.out; omega, by have := HGT.out; omega, by have := HGT.out; omega, by have := HGT.out; omega, ⟨hoL⟩, ⟨by have := HO2.out; rw [HV2.out] at this; exact this⟩, HS8⟩
      · have hltz : decide (fz < (n : Int)) = false := decide_eq_false (by have := HF.out; omega)
        have hO : out = r := by
          have := HO.out
          cases m with
          | zero => cases this
          | succ m => rw [sideGo, dif_neg (by rw [HN.out]; exact hlt)] at this; exact Option.some.inj this
        have HO2 := Aside0.mk hO
        have S4 := HS.out
        clear hO HO hlt
        go_wp2
        go_ret
        obtain ⟨h1, F', h2, h3⟩ := S4.end_
        have hR : Kd.R KI 2 wr W.heap.size (fun _ => True) (.slice A3 n c3) out := Kd.R_mono (Kd.R_raise (b := 0) (b' := W.heap.size) (fun w ok x cs h => h) (show Kd.R KI 2 wr 0 F' (.slice A3 n c3) out from h3) (fun k hk => (h2 k (h3.1 k hk)).resolve_left (fun h => h))) (fun _ _ => trivial)
        rw [HO2.out] at hR
        exact ⟨_, rfl, hR, S4.below⟩
set_option maxHeartbeats 8000000 in
set_option maxRecDepth 100000 in
theorem call_side_nil (W : World) (A0 : Option Addr) (c0 : Nat) (l : List SO) (b : Bool) (hC : KO.C W A0 l.length l) (hc0 : l.length ≤ c0) (hbk : order_Book.f l = some b) (side price vol mode lot : Int)
    (hx : b = false ∨ (b = true ∧ decide (vol < 1) = true) ∨ (b = true ∧ decide (vol < 1) = false ∧ decide (4611686018427387904 < vol) = true) ∨ (b = true ∧ decide (vol < 1) = false ∧ decide (4611686018427387904 < vol) = false ∧ decide (lot < 1) = true) ∨ (b = true ∧ decide (vol < 1) = false ∧ decide (4611686018427387904 < vol) = false ∧ decide (lot < 1) = false ∧ decide (1099511627776 < lot) = true) ∨ (b = true ∧ decide (vol < 1) = false ∧ decide (4611686018427387904 < vol) = false ∧ decide (lot < 1) = false ∧ decide (1099511627776 < lot) = false ∧ (mode != 1) = true ∧ (mode != 2) = true)) :
    Calls Try.prog 12 #[.slice A0 l.length c0, .int .i64 side, .int .i64 price, .int .i64 vol, .int .i64 mode, .int .i64 lot] W fun e w' => ∃ v, e = .returned v ∧ Kd.R KI 2 w' W.heap.size (fun _ => True) v [] ∧ Below W.heap.size W w' := by
  have HBK := Aside0.mk (fun (w' : World) (hb : Below W.heap.size W w') => order_Book.calls A0 c0 l b w' (Kd.C_below hC hb) hc0 hbk)
  obtain ⟨n, hn⟩ : ∃ x, l.length = x := ⟨_, rfl⟩
  rw [hn] at HBK ⊢
  have S0 := St.start W (fun _ => False)
  clear hC hc0 hbk hn
  rcases hx with rfl | ⟨rfl, v1⟩ | ⟨rfl, v1, v2⟩ | ⟨rfl, v1, v2, v3⟩ | ⟨rfl, v1, v2, v3, v4⟩ | ⟨rfl, v1, v2, v3, v4, v5, v6⟩
  all_goals
    go_enter Try.func12, Try.ntmps12
    go_wp2_with (first
      | ((with_reducible refine gate_dst (N := 6) rfl ?_); refine box_event ?hg (N := 6) ?hd (cs := #[.slice A0 n c0]) (t := 22) ?hr ?_; (case hd => rfl); (case hg => rfl); (case hr => first | (go_simp; done) | (go_simp; rfl)); intro gL hg_ w1 hbB hb; have S1 := S0.box hg_ hb hbB; clear S0 hg_ hbB hb; have zL : w1.cell? ⟨gL, 0, none⟩ = some (.slice A0 n c0) := (blk_cell (S1.blk 0 rfl) 0).trans rfl)
      | (go_at_call 16; refine (HBK.out w1 S1.below).mono ?_; rintro e w2 ⟨rfl, hb⟩; have S2 := S1.call hb; clear S1 hb))
    go_ret
    exact ⟨_, rfl, Kd.R_nil _ _ _ _ _, S2.below⟩
def call_Side.f (k : Nat) (l0 : List SO) (a1 a2 a3 a4 a5 : Int) : Option (List Int) := (order_Book.f l0).bind fun b => if b = true ∧ (1 ≤ a3 ∧ a3 ≤ 4611686018427387904) ∧ (1 ≤ a5 ∧ a5 ≤ 1099511627776) ∧ (a4 = 1 ∨ a4 = 2) then sideGo k l0 a1 a2 a4 a5 (l0.length + 1) 0 a3 (List.replicate l0.length 0) else some []
theorem book_le {l : List SO} (h : order_Book.f l = some true) : l.length ≤ 64 := by
  unfold order_Book.f at h
  split at h
  · split at h
    · cases h
    · omega
  · cases h
theorem call_Side.calls (k : Nat) (A0 : Option Addr) (c0 : Nat) (l0 : List SO) (a1 a2 a3 a4 a5 : Int) (r : List Int) (w : World) (hr0 : KO.C w A0 l0.length l0) (hc0 : l0.length ≤ c0) (h : call_Side.f k l0 a1 a2 a3 a4 a5 = some r) :
    Calls Try.prog 12 #[.slice A0 l0.length c0, .int .i64 a1, .int .i64 a2, .int .i64 a3, .int .i64 a4, .int .i64 a5] w fun e w' => ∃ v0_ : Value, e = .returned (v0_) ∧ Kd.R (Kd.int .i64) 2 w' w.heap.size (fun _ => True) v0_ r ∧ Below w.heap.size w w' := by
  obtain ⟨b, hb, h⟩ := Option.bind_eq_some_iff.1 h
  by_cases c : b = true ∧ (1 ≤ a3 ∧ a3 ≤ 4611686018427387904) ∧ (1 ≤ a5 ∧ a5 ≤ 1099511627776) ∧ (a4 = 1 ∨ a4 = 2)
  · rw [if_pos c] at h
    obtain ⟨rfl, c1, c2, c3⟩ := c
    exact call_side_go w A0 c0 l0 hr0 hc0 hb (book_le hb) k a1 a2 a3 a4 a5 c1 c2 c3 r h
  · rw [if_neg c] at h
    obtain rfl := Option.some.inj h
    refine call_side_nil w A0 c0 l0 b hr0 hc0 hb a1 a2 a3 a4 a5 ?_
    cases b with
    | false => exact .inl rfl
    | true =>
      refine .inr ?_
      by_cases c1 : a3 < 1
      · exact .inl ⟨rfl, decide_eq_true c1⟩
      refine .inr ?_
      by_cases c2 : 4611686018427387904 < a3
      · exact .inl ⟨rfl, decide_eq_false c1, decide_eq_true c2⟩
      refine .inr ?_
      by_cases c3 : a5 < 1
      · exact .inl ⟨rfl, decide_eq_false c1, decide_eq_false c2, decide_eq_true c3⟩
      refine .inr ?_
      by_cases c4 : 1099511627776 < a5
      · exact .inl ⟨rfl, decide_eq_false c1, decide_eq_false c2, decide_eq_false c3, decide_eq_true c4⟩
      refine .inr ⟨rfl, decide_eq_false c1, decide_eq_false c2, decide_eq_false c3, decide_eq_false c4, ?_⟩
      constructor <;> exact bne_iff_ne.2 (fun e => c ⟨rfl, by omega, by omega, by omega⟩)
theorem sideGo_mono (k : Nat) (l : List SO) (side price mode lot : Int) : ∀ (m fr : Nat) (vol : Int) (out : List Int), LeO (sideGo k l side price mode lot m fr vol out) (sideGo (k + 1) l side price mode lot m fr vol out)
  | 0, _, _, _ => LeO.none _
  | m + 1, fr, vol, out => by
    rw [sideGo, sideGo]
    by_cases h : fr < l.length
    · rw [dif_pos h, dif_pos h]
      refine LeO.bind ?_ (fun o => sideGo_mono k l side price mode lot m _ _ _)
      unfold sideOut
      by_cases c : l[fr].f2 = side ∧ cr l[fr] price = true
      · rw [if_pos c, if_pos c]
        intro r hr
        obtain ⟨xs, hx, e⟩ := Option.map_eq_some_iff.1 hr
        rw [share_Share.mono _ _ _ _ _ xs hx]
        exact congrArg some e
      · rw [if_neg c, if_neg c]; exact LeO.refl _
    · rw [dif_neg h, dif_neg h]; exact LeO.refl _
theorem call_Side.mono : ∀ a0 a1 a2 a3 a4 a5 k, LeO (call_Side.f k a0 a1 a2 a3 a4 a5) (call_Side.f (k + 1) a0 a1 a2 a3 a4 a5) := by
  intro a0 a1 a2 a3 a4 a5 k
  unfold call_Side.f
  refine LeO.bind (LeO.refl _) (fun b => ?_)
  by_cases c : b = true ∧ (1 ≤ a3 ∧ a3 ≤ 4611686018427387904) ∧ (1 ≤ a5 ∧ a5 ≤ 1099511627776) ∧ (a4 = 1 ∨ a4 = 2)
  · rw [if_pos c, if_pos c]; exact sideGo_mono k a0 a1 a2 a4 a5 _ _ _ _
  · rw [if_neg c, if_neg c]; exact LeO.refl _
end Go.Proofs.Ytjjnbcaemognhaa.Clr
