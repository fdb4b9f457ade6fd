/- How much could be traded of those that wait: the program's answer and the reference's are one function of lists. -/
import Derived.Test.YtdfkbdcdgbjgcaaOwnSaidOwnReaches
namespace Go.Proofs.Ytdfkbdcdgbjgcaa.Own.M
open Go.RowKit Go.Proofs.Ytdfkbdcdgbjgcaa.Own Go.Proofs.YtdfkbdcdgbjgcaaW.PrintWords Go.Proofs.YtdfkbdcdgbjgcaaW.PrintLast
set_option linter.unusedVariables false
set_option linter.unusedSimpArgs false
def I64 (x : Int) : Prop := -9223372036854775808 ≤ x ∧ x ≤ 9223372036854775807
theorem i64_of {x : Int} (h : (Lit.int .i64 x).wf = true) : I64 x := by
  simp [Lit.wf, IntKind.min, IntKind.max, IntKind.signed, IntKind.bits] at h
  unfold I64
  omega
theorem wid {x : Int} (h0 : -9223372036854775808 ≤ x) (h1 : x ≤ 9223372036854775807) : wrap64 x = x := by unfold wrap64; omega
theorem lives : jobberlaw17_lives.f = some true := by decide +kernel
theorem le_self {a b : Int} (hb : 0 ≤ b) (ha : 1 ≤ a) : b % a ≤ b := by
  have hd := Int.emod_add_mul_ediv b a
  have := Int.mul_nonneg (show 0 ≤ a by omega) (Int.ediv_nonneg hb (show 0 ≤ a by omega))
  omega
def tS (lot q : Int) : Int := if lot < 1 ∨ q < 1 then 0 else q - q % lot
theorem tS_range (lot : Int) {q : Int} (hq : I64 q) : 0 ≤ tS lot q ∧ tS lot q ≤ 9223372036854775807 := by
  unfold I64 at hq
  unfold tS
  by_cases c : lot < 1 ∨ q < 1
  · rw [if_pos c]; omega
  · rw [if_neg c]
    have h0 := Int.emod_nonneg q (show lot ≠ 0 by omega)
    have h2 := le_self (a := lot) (b := q) (by omega) (by omega)
    omega
theorem trim (lot : Int) {q : Int} (hq : I64 q) : limits_Trim.f lot q = some (tS lot q) := by
  have hr := tS_range lot hq
  unfold limits_Trim.f
  unfold tS at *
  unfold I64 at hq
  by_cases c : lot < 1 ∨ q < 1
  · rw [if_pos (by unfold mn; split <;> omega), if_pos c]
  · rw [if_neg c] at hr
    rw [if_neg (by unfold mn; split <;> omega), if_neg (by omega), if_neg c, Int.tmod_eq_emod_of_nonneg (by omega), wid (by omega) (by omega)]
theorem trimR (lot : Int) {q : Int} (hq : I64 q) : jobberref07_Trim.f lot q = some (tS lot q) := by
  have hr := tS_range lot hq
  unfold jobberref07_Trim.f
  unfold tS at *
  unfold I64 at hq
  by_cases c1 : lot < 1
  · rw [if_pos c1, if_pos (.inl c1)]
  by_cases c2 : q < 1
  · rw [if_neg c1, if_pos c2, if_pos (.inr c2)]
  rw [if_neg (by omega)] at hr
  rw [if_neg c1, if_neg c2, if_neg (by omega), if_neg (by omega), Int.tdiv_eq_ediv_of_nonneg (by omega)]
  have hd := Int.emod_add_mul_ediv q lot
  have h0 := Int.ediv_nonneg (a := q) (b := lot) (by omega) (by omega)
  have h1 := Int.ediv_le_self lot (show 0 ≤ q by omega)
  rw [wid (x := q / lot) (by omega) (by omega), Int.mul_comm (q / lot) lot, wid (by omega) (by omega)]
  congr 1; omega
def cp (q m : Int) : Int := if q + m > 4611686018427387904 then 4611686018427387904 else q + m
theorem cp_range {q m : Int} (hq : 0 ≤ q ∧ q ≤ 4611686018427387904) (hm : 0 ≤ m ∧ m ≤ 4611686018427387904) : 0 ≤ cp q m ∧ cp q m ≤ 4611686018427387904 ∧ q ≤ cp q m := by
  unfold cp
  by_cases c : q + m > 4611686018427387904
  · rw [if_pos c]; omega
  · rw [if_neg c]; omega
theorem cp_mono {q q' m : Int} (h : q ≤ q') : cp q m ≤ cp q' m := by
  unfold cp
  split <;> split <;> omega
theorem capped {q m : Int} (hq : 0 ≤ q ∧ q ≤ 4611686018427387904) (hm : 0 ≤ m ∧ m ≤ 4611686018427387904) : coin_Capped.f q m = some (cp q m) := by
  unfold coin_Capped.f
  rw [if_neg (by unfold mn; split <;> omega), if_neg (by unfold mx; split <;> omega), wid (x := 4611686018427387904 - q) (by omega) (by omega)]
  unfold cp mn
  by_cases c : q + m > 4611686018427387904
  · rw [if_pos c, if_pos (by omega), wid (by omega) (by omega)]; congr 1; omega
  · rw [if_neg c, if_neg (by omega), wid (by omega) (by omega)]
theorem cappedR {q m : Int} (hq : 0 ≤ q ∧ q ≤ 4611686018427387904) (hm : 0 ≤ m ∧ m ≤ 4611686018427387904) {k : Nat} (hk : 1 ≤ k) : jobberref01_Capped.f k q m = some (cp q m) := by
  obtain ⟨k, rfl⟩ : ∃ j, k = j + 1 := ⟨k - 1, by omega⟩
  unfold jobberref01_Capped.f
  rw [if_neg (by omega), if_neg (by omega), if_neg (by omega), decide_eq_false (by omega), jobberref01_Capped.j0, if_neg (by decide), wid (x := 4611686018427387904 - m) (by omega) (by omega)]
  unfold cp
  by_cases c : q + m > 4611686018427387904
  · rw [if_pos c, if_pos (by omega)]
  · rw [if_neg c, if_neg (by omega), wid (by omega) (by omega)]
def am (lot q : Int) : Int := mn (tS lot q) 4611686018427387904
theorem am_range (lot : Int) {q : Int} (hq : I64 q) : 0 ≤ am lot q ∧ am lot q ≤ 4611686018427387904 := by
  have := tS_range lot hq
  unfold am mn
  split <;> omega
/-- the answer: of account and quantity of each that waits -/
def rS (p a lot : Int) : List (Int × Int) → Int → Int × Bool
  | [], q => (q, false)
  | o :: l, q => if p ≠ 1 ∧ o.1 = a then (if p = 2 ∨ p = 4 then (q, true) else rS p a lot l q) else rS p a lot l (cp q (am lot o.2))
def vw (l : List S73) : List (Int × Int) := l.map fun o => (o.f1, o.f4)
def vwR (l : List S100) : List (Int × Int) := l.map fun o => (o.f1, o.f4)
theorem stops (p : Int) : own_Stops.f p = some (decide (p = 2 ∨ p = 4)) := by
  unfold own_Stops.f
  by_cases c1 : p = 4
  · rw [if_pos c1, decide_eq_true (.inr c1)]
  by_cases c2 : p = 2
  · rw [if_neg c1, if_pos c2, decide_eq_true (.inl c2)]
  rw [if_neg c1, if_neg c2, decide_eq_false (by omega)]
theorem stopsR (p : Int) : jobberref17_Stops.f p = some (decide (p = 2 ∨ p = 4)) := by
  unfold jobberref17_Stops.f
  by_cases c2 : p = 2
  · rw [if_pos c2, decide_eq_true (.inl c2)]
  rw [if_neg c2]
  by_cases c1 : p = 4
  · rw [decide_eq_true (.inr c1), c1]; rfl
  rw [decide_eq_false (by omega)]
  congr 1
  simpa using c1
theorem is_ok {p : Int} (h : 1 ≤ p ∧ p ≤ 4) : own_is.f p = some true := by
  unfold own_is.f
  rw [if_pos h.1, decide_eq_true h.2]
theorem is_no {p : Int} (h : ¬ (1 ≤ p ∧ p ≤ 4)) : own_is.f p = some false := by
  unfold own_is.f
  by_cases c : p ≥ 1
  · rw [if_pos c, decide_eq_false (by omega)]
  · rw [if_neg c]
theorem run_ok {p a : Int} (l : List S73) (h : 1 ≤ p ∧ p ≤ 4) : own_Run.f p a l = some ((l.findIdx (own_Run.P p a) : Nat) : Int) := by
  unfold own_Run.f
  rw [decide_eq_true (show p ≥ 1 from h.1), decide_eq_true h.2, if_pos (by decide)]
  have hle := List.findIdx_le_length (xs := l) (p := own_Run.P p a)
  unfold ixB
  by_cases c : l.findIdx (own_Run.P p a) < l.length
  · rw [if_pos c, if_neg (by omega)]
  · rw [if_neg c, if_pos (by omega)]; congr 1; omega
theorem prefix_ok {p a lot : Int} : ∀ {l : List S73} {q : Int}, (∀ o ∈ l, I64 o.f4) → (0 ≤ q ∧ q ≤ 4611686018427387904) → ∃ q1, rcSum lot (l.take (l.findIdx (own_Run.P p a))) q = some q1 ∧ (0 ≤ q1 ∧ q1 ≤ 4611686018427387904) ∧ rS p a lot (vw l) q = rS p a lot (vw (l.drop (l.findIdx (own_Run.P p a)))) q1
  | [], q, _, hq => ⟨q, rfl, hq, rfl⟩
  | o :: l, q, hl, hq => by
    rw [List.findIdx_cons]
    cases hP : own_Run.P p a o with
    | true => exact ⟨q, rfl, hq, rfl⟩
    | false =>
      have ho := hl o (by simp)
      have ha := am_range lot ho
      obtain ⟨q1, h1, h2, h3⟩ := prefix_ok (p := p) (a := a) (lot := lot) (l := l) (q := cp q (am lot o.f4)) (fun x hx => hl x (by simp [hx])) ⟨(cp_range hq ha).1, (cp_range hq ha).2.1⟩
      refine ⟨q1, ?_, h2, ?_⟩
      · simp only [cond_false, List.take_succ_cons, rcSum]
        rw [trim lot ho]
        simp only [Option.bind_some]
        have e : mn (tS lot o.f4) 4611686018427387904 = am lot o.f4 := rfl
        rw [e, capped hq ha]
        simp only [Option.bind_some]
        exact h1
      · simp only [cond_false, List.drop_succ_cons]
        rw [← h3]
        have e : vw (o :: l) = (o.f1, o.f4) :: vw l := rfl
        rw [e, rS, if_neg]
        unfold own_Run.P at hP
        simp at hP
        intro hc
        exact hP hc.1 hc.2
theorem go_ok {p a lot : Int} (h : 1 ≤ p ∧ p ≤ 4) : ∀ (k : Nat) (l : List S73) (q : Int), l.length < k → (∀ o ∈ l, I64 o.f4) → (0 ≤ q ∧ q ≤ 4611686018427387904) → own_Reach.go p a lot k l q = some (rS p a lot (vw l) q)
  | 0, l, q, hk, _, _ => by omega
  | k + 1, l, q, hk, hl, hq => by
    obtain ⟨q1, h1, h2, h3⟩ := prefix_ok (p := p) (a := a) (lot := lot) hl hq
    have hle := List.findIdx_le_length (xs := l) (p := own_Run.P p a)
    rw [own_Reach.go, run_ok l h]
    simp only [Option.bind_some]
    rw [if_pos ⟨by omega, by omega⟩, Int.toNat_natCast, h1]
    simp only [Option.bind_some]
    by_cases c : l.findIdx (own_Run.P p a) < l.length
    · have hP := List.findIdx_getElem (w := c)
      rw [if_neg (by omega), stops]
      simp only [Option.bind_some]
      rw [List.drop_eq_getElem_cons c] at h3
      have e : ∀ (o : S73) (l' : List S73), vw (o :: l') = (o.f1, o.f4) :: vw l' := fun _ _ => rfl
      unfold own_Run.P at hP
      simp at hP
      rw [e, rS, if_pos ⟨hP.1, hP.2⟩] at h3
      by_cases s : p = 2 ∨ p = 4
      · rw [decide_eq_true s, if_pos rfl, h3, if_pos s]
      · rw [decide_eq_false s, if_neg (by decide), h3, if_neg s, show (((l.findIdx (own_Run.P p a) : Nat) : Int) + 1).toNat = l.findIdx (own_Run.P p a) + 1 by omega]
        exact go_ok h k _ q1 (by rw [List.length_drop]; omega) (fun o ho => hl o (List.mem_of_mem_drop ho)) h2
    · rw [if_pos (by omega), h3, List.drop_eq_nil_of_le (by omega)]
      rfl
theorem reach_ok {p a lot : Int} {l : List S73} (hl : ∀ o ∈ l, I64 o.f4) : own_Reach.f p a l lot = some (if 1 ≤ p ∧ p ≤ 4 then rS p a lot (vw l) 0 else (0, true)) := by
  unfold own_Reach.f
  by_cases h : 1 ≤ p ∧ p ≤ 4
  · rw [is_ok h, if_pos h]
    simp only [Option.bind_some]
    simp only [if_true]
    rw [go_ok h _ l 0 (by omega) hl (by omega)]
  · rw [is_no h, if_neg h]
    simp only [Option.bind_some]
    rw [if_neg (by decide)]
theorem plain_ok (l : List S73) : ∀ (n : Nat) (i : Int) (xs : List S100), 0 ≤ i → i + n = l.length → l.length ≤ 100 → vwR xs = (vw l).take i.toNat → xs.length = i.toNat → ∃ ys, (∀ k, n < k → jobberlaw12_Plain.l0 k xs l (l.length : Int) i = some ys) ∧ vwR ys = vw l ∧ ys.length = l.length
  | 0, i, xs, h0, h1, h2, h3, h4 => by
    refine ⟨xs, fun k hk => ?_, ?_, by omega⟩
    · obtain ⟨k, rfl⟩ : ∃ m, k = m + 1 := ⟨k - 1, by omega⟩
      simp only [jobberlaw12_Plain.l0]
      rw [if_neg (by omega)]
    · rw [h3, List.take_of_length_le (by unfold vw; rw [List.length_map]; omega)]
  | n + 1, i, xs, h0, h1, h2, h3, h4 => by
    have hi : i.toNat < l.length := by omega
    have er : rd_T73 l i = l[i.toNat] := by unfold rd_T73; simp [hi]
    obtain ⟨ys, hy, hv, hlen⟩ := plain_ok l n (i + 1) (xs ++ [(⟨(rd_T73 l i).f0, (rd_T73 l i).f1, (rd_T73 l i).f2, (rd_T73 l i).f3, (rd_T73 l i).f4, (rd_T73 l i).f5⟩ : S100)]) (by omega) (by omega) h2 (by
      rw [show (i + 1).toNat = i.toNat + 1 by omega, List.take_add_one]
      unfold vwR at *
      rw [List.map_append, h3, er]
      unfold vw
      simp [hi]) (by rw [List.length_append]; simp; omega)
    refine ⟨ys, fun k hk => ?_, hv, hlen⟩
    obtain ⟨k, rfl⟩ : ∃ m, k = m + 1 := ⟨k - 1, by omega⟩
    simp only [jobberlaw12_Plain.l0]
    rw [if_pos (by omega), if_pos (by omega), if_pos (by omega), if_pos (by omega), wid (by omega) (by omega)]
    exact hy k (by omega)
theorem ref_loop {p a lot : Int} {m : List S100} (hm : ∀ o ∈ m, I64 o.f4) (hn : m.length ≤ 100) : ∀ (n : Nat) (i q : Int), 0 ≤ i → i + n = m.length → (0 ≤ q ∧ q ≤ 4611686018427387904) → ∀ k, 2 * n + 2 < k → jobberref17_Reach.l0 k p a m lot q i = some (rS p a lot (vwR (m.drop i.toNat)) q)
  | 0, i, q, h0, h1, hq, k, hk => by
    obtain ⟨k, rfl⟩ : ∃ m, k = m + 1 := ⟨k - 1, by omega⟩
    simp only [jobberref17_Reach.l0]
    rw [if_neg (by omega), List.drop_eq_nil_of_le (by omega)]
    rfl
  | n + 1, i, q, h0, h1, hq, k, hk => by
    obtain ⟨k, rfl⟩ : ∃ m, k = m + 2 := ⟨k - 2, by omega⟩
    have hi : i.toNat < m.length := by omega
    have er : rd_T100 m i = m[i.toNat] := by unfold rd_T100; simp [hi]
    have hx : I64 (m[i.toNat]).f4 := hm _ (List.getElem_mem hi)
    have ha := am_range lot hx
    have hc := cp_range hq ha
    have e : ∀ (o : S100) (l' : List S100), vwR (o :: l') = (o.f1, o.f4) :: vwR l' := fun _ _ => rfl
    rw [List.drop_eq_getElem_cons hi, e, rS]
    have ih1 := ref_loop (p := p) (a := a) (lot := lot) hm hn n (i + 1) q (by omega) (by omega) hq k (by omega)
    have ih2 := ref_loop (p := p) (a := a) (lot := lot) hm hn n (i + 1) (cp q (am lot (m[i.toNat]).f4)) (by omega) (by omega) ⟨hc.1, hc.2.1⟩ k (by omega)
    rw [show (i + 1).toNat = i.toNat + 1 by omega] at ih1 ih2
    have step : ∀ b : Bool, (b = true ↔ (p ≠ 1 ∧ (m[i.toNat]).f1 = a)) → jobberref17_Reach.j2 (k + 1) p a m lot q i b = some (if p ≠ 1 ∧ (m[i.toNat]).f1 = a then (if p = 2 ∨ p = 4 then (q, true) else rS p a lot (vwR (m.drop (i.toNat + 1))) q) else rS p a lot (vwR (m.drop (i.toNat + 1))) (cp q (am lot (m[i.toNat]).f4))) := by
      intro b hb
      rw [jobberref17_Reach.j2, wid (x := i + 1) (by omega) (by omega)]
      by_cases c : p ≠ 1 ∧ (m[i.toNat]).f1 = a
      · rw [if_pos (hb.mpr c), if_pos c, stopsR]
        simp only [Option.bind_some]
        by_cases s : p = 2 ∨ p = 4
        · rw [decide_eq_true s, if_pos rfl, if_pos s]
        · rw [decide_eq_false s, if_neg (by decide), if_neg s]; exact ih1
      · rw [if_neg (fun h => c (hb.mp h)), if_neg c, if_pos (by omega), if_pos (by omega), er, trimR lot hx]
        simp only [Option.bind_some]
        have e2 : mn (tS lot (m[i.toNat]).f4) 4611686018427387904 = am lot (m[i.toNat]).f4 := rfl
        rw [e2, cappedR hq ha (by omega)]
        simp only [Option.bind_some]
        exact ih2
    rw [jobberref17_Reach.l0, if_pos (by omega)]
    by_cases c : p = 1
    · rw [if_pos c]
      exact step false (by simp [c])
    · rw [if_neg c, if_pos (by omega), er]
      exact step _ (by simp [c])
theorem rS_one {a lot : Int} : ∀ (l : List (Int × Int)) (q : Int), (rS 1 a lot l q).2 = false
  | [], q => rfl
  | o :: l, q => by rw [rS, if_neg (by simp)]; exact rS_one l _
theorem rS_le {p a lot : Int} : ∀ (l : List (Int × Int)) (q q' : Int), (∀ o ∈ l, I64 o.2) → (0 ≤ q' ∧ q' ≤ 4611686018427387904) → q ≤ q' → (rS p a lot l q).1 ≤ (rS 1 a lot l q').1
  | [], q, q', _, _, h => h
  | o :: l, q, q', hl, hq, h => by
    have ha := am_range lot (hl o (by simp))
    have hc := cp_range hq ha
    have ih := fun x (hx : x ≤ cp q' (am lot o.2)) => rS_le (p := p) (a := a) (lot := lot) l x (cp q' (am lot o.2)) (fun y hy => hl y (by simp [hy])) ⟨hc.1, hc.2.1⟩ hx
    have ih0 : ∀ x, x ≤ cp q' (am lot o.2) → x ≤ (rS 1 a lot l (cp q' (am lot o.2))).1 := by
      intro x hx
      have : ∀ (l : List (Int × Int)) (y : Int), (∀ o ∈ l, I64 o.2) → (0 ≤ y ∧ y ≤ 4611686018427387904) → y ≤ (rS 1 a lot l y).1 := by
        intro l
        induction l with
        | nil => intro y _ _; exact Int.le_refl _
        | cons o l ih =>
          intro y hl hy
          have ha := am_range lot (hl o (by simp))
          have hc := cp_range hy ha
          rw [rS, if_neg (by simp)]
          have := ih (cp y (am lot o.2)) (fun z hz => hl z (by simp [hz])) ⟨hc.1, hc.2.1⟩
          omega
      have := this l (cp q' (am lot o.2)) (fun z hz => hl z (by simp [hz])) ⟨hc.1, hc.2.1⟩
      omega
    rw [rS, rS, if_neg (show ¬ ((1 : Int) ≠ 1 ∧ o.1 = a) by simp)]
    by_cases c : p ≠ 1 ∧ o.1 = a
    · rw [if_pos c]
      by_cases s : p = 2 ∨ p = 4
      · rw [if_pos s]; exact ih0 q (by omega)
      · rw [if_neg s]; exact ih q (by omega)
    · rw [if_neg c]
      exact ih _ (cp_mono h)
theorem reaches {p a lot : Int} {l : List S73} (hl : ∀ o ∈ l, I64 o.f4) : ∃ k, jobberlaw17_OwnReaches.f k p a l lot = some true := by
  refine ⟨400, ?_⟩
  unfold jobberlaw17_OwnReaches.f
  have lv : ((jobberlaw17_lives.f).bind fun t167 => (some t167)) = some true := by rw [lives]; rfl
  by_cases c : (l.length : Int) > 100
  · rw [if_pos c, lv]
  rw [if_neg c]
  obtain ⟨ys, hy, hv, hlen⟩ := plain_ok l l.length 0 [] (by omega) (by omega) (by omega) (by simp [vwR]) (by simp)
  have e1 : jobberlaw12_Plain.f 400 l = some ys := by unfold jobberlaw12_Plain.f; exact hy 400 (by omega)
  have hm : ∀ o ∈ ys, I64 o.f4 := by
    intro o ho
    have h1 : (o.f1, o.f4) ∈ vwR ys := List.mem_map.mpr ⟨o, ho, rfl⟩
    rw [hv] at h1
    obtain ⟨x, hx, e⟩ := List.mem_map.mp h1
    have : x.f4 = o.f4 := congrArg Prod.snd e
    rw [← this]; exact hl x hx
  have e2 : jobberref17_Reach.f 400 p a ys lot = some (if 1 ≤ p ∧ p ≤ 4 then rS p a lot (vw l) 0 else (0, true)) := by
    unfold jobberref17_Reach.f
    by_cases c1 : p < 1
    · rw [if_pos c1, jobberref17_Reach.j0, if_pos rfl, if_neg (by omega)]
    by_cases c2 : p > 4
    · rw [if_neg c1, decide_eq_true c2, jobberref17_Reach.j0, if_pos rfl, if_neg (by omega)]
    rw [if_neg c1, decide_eq_false c2, jobberref17_Reach.j0, if_neg (by decide), if_pos (by omega), ref_loop hm (by omega) ys.length 0 0 (by omega) (by omega) (by omega) 399 (by omega)]
    simp only [Int.toNat_zero, List.drop_zero]
    rw [hv]
  rw [e1]; simp only [Option.bind_some]
  rw [reach_ok hl]; simp only [Option.bind_some]
  rw [e2]; simp only [Option.bind_some]
  rw [reach_ok hl]; simp only [Option.bind_some]
  rw [if_pos (show (1 : Int) ≤ 1 ∧ (1 : Int) ≤ 4 by omega), if_pos trivial, if_pos (by simp), rS_one, if_neg (by decide), if_pos, lv]
  have hvw : ∀ o ∈ vw l, I64 o.2 := by
    intro o ho
    obtain ⟨x, hx, e⟩ := List.mem_map.mp ho
    rw [← e]; exact hl x hx
  by_cases h : 1 ≤ p ∧ p ≤ 4
  · rw [if_pos h]; exact rS_le (vw l) 0 0 hvw (by omega) (by omega)
  · rw [if_neg h]
    have := rS_le (p := 1) (a := a) (lot := lot) (vw l) 0 0 hvw (by omega) (by omega)
    have h0 : ∀ (l : List (Int × Int)) (y : Int), (∀ o ∈ l, I64 o.2) → (0 ≤ y ∧ y ≤ 4611686018427387904) → y ≤ (rS 1 a lot l y).1 := by
      intro l
      induction l with
      | nil => intro y _ _; exact Int.le_refl _
      | cons o l ih =>
        intro y hl hy
        have ha := am_range lot (hl o (by simp))
        have hc := cp_range hy ha
        rw [rS, if_neg (by simp)]
        have := ih (cp y (am lot o.2)) (fun z hz => hl z (by simp [hz])) ⟨hc.1, hc.2.1⟩
        omega
    exact h0 (vw l) 0 hvw (by omega)
end Go.Proofs.Ytdfkbdcdgbjgcaa.Own.M
