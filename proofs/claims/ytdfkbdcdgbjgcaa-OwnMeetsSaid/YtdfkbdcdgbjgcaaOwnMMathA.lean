/- Who trades, who goes, and whether what comes stops: on lists. -/
import Derived.Test.YtdfkbdcdgbjgcaaOwnMSaidOwnMeets
namespace Go.Proofs.Ytdfkbdcdgbjgcaa.OwnM.M
open Go.RowKit Go.Proofs.Ytdfkbdcdgbjgcaa.OwnM Go.Proofs.YtdfkbdcdgbjgcaaW.PrintWords Go.Proofs.YtdfkbdcdgbjgcaaW.PrintLast
set_option linter.unusedVariables false
set_option linter.unusedSimpArgs false
def I64 (x : Int) : Prop := -9223372036854775808 ≤ x ∧ x ≤ 9223372036854775807
theorem i64_of {x : Int} (h : (Lit.int .i64 x).wf = true) : I64 x := by
  simp [Lit.wf, IntKind.min, IntKind.max, IntKind.signed, IntKind.bits] at h
  unfold I64
  omega
theorem wid {x : Int} (h0 : -9223372036854775808 ≤ x) (h1 : x ≤ 9223372036854775807) : wrap64 x = x := by unfold wrap64; omega
theorem lives : jobberlaw17_lives.f = some true := by decide +kernel
theorem le_self {a b : Int} (hb : 0 ≤ b) (ha : 1 ≤ a) : b % a ≤ b := by
  have hd := Int.emod_add_mul_ediv b a
  have := Int.mul_nonneg (show 0 ≤ a by omega) (Int.ediv_nonneg hb (show 0 ≤ a by omega))
  omega
theorem stops (p : Int) : own_Stops.f p = some (decide (p = 2 ∨ p = 4)) := by
  unfold own_Stops.f
  by_cases c1 : p = 4
  · rw [if_pos c1, decide_eq_true (.inr c1)]
  by_cases c2 : p = 2
  · rw [if_neg c1, if_pos c2, decide_eq_true (.inl c2)]
  rw [if_neg c1, if_neg c2, decide_eq_false (by omega)]
theorem stopsR (p : Int) : jobberref17_Stops.f p = some (decide (p = 2 ∨ p = 4)) := by
  unfold jobberref17_Stops.f
  by_cases c2 : p = 2
  · rw [if_pos c2, decide_eq_true (.inl c2)]
  rw [if_neg c2]
  by_cases c1 : p = 4
  · rw [decide_eq_true (.inr c1), c1]; rfl
  rw [decide_eq_false (by omega)]
  congr 1
  simpa using c1
theorem is_ok {p : Int} (h : 1 ≤ p ∧ p ≤ 4) : own_is.f p = some true := by
  unfold own_is.f
  rw [if_pos h.1, decide_eq_true h.2]
theorem is_no {p : Int} (h : ¬ (1 ≤ p ∧ p ≤ 4)) : own_is.f p = some false := by
  unfold own_is.f
  by_cases c : p ≥ 1
  · rw [if_pos c, decide_eq_false (by omega)]
  · rw [if_neg c]
theorem run_ok {p a : Int} (l : List S73) (h : 1 ≤ p ∧ p ≤ 4) : own_Run.f p a l = some ((l.findIdx (own_Run.P p a) : Nat) : Int) := by
  unfold own_Run.f
  rw [decide_eq_true (show p ≥ 1 from h.1), decide_eq_true h.2, if_pos (by decide)]
  have hle := List.findIdx_le_length (xs := l) (p := own_Run.P p a)
  unfold ixB
  by_cases c : l.findIdx (own_Run.P p a) < l.length
  · rw [if_pos c, if_neg (by omega)]
  · rw [if_neg c, if_pos (by omega)]; congr 1; omega
theorem drops (p : Int) : own_Drops.f p = some (decide (p = 3 ∨ p = 4)) := by
  unfold own_Drops.f
  by_cases c1 : p = 4
  · rw [if_pos c1, decide_eq_true (.inr c1)]
  by_cases c2 : p = 3
  · rw [if_neg c1, if_pos c2, decide_eq_true (.inl c2)]
  rw [if_neg c1, if_neg c2, decide_eq_false (by omega)]
theorem dropsR (p : Int) : jobberref17_Drops.f p = some (decide (p = 3 ∨ p = 4)) := by
  unfold jobberref17_Drops.f
  by_cases c2 : p = 3
  · rw [if_pos c2, decide_eq_true (.inl c2)]
  rw [if_neg c2]
  by_cases c1 : p = 4
  · rw [decide_eq_true (.inr c1), c1]; rfl
  rw [decide_eq_false (by omega)]
  congr 1
  simpa using c1
def cv (o : S73) : S100 := ⟨o.f0, o.f1, o.f2, o.f3, o.f4, o.f5⟩
theorem plain_ok (l : List S73) : ∀ (n : Nat) (i : Int), 0 ≤ i → i + n = l.length → l.length ≤ 100 → ∀ k, n < k → jobberlaw12_Plain.l0 k ((l.take i.toNat).map cv) l (l.length : Int) i = some (l.map cv)
  | 0, i, h0, h1, h2, k, hk => by
    obtain ⟨k, rfl⟩ : ∃ m, k = m + 1 := ⟨k - 1, by omega⟩
    simp only [jobberlaw12_Plain.l0]
    rw [if_neg (by omega), List.take_of_length_le (by omega)]
  | n + 1, i, h0, h1, h2, k, hk => by
    obtain ⟨k, rfl⟩ : ∃ m, k = m + 1 := ⟨k - 1, by omega⟩
    have hi : i.toNat < l.length := by omega
    have er : rd_T73 l i = l[i.toNat] := by unfold rd_T73; simp [hi]
    have ih := plain_ok l n (i + 1) (by omega) (by omega) h2 k (by omega)
    simp only [jobberlaw12_Plain.l0]
    rw [if_pos (by omega), if_pos (by omega), if_pos (by omega), if_pos (by rw [List.length_map, List.length_take]; omega), wid (by omega) (by omega)]
    rw [show (i + 1).toNat = i.toNat + 1 by omega, List.take_add_one, List.map_append, List.getElem?_eq_getElem hi] at ih
    rw [er]
    exact ih
theorem rd_map (l : List S73) {i : Int} (h0 : 0 ≤ i) (h1 : i < (l.length : Int)) : rd_T100 (l.map cv) i = cv (rd_T73 l i) := by
  have hi : i.toNat < l.length := by omega
  unfold rd_T100 rd_T73
  simp [hi]
theorem same_loop {x : List S73} (hn : x.length ≤ 100) : ∀ (n : Nat) (i : Int), 0 ≤ i → i + n = x.length → ∀ k, n < k → jobberlaw12_Same.l0 k x (x.map cv) (x.length : Int) i = some true
  | 0, i, h0, h1, k, hk => by
    obtain ⟨k, rfl⟩ : ∃ m, k = m + 1 := ⟨k - 1, by omega⟩
    simp only [jobberlaw12_Same.l0]
    rw [if_neg (by omega)]
  | n + 1, i, h0, h1, k, hk => by
    obtain ⟨k, rfl⟩ : ∃ m, k = m + 1 := ⟨k - 1, by omega⟩
    have ih := same_loop hn n (i + 1) (by omega) (by omega) k (by omega)
    simp only [jobberlaw12_Same.l0]
    rw [if_pos (by omega), if_pos (by omega), if_pos (by omega), if_pos (by rw [List.length_map]; omega), rd_map x h0 (by omega), if_neg (by simp [cv]), wid (by omega) (by omega)]
    exact ih
theorem same_ok {x : List S73} (hn : x.length ≤ 100) {k : Nat} (hk : 101 < k) : jobberlaw12_Same.f k x (x.map cv) = some true := by
  unfold jobberlaw12_Same.f
  rw [if_pos (by rw [List.length_map])]
  exact same_loop hn x.length 0 (by omega) (by omega) k (by omega)
theorem run_loop {p a : Int} {l : List S73} (hn : l.length ≤ 100) : ∀ (n : Nat) (i : Int), 0 ≤ i → i + n = l.length → i ≤ l.findIdx (own_Run.P p a) → ∀ k, n < k → jobberref17_Run.l0 k p a (l.map cv) i = some ((l.findIdx (own_Run.P p a) : Nat) : Int)
  | 0, i, h0, h1, h2, k, hk => by
    obtain ⟨k, rfl⟩ : ∃ m, k = m + 1 := ⟨k - 1, by omega⟩
    have hle := List.findIdx_le_length (xs := l) (p := own_Run.P p a)
    simp only [jobberref17_Run.l0]
    rw [if_neg (by rw [List.length_map]; omega), List.length_map]
    congr 1; omega
  | n + 1, i, h0, h1, h2, k, hk => by
    obtain ⟨k, rfl⟩ : ∃ m, k = m + 1 := ⟨k - 1, by omega⟩
    have hi : i.toNat < l.length := by omega
    have er : rd_T73 l i = l[i.toNat] := by unfold rd_T73; simp [hi]
    have nxt : own_Run.P p a l[i.toNat] = false → i + 1 ≤ (l.findIdx (own_Run.P p a) : Nat) := by
      intro hf
      by_cases c : i.toNat = l.findIdx (own_Run.P p a)
      · have hl : l.findIdx (own_Run.P p a) < l.length := by omega
        have hP := List.findIdx_getElem (w := hl)
        have e : l[l.findIdx (own_Run.P p a)] = l[i.toNat] := by congr 1; exact c.symm
        rw [e, hf] at hP
        cases hP
      · omega
    have ih := fun h => run_loop (p := p) (a := a) hn n (i + 1) (by omega) (by omega) h k (by omega)
    simp only [jobberref17_Run.l0]
    rw [if_pos (by rw [List.length_map]; omega), rd_map l h0 (by omega), er, wid (by omega) (by omega)]
    have ef : (cv l[i.toNat]).f1 = (l[i.toNat]).f1 := rfl
    rw [ef]
    by_cases c : p = 1
    · rw [if_pos c]
      exact ih (nxt (by unfold own_Run.P; simp [c]))
    · rw [if_neg c, if_pos (by omega)]
      by_cases d : (l[i.toNat]).f1 = a
      · rw [if_pos d]
        have hP : own_Run.P p a l[i.toNat] = true := by unfold own_Run.P; simp [c, d]
        have : ¬ i.toNat < l.findIdx (own_Run.P p a) := by
          intro hlt
          have := List.not_of_lt_findIdx hlt
          rw [hP] at this
          simp at this
        congr 1; omega
      · rw [if_neg d]
        exact ih (nxt (by unfold own_Run.P; simp [d]))
theorem runR {p a : Int} {l : List S73} (hn : l.length ≤ 100) {k : Nat} (hk : 110 < k) : jobberref17_Run.f k p a (l.map cv) = some (if 1 ≤ p ∧ p ≤ 4 then ((l.findIdx (own_Run.P p a) : Nat) : Int) else 0) := by
  obtain ⟨k, rfl⟩ : ∃ m, k = m + 1 := ⟨k - 1, by omega⟩
  unfold jobberref17_Run.f
  by_cases c1 : p < 1
  · rw [if_pos c1, jobberref17_Run.j0, if_pos rfl, if_neg (by omega)]
  by_cases c2 : p > 4
  · rw [if_neg c1, decide_eq_true c2, jobberref17_Run.j0, if_pos rfl, if_neg (by omega)]
  rw [if_neg c1, decide_eq_false c2, jobberref17_Run.j0, if_neg (by decide), if_pos (by omega)]
  exact run_loop hn l.length 0 (by omega) (by omega) (by omega) k (by omega)
theorem run_no {p a : Int} (l : List S73) (h : ¬ (1 ≤ p ∧ p ≤ 4)) : own_Run.f p a l = some 0 := by
  unfold own_Run.f
  rw [if_neg]
  intro hc
  simp at hc
  exact h ⟨hc.1, hc.2⟩
theorem meets {p a : Int} {l : List S73} : ∃ k, jobberlaw17_OwnMeets.f k p a l = some true := by
  refine ⟨200, ?_⟩
  unfold jobberlaw17_OwnMeets.f
  have lv : ∀ t : Option Bool, t = jobberlaw17_lives.f → (t.bind fun t => (some t)) = some true := by intro t h; rw [h, lives]; rfl
  by_cases c : (l.length : Int) > 100
  · rw [if_pos c, lv _ rfl]
  rw [if_neg c]
  have e1 : jobberlaw12_Plain.f 200 l = some (l.map cv) := by
    unfold jobberlaw12_Plain.f
    exact plain_ok l l.length 0 (by omega) (by omega) (by omega) 200 (by omega)
  rw [e1]; simp only [Option.bind_some]
  rw [runR (by omega) (by omega)]; simp only [Option.bind_some]
  have hd : ∀ b : Bool, ((b != b) = true) = False := by intro b; cases b <;> simp
  by_cases h : 1 ≤ p ∧ p ≤ 4
  · have hle := List.findIdx_le_length (xs := l) (p := own_Run.P p a)
    have hrun := run_ok (p := p) (a := a) l h
    have hmeet : own_Meet.f p a l = some (if l.findIdx (own_Run.P p a) = l.length then (l.take (l.findIdx (own_Run.P p a)), [], false) else (l.take (l.findIdx (own_Run.P p a)), if decide (p = 3 ∨ p = 4) = true then [(rd_T73 l ((l.findIdx (own_Run.P p a) : Nat) : Int)).f0] else [], decide (p = 2 ∨ p = 4))) := by
      unfold own_Meet.f
      rw [is_ok h]; simp only [Option.bind_some]
      rw [if_pos trivial, hrun]; simp only [Option.bind_some]
      rw [if_pos ⟨by omega, by omega, by omega⟩]
      by_cases z : l.findIdx (own_Run.P p a) = l.length
      · rw [if_pos (by omega), if_pos z, Int.toNat_natCast]
      · rw [if_neg (by omega), if_neg z, drops, stops]; simp only [Option.bind_some]; rw [Int.toNat_natCast]
    obtain ⟨N, hN⟩ : ∃ N, l.findIdx (own_Run.P p a) = N := ⟨_, rfl⟩
    rw [if_pos h, hmeet]; simp only [Option.bind_some]
    rw [hrun]; simp only [Option.bind_some]
    rw [if_pos trivial, drops]; simp only [Option.bind_some]
    rw [dropsR]; simp only [Option.bind_some]
    rw [if_neg (by rw [hd]; exact id), stops]; simp only [Option.bind_some]
    rw [stopsR]; simp only [Option.bind_some]
    rw [if_neg (by rw [hd]; exact id), if_pos (by omega), if_pos (by rw [List.length_map]; omega), Int.toNat_natCast]
    have hrunx : (if l.findIdx (own_Run.P p a) = l.length then ((l.take (l.findIdx (own_Run.P p a)), [], false) : List S73 × List Int × Bool) else (l.take (l.findIdx (own_Run.P p a)), if decide (p = 3 ∨ p = 4) = true then [(rd_T73 l ((l.findIdx (own_Run.P p a) : Nat) : Int)).f0] else [], decide (p = 2 ∨ p = 4))).1 = l.take (l.findIdx (own_Run.P p a)) := by split <;> rfl
    rw [hrunx, ← List.map_take, same_ok (by rw [List.length_take]; omega) (by omega)]; simp only [Option.bind_some]
    rw [if_pos trivial, if_neg (show ¬ p < 1 by omega), decide_eq_false (show ¬ p > 4 by omega), jobberlaw17_OwnMeets.j0, if_neg (show ¬ (false = true) by decide)]
    by_cases z : l.findIdx (own_Run.P p a) = l.length
    · rw [if_pos (by omega)]
      simp only [if_pos z]
      rw [if_pos (by simp), if_neg (by decide), lv _ rfl]
    · have hlt : l.findIdx (own_Run.P p a) < l.length := by omega
      have hP := List.findIdx_getElem (w := hlt)
      have er : rd_T73 l ((l.findIdx (own_Run.P p a) : Nat) : Int) = l[l.findIdx (own_Run.P p a)] := by unfold rd_T73; simp [hlt]
      unfold own_Run.P at hP
      simp at hP
      have hf : (rd_T73 l ((l.findIdx (own_Run.P p a) : Nat) : Int)).f1 = a := by rw [er]; exact hP.2
      rw [if_neg (by omega)]
      simp only [if_neg z]
      rw [stopsR]; simp only [Option.bind_some]
      rw [if_pos (by simp), dropsR]; simp only [Option.bind_some]
      by_cases d : p = 3 ∨ p = 4
      · rw [decide_eq_true d]
        simp only [if_true]
        rw [if_pos (by simp), if_pos (by simp), if_pos (by omega), if_pos (by omega), if_pos (by rfl), if_pos hf, lv _ rfl]
      · rw [decide_eq_false d]
        simp only [Bool.false_eq_true, if_false]
        rw [if_pos (by simp), if_pos (by omega), if_pos (by omega), if_pos hf, lv _ rfl]
  · have hmeet : own_Meet.f p a l = some ([], [], true) := by
      unfold own_Meet.f
      rw [is_no h]; simp only [Option.bind_some]
      rw [if_neg (by decide)]
    rw [if_neg h, hmeet]; simp only [Option.bind_some]
    rw [run_no l h]; simp only [Option.bind_some]
    rw [if_pos trivial, drops]; simp only [Option.bind_some]
    rw [dropsR]; simp only [Option.bind_some]
    rw [if_neg (by rw [hd]; exact id), stops]; simp only [Option.bind_some]
    rw [stopsR]; simp only [Option.bind_some]
    rw [if_neg (by rw [hd]; exact id), if_pos (by omega), if_pos (by omega)]
    have es : jobberlaw12_Same.f 200 ([] : List S73) ((l.map cv).take (0 : Int).toNat) = some true := same_ok (x := []) (by simp) (by omega)
    rw [es]; simp only [Option.bind_some]
    rw [if_pos trivial]
    have fin : jobberlaw17_OwnMeets.j0 200 p a l 0 [] true true = some true := by
      rw [jobberlaw17_OwnMeets.j0, if_pos rfl, if_pos (by simp), if_pos rfl, lv _ rfl]
    by_cases c1 : p < 1
    · rw [if_pos c1, fin]
    · rw [if_neg c1, decide_eq_true (by omega), fin]
end Go.Proofs.Ytdfkbdcdgbjgcaa.OwnM.M
