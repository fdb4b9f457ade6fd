/- Sums do not hang on the order, and what was added can be taken away again: on numbers. -/
import Derived.Test.YtdfkbdcdgbjgcaaCordSaidCoinOrder
namespace Go.Proofs.Ytdfkbdcdgbjgcaa.Cord.M
open Go.RowKit Go.Proofs.Ytdfkbdcdgbjgcaa.Cord Go.Proofs.YtdfkbdcdgbjgcaaW.PrintWords Go.Proofs.YtdfkbdcdgbjgcaaW.PrintLast
set_option linter.unusedVariables false
set_option linter.unusedSimpArgs false
def I64 (x : Int) : Prop := -9223372036854775808 ≤ x ∧ x ≤ 9223372036854775807
theorem i64_of {x : Int} (h : (Lit.int .i64 x).wf = true) : I64 x := by
  simp [Lit.wf, IntKind.min, IntKind.max, IntKind.signed, IntKind.bits] at h
  unfold I64
  omega
theorem wid {x : Int} (h0 : -9223372036854775808 ≤ x) (h1 : x ≤ 9223372036854775807) : wrap64 x = x := by unfold wrap64; omega
theorem u64w (x : Int) : IntKind.u64.wrap x = x % 18446744073709551616 := rfl
theorem lives {k : Nat} (hk : 8 ≤ k) : jobberlaw01_lives.f k = some true := by
  have e : jobberlaw01_lives.f 8 = some true := by decide +kernel
  have m : ∀ d, jobberlaw01_lives.f (8 + d) = some true := by
    intro d
    induction d with
    | zero => exact e
    | succ d ih => exact jobberlaw01_lives.mono _ _ ih
  have := m (k - 8)
  rwa [show 8 + (k - 8) = k by omega] at this
theorem lv {k : Nat} (hk : 8 ≤ k) : ((jobberlaw01_lives.f k).bind fun t => (some t)) = some true := by rw [lives hk]; rfl
def sm : List Int → Int
  | [] => 0
  | x :: l => x + sm l
theorem sm_append (a b : List Int) : sm (a ++ b) = sm a + sm b := by
  induction a with
  | nil => simp [sm]
  | cons x a ih => simp only [List.cons_append, sm, ih]; omega
theorem sm_reverse (l : List Int) : sm l.reverse = sm l := by
  induction l with
  | nil => rfl
  | cons x l ih => rw [List.reverse_cons, sm_append, ih]; simp only [sm]; omega
def two (t : Int) : Int × Int := (t / 18446744073709551616 % 18446744073709551616, t % 18446744073709551616)
theorem step {t x : Int} (hx : I64 x) : sumStep (two t) x = two (t + x) := by
  unfold sumStep two I64 at *
  simp only [u64w]
  by_cases h : x < 0
  · rw [if_pos h]; congr 1 <;> omega
  · rw [if_neg h]; congr 1 <;> omega
theorem fold {l : List Int} : ∀ {t : Int}, (∀ x ∈ l, I64 x) → l.foldl sumStep (two t) = two (t + sm l) := by
  induction l with
  | nil => intro t _; simp [sm]
  | cons x l ih =>
    intro t h
    rw [List.foldl_cons, step (h x (by simp)), ih (fun y hy => h y (by simp [hy]))]
    congr 1
    simp only [sm]; omega
theorem sum_f {l : List Int} (h : ∀ x ∈ l, I64 x) : coin_Sum.f l = some (sumOut (two (sm l))) := by
  unfold coin_Sum.f
  rw [show ((0 : Int), (0 : Int)) = two 0 by rfl, fold h, Int.zero_add]
theorem add_f {a b : Int} (ha : I64 a) (hb : I64 b) : (I64 (a + b) ∧ coin_Add.f a b = some (a + b, 0)) ∨ coin_Add.f a b = some (0, 10) := by
  unfold I64 at *
  unfold coin_Add.f
  by_cases h : -9223372036854775808 ≤ a + b ∧ a + b ≤ 9223372036854775807
  · rw [wid h.1 h.2]
    split
    · rename_i hc
      split
      · exact Or.inr rfl
      · exact Or.inl ⟨h, rfl⟩
    · exact Or.inl ⟨h, rfl⟩
  · right
    have c : (a < 0 ∧ b < 0 ∧ ¬ wrap64 (a + b) < 0) ∨ (¬ a < 0 ∧ ¬ b < 0 ∧ wrap64 (a + b) < 0) := by unfold wrap64; omega
    rcases c with ⟨h1, h2, h3⟩ | ⟨h1, h2, h3⟩ <;> simp [h1, h2, h3]
theorem sub {a b : Int} (ha : I64 a) (hb : I64 b) (h : I64 (a - b)) : coin_Sub.f a b = some (a - b, 0) := by
  unfold I64 at *
  unfold coin_Sub.f
  rw [wid (by omega) (by omega)]
  split
  · rename_i hc
    rw [if_neg]
    intro h2
    by_cases c1 : a < 0 <;> by_cases c2 : b < 0 <;> by_cases c3 : a - b < 0 <;> simp [c1, c2, c3] at hc h2 <;> omega
  · rfl
theorem sub_any (a b : Int) : ∃ p, coin_Sub.f a b = some p := by
  unfold coin_Sub.f
  split
  · split
    · exact ⟨_, rfl⟩
    · exact ⟨_, rfl⟩
  · exact ⟨_, rfl⟩
theorem rev_step {l : List Int} {i : Nat} (h : i < l.length) : (l.drop (i + 1)).reverse ++ [rd l (i : Int)] = (l.drop i).reverse := by
  have e : rd l (i : Int) = l[i] := by unfold rd; simp [h]
  rw [e, List.drop_eq_getElem_cons h, List.reverse_cons]
theorem end0 {l : List Int} {a b : Int} (hl : ∀ x ∈ l, I64 x) (ha : I64 a) (hb : I64 b) {k : Nat} (hk : 10 ≤ k) : jobberlaw01_CoinOrder.l0 k l a b l.reverse (-1) = some true := by
  obtain ⟨k, rfl⟩ : ∃ m, k = m + 1 := ⟨k - 1, by omega⟩
  simp only [jobberlaw01_CoinOrder.l0]
  rw [if_neg (by omega), sum_f hl, sum_f (fun x hx => hl x (by simpa using hx)), sm_reverse]
  simp only [Option.bind_some]
  rcases add_f ha hb with ⟨h1, h2⟩ | h2
  · rw [h2]
    simp only [Option.bind_some]
    rw [sub h1 hb (by unfold I64 at *; omega)]
    simp only [Option.bind_some]
    simp only [if_true]
    rw [if_pos (by omega), lv (by omega)]
  · rw [h2]
    simp only [Option.bind_some]
    obtain ⟨p, hp⟩ := sub_any 0 b
    rw [hp]
    simp only [Option.bind_some]
    simp only [if_true]
    rw [if_neg (by decide), lv (by omega)]
theorem loop0 {l : List Int} {a b : Int} (hl : ∀ x ∈ l, I64 x) (hn : l.length ≤ 200) (ha : I64 a) (hb : I64 b) : ∀ (i : Nat), i ≤ l.length → ∀ k, 10 + i ≤ k → jobberlaw01_CoinOrder.l0 k l a b (l.drop i).reverse ((i : Int) - 1) = some true
  | 0, _, k, hk => by
    have := end0 hl ha hb (k := k) (by omega)
    simpa using this
  | i + 1, hi, k, hk => by
    obtain ⟨k, rfl⟩ : ∃ m, k = m + 1 := ⟨k - 1, by omega⟩
    have ih := loop0 hl hn ha hb i (by omega) k (by omega)
    simp only [jobberlaw01_CoinOrder.l0]
    rw [show (((i + 1 : Nat) : Int) - 1) = (i : Int) by omega, if_pos (by omega), if_pos (by omega), if_pos (by omega), if_pos (by rw [List.length_reverse, List.length_drop]; omega), rev_step (by omega), wid (by omega) (by omega)]
    exact ih
theorem end1 {l : List Int} {a b : Int} (hl : ∀ x ∈ l, I64 x) (ha : I64 a) (hb : I64 b) {k : Nat} (hk : 10 ≤ k) : jobberlaw01_CoinOrder.l1 k l a b l.reverse (-1) = some true := by
  obtain ⟨k, rfl⟩ : ∃ m, k = m + 1 := ⟨k - 1, by omega⟩
  simp only [jobberlaw01_CoinOrder.l1]
  rw [if_neg (by omega), sum_f hl, sum_f (fun x hx => hl x (by simpa using hx)), sm_reverse]
  simp only [Option.bind_some]
  rcases add_f ha hb with ⟨h1, h2⟩ | h2
  · rw [h2]
    simp only [Option.bind_some]
    rw [sub h1 hb (by unfold I64 at *; omega)]
    simp only [Option.bind_some]
    simp only [if_true]
    rw [if_pos (by omega), lv (by omega)]
  · rw [h2]
    simp only [Option.bind_some]
    obtain ⟨p, hp⟩ := sub_any 0 b
    rw [hp]
    simp only [Option.bind_some]
    simp only [if_true]
    rw [if_neg (by decide), lv (by omega)]
theorem loop1 {l : List Int} {a b : Int} (hl : ∀ x ∈ l, I64 x) (hn : l.length ≤ 200) (ha : I64 a) (hb : I64 b) : ∀ (i : Nat), i ≤ l.length → ∀ k, 10 + i ≤ k → jobberlaw01_CoinOrder.l1 k l a b (l.drop i).reverse ((i : Int) - 1) = some true
  | 0, _, k, hk => by
    have := end1 hl ha hb (k := k) (by omega)
    simpa using this
  | i + 1, hi, k, hk => by
    obtain ⟨k, rfl⟩ : ∃ m, k = m + 1 := ⟨k - 1, by omega⟩
    have ih := loop1 hl hn ha hb i (by omega) k (by omega)
    simp only [jobberlaw01_CoinOrder.l1]
    rw [show (((i + 1 : Nat) : Int) - 1) = (i : Int) by omega, if_pos (by omega), if_pos (by omega), if_pos (by omega), if_pos (by rw [List.length_reverse, List.length_drop]; omega), rev_step (by omega), wid (by omega) (by omega)]
    exact ih
theorem law {l : List Int} {a b : Int} (hl : ∀ x ∈ l, I64 x) (hm : l.length ≤ maxLen) (ha : I64 a) (hb : I64 b) : ∃ k, jobberlaw01_CoinOrder.f k l a b = some true := by
  refine ⟨300, ?_⟩
  unfold jobberlaw01_CoinOrder.f
  by_cases c : (l.length : Int) > 200
  · rw [if_pos c, if_pos (by omega)]
    have hn : (l.take 200).length = 200 := by rw [List.length_take]; omega
    have := loop0 (l := l.take 200) (fun x hx => hl x (List.mem_of_mem_take hx)) (by omega) ha hb 200 (by omega) 300 (by omega)
    rw [List.drop_eq_nil_of_le (by omega)] at this
    rw [hn, wid (by omega) (by omega)]
    exact this
  · rw [if_neg c]
    have := loop1 (l := l) hl (by omega) ha hb l.length (by omega) 300 (by omega)
    rw [List.drop_eq_nil_of_le (by omega)] at this
    rw [wid (by omega) (by omega)]
    exact this
end Go.Proofs.Ytdfkbdcdgbjgcaa.Cord.M
