/- Stable sorting as a plain law, third part: blocks, doubling, and the order of the book. -/
import Derived.Test.YtjjnbcaemognhaaZClrMathB
namespace Go.Proofs.Ytjjnbcaemognhaa.Clr.M
open Go.RowKit Go.Proofs.Ytjjnbcaemognhaa.Clr Go.Proofs.YtjjnbcaemognhaaW.PrintWords Go.Proofs.YtjjnbcaemognhaaW.PrintLast
open Go.Sort
set_option linter.unusedVariables false
set_option linter.unusedSimpArgs false
inductive Blks (lt : SO → SO → Bool) (bs : Nat) : List SO → Prop
  | last (L : List SO) : L.length ≤ bs → So lt L → Blks lt bs L
  | more (C L : List SO) : C.length = bs → So lt C → Blks lt bs L → Blks lt bs (C ++ L)
section
variable {lt : SO → SO → Bool}
theorem insBlk_list (hs : SW lt) (n : Nat) : ∀ (k : Nat) (A L : List SO) (a : Nat) (d : Array SO), d.toList = A ++ L → a = A.length → n = a + L.length → n < a + k → ∃ Z, (insBlk lt n k a d).toList = A ++ Z ∧ Blks lt 20 Z ∧ SF lt Z L
  | 0, A, L, a, d, h, ha, hn, hk => by omega
  | k + 1, A, L, a, d, h, ha, hn, hk => by
    rw [insBlk]
    by_cases c : a + 20 ≤ n
    · rw [if_pos c]
      obtain ⟨C, L, rfl, hC⟩ := split_at L 20 (by omega)
      obtain ⟨Z, z1, z2, z3⟩ := ins_list hs C A L a (a + 20) d h ha (by omega)
      have zl := len_of (size_insS lt d a (a + 20)) z1 h
      simp only [List.length_append] at hn
      obtain ⟨Z', y1, y2, y3⟩ := insBlk_list hs n k (A ++ Z) L (a + 20) _ (by rw [z1]; simp) (by simp; omega) (by omega) (by omega)
      exact ⟨Z ++ Z', by rw [y1]; simp, .more _ _ (by omega) z2 y2, z3.app y3⟩
    · rw [if_neg c]
      obtain ⟨Z, z1, z2, z3⟩ := ins_list hs L A [] a n d (by rw [h]; simp) ha hn
      have zl := len_of (size_insS lt d a n) z1 (by rw [h, List.append_nil])
      exact ⟨Z, by rw [z1]; simp, .last _ (by omega) z2, z3⟩
theorem mrgBlk_list (hs : SW lt) (n bs : Nat) (h0 : 0 < bs) : ∀ (k : Nat) (A L : List SO) (a : Nat) (d : Array SO), d.toList = A ++ L → a = A.length → n = a + L.length → n < a + k → Blks lt bs L → ∃ Z, (mrgBlk lt n bs k a d).toList = A ++ Z ∧ Blks lt (2 * bs) Z ∧ SF lt Z L
  | 0, A, L, a, d, h, ha, hn, hk, hB => by omega
  | k + 1, A, L, a, d, h, ha, hn, hk, hB => by
    rw [mrgBlk]
    cases hB with
    | last L hl hS =>
      rw [if_neg (by omega), if_neg (by omega)]
      exact ⟨L, h, .last _ (by omega) hS, SF.refl _⟩
    | more C L1 hl hS hB1 =>
      simp only [List.length_append] at hn
      cases hB1 with
      | last L1 hl1 hS1 =>
        by_cases c : a + 2 * bs ≤ n
        · rw [if_pos c]
          obtain ⟨Z, z1, z2, z3⟩ := symM_list hs (2 * bs) A C L1 [] d a (a + bs) (a + 2 * bs) (by rw [h]; simp) ha (by omega) (by omega) (by omega) (by omega) (by omega) hS hS1
          have zl := len_of (L := C ++ L1) (size_symM lt _ _ _ _ d) z1 (by rw [h]; simp)
          simp only [List.length_append] at zl
          obtain ⟨Z', y1, y2, y3⟩ := mrgBlk_list hs n bs h0 k (A ++ Z) [] (a + 2 * bs) _ (by rw [z1]; simp) (by simp; omega) (by simp; omega) (by omega) (.last _ (by simp) List.Pairwise.nil)
          refine ⟨Z ++ Z', by rw [y1]; simp, .more _ _ (by omega) z2 y2, ?_⟩
          have := z3.app y3
          simpa using this
        · rw [if_neg c]
          by_cases c2 : a + bs < n
          · rw [if_pos c2]
            obtain ⟨Z, z1, z2, z3⟩ := symM_list hs (n - a) A C L1 [] d a (a + bs) n (by rw [h]; simp) ha (by omega) (by omega) (by omega) (by omega) (by omega) hS hS1
            have zl := len_of (L := C ++ L1) (size_symM lt _ _ _ _ d) z1 (by rw [h]; simp)
            simp only [List.length_append] at zl
            exact ⟨Z, by rw [z1]; simp, .last _ (by omega) z2, z3⟩
          · rw [if_neg c2]
            obtain rfl := List.eq_nil_of_length_eq_zero (by omega : L1.length = 0)
            exact ⟨C ++ [], h, .last _ (by simp; omega) (by simpa using hS), SF.refl _⟩
      | more C2 L2 hl2 hS2 hB2 =>
        simp only [List.length_append] at hn
        rw [if_pos (by omega)]
        obtain ⟨Z, z1, z2, z3⟩ := symM_list hs (2 * bs) A C C2 L2 d a (a + bs) (a + 2 * bs) h ha (by omega) (by omega) (by omega) (by omega) (by omega) hS hS2
        have zl := len_of (L := C ++ C2) (size_symM lt _ _ _ _ d) z1 (by rw [h]; simp)
        simp only [List.length_append] at zl
        obtain ⟨Z', y1, y2, y3⟩ := mrgBlk_list hs n bs h0 k (A ++ Z) L2 (a + 2 * bs) _ (by rw [z1]; simp) (by simp; omega) (by omega) (by omega) hB2
        refine ⟨Z ++ Z', by rw [y1]; simp, .more _ _ (by omega) z2 y2, ?_⟩
        have := z3.app y3
        simpa using this
theorem Blks.all {n bs : Nat} {L : List SO} (h : Blks lt bs L) (hl : L.length ≤ bs) : So lt L := by
  cases h with
  | last L _ hS => exact hS
  | more C L' hC hS _ =>
    obtain rfl := List.eq_nil_of_length_eq_zero (by simp at hl; omega : L'.length = 0)
    simpa using hS
theorem dblGo_list (hs : SW lt) (n : Nat) : ∀ (k bs : Nat) (d : Array SO), 0 < bs → d.size = n → n < bs + k → Blks lt bs d.toList → So lt (dblGo lt n k bs d).toList ∧ SF lt (dblGo lt n k bs d).toList d.toList
  | 0, bs, d, h0, hn, hk, hB => ⟨hB.all (n := 0) (by simp; omega), SF.refl _⟩
  | k + 1, bs, d, h0, hn, hk, hB => by
    rw [dblGo]
    by_cases c : bs < n
    · rw [if_pos c]
      obtain ⟨Z, z1, z2, z3⟩ := mrgBlk_list hs n bs h0 (n + 1) [] d.toList 0 d rfl rfl (by simp; omega) (by omega) hB
      rw [List.nil_append] at z1
      rw [← z1] at z2 z3
      obtain ⟨y1, y2⟩ := dblGo_list hs n k (2 * bs) _ (by omega) (by rw [size_mrgBlk]; exact hn) (by omega) z2
      exact ⟨y1, y2.trans z3⟩
    · rw [if_neg c]
      exact ⟨hB.all (n := 0) (by simp; omega), SF.refl _⟩
theorem stable_sorts (hs : SW lt) (d : Array SO) : So lt (stableM lt d.size d).toList ∧ SF lt (stableM lt d.size d).toList d.toList := by
  rw [stableM]
  obtain ⟨Z, z1, z2, z3⟩ := insBlk_list hs d.size (d.size + 1) [] d.toList 0 d rfl rfl (by simp) (by omega)
  rw [List.nil_append] at z1
  rw [← z1] at z2 z3
  obtain ⟨y1, y2⟩ := dblGo_list hs d.size (d.size + 1) 20 _ (by omega) (size_insBlk _ _ _ _ _) (by omega) z2
  exact ⟨y1, y2.trans z3⟩
end
def rk (x : SO) : Int := if x.f2 = 1 then 1 else if x.f2 = 2 then 2 else 3
def kp (x : SO) : Int := if x.f2 = 1 then -x.f3 else if x.f2 = 2 then x.f3 else 0
def kq (x : SO) : Int := if x.f2 = 1 then x.f5 else if x.f2 = 2 then x.f5 else 0
def ki (x : SO) : Int := if x.f2 = 1 then x.f0 else if x.f2 = 2 then x.f0 else 0
def lexP (x y : SO) : Prop := rk x < rk y ∨ (rk x = rk y ∧ (kp x < kp y ∨ (kp x = kp y ∧ (kq x < kq y ∨ (kq x = kq y ∧ ki x < ki y)))))
instance (x y : SO) : Decidable (lexP x y) := by unfold lexP; infer_instance
def ltO (x y : SO) : Bool := decide (lexP x y)
theorem ltO_sw : SW ltO where
  irr x := by simp only [ltO, decide_eq_false_iff_not]; unfold lexP; omega
  tr x y z := by simp only [ltO, decide_eq_true_eq]; unfold lexP; omega
  ng x y z := by simp only [ltO, decide_eq_false_iff_not]; unfold lexP; omega
theorem cmpu (a b : Int) : cmp_Compare_uint64.f a b = some (if a < b then -1 else if a > b then 1 else 0) := by
  simp only [cmp_Compare_uint64.f, cmp_isNaN_uint64.f, Option.bind_some, bne_self_eq_false]
  simp only [Bool.false_eq_true, if_false]
  repeat' split
  all_goals rfl
theorem cmpi (a b : Int) : cmp_Compare_int.f a b = some (if a < b then -1 else if a > b then 1 else 0) := by
  simp only [cmp_Compare_int.f, cmp_isNaN_int.f, Option.bind_some, bne_self_eq_false]
  simp only [Bool.false_eq_true, if_false]
  repeat' split
  all_goals rfl
def ahP (s pa qa ia pb qb ib : Int) : Prop := ((s = 1 ∧ pa > pb) ∨ (s = 2 ∧ pb > pa)) ∨ (pa = pb ∧ (qa < qb ∨ (qa = qb ∧ ia < ib)))
instance (s pa qa ia pb qb ib : Int) : Decidable (ahP s pa qa ia pb qb ib) := by unfold ahP; infer_instance
theorem ahead_ok (a0 a1 a3 a4 a5 b0 b1 b3 b4 b5 s : Int) (hs : s = 1 ∨ s = 2) : order_Ahead.f 4 a0 a1 s a3 a4 a5 b0 b1 s b3 b4 b5 = some (decide (ahP s a3 a5 a0 b3 b5 b0)) := by
  simp only [order_Ahead.f, order_Ahead.j0, order_Better.f, cmpu, or_int_two, Option.bind_some, if_true]
  rcases hs with rfl | rfl
  · simp only [if_true]
    rw [if_neg (by decide)]
    by_cases hp : a3 = b3
    · rw [if_pos hp]
      refine congrArg some (decide_eq_decide.2 ?_)
      unfold ahP
      repeat' split
      all_goals omega
    · rw [if_neg hp, if_neg (by decide)]
      refine congrArg some (decide_eq_decide.2 ?_)
      unfold ahP
      omega
  · rw [if_neg (by decide), if_neg (by decide)]
    by_cases hp : a3 = b3
    · rw [if_pos hp]
      refine congrArg some (decide_eq_decide.2 ?_)
      unfold ahP
      repeat' split
      all_goals omega
    · rw [if_neg hp]
      simp only [if_true]
      refine congrArg some (decide_eq_decide.2 ?_)
      unfold ahP
      omega
theorem ahead_no (k : Nat) (a0 a1 a3 a4 a5 b0 b1 b3 b4 b5 s t : Int) (hs : s ≠ t ∨ ¬ (s = 1 ∨ s = 2)) : order_Ahead.f (k + 1) a0 a1 s a3 a4 a5 b0 b1 t b3 b4 b5 = some false := by
  simp only [order_Ahead.f, order_Ahead.j0]
  by_cases h : s = t
  · have hs : ¬ (s = 1 ∨ s = 2) := by rcases hs with q | q; exact absurd h q; exact q
    rw [if_pos h, if_neg (fun h => hs (.inl h)), if_pos]
    simpa using fun h => hs (.inr h)
  · rw [if_neg h]; rfl
theorem rank_eq (x : SO) : order_rank.f x.f2 = some (rk x) := by
  unfold order_rank.f rk
  by_cases h1 : x.f2 = 1
  · simp [h1]
  · by_cases h2 : x.f2 = 2
    · simp [h1, h2]
    · simp [h1, h2]
end Go.Proofs.Ytjjnbcaemognhaa.Clr.M
