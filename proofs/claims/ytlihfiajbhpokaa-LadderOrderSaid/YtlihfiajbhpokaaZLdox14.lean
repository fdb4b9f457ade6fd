/- Printed by this session's wip/drive.py over the translation; some functions by hand. -/
import Derived.Test.YtlihfiajbhpokaaZLdox0
import Derived.Test.YtlihfiajbhpokaaZLdox2
import Derived.Test.YtlihfiajbhpokaaZLdox3
import Derived.Test.YtlihfiajbhpokaaZLdox4
import Derived.Test.YtlihfiajbhpokaaZLdox6
import Derived.Test.YtlihfiajbhpokaaZLdox8
import Derived.Test.YtlihfiajbhpokaaZLdox10
import Derived.Test.YtlihfiajbhpokaaZLdox11
import Derived.Test.YtlihfiajbhpokaaZLdox12
import Derived.Test.YtlihfiajbhpokaaZLdox13
namespace Go.Proofs.Ytlihfiajbhpokaa.Ldo
open Go.RowKit Go.Proofs.YtlihfiajbhpokaaW.PrintWords Go.Proofs.YtlihfiajbhpokaaW.PrintLast Go.Proofs.YtlihfiajbhpokaaW.PrintMore
attribute [local go_sem] max2_int min2_int max_two min_two max_three min_three max_four min_four
set_option linter.unusedVariables false
set_option linter.unusedSimpArgs false
section
structure SW {α : Type} (lt : α → α → Bool) : Prop where
  irr : ∀ x, lt x x = false
  tr : ∀ x y z, lt x y = true → lt y z = true → lt x z = true
  ng : ∀ x y z, lt x y = false → lt y z = false → lt x z = false
variable {α : Type} {lt : α → α → Bool}
theorem SW.as (h : SW lt) {x y : α} (hx : lt x y = true) : lt y x = false := by
  cases e : lt y x with
  | false => rfl
  | true => have := h.tr _ _ _ hx e; rw [h.irr] at this; cases this
theorem SW.lt_of' (h : SW lt) {x y z : α} (h1 : lt y x = true) (h2 : lt z x = false) : lt y z = true := by
  cases e : lt y z with
  | true => rfl
  | false => have := h.ng _ _ _ e h2; rw [h1] at this; cases this
def evO (lt : α → α → Bool) (z x : α) : Bool := !lt z x && !lt x z
theorem ev_iff {z x : α} : evO lt z x = true ↔ lt z x = false ∧ lt x z = false := by simp [evO]
def So (lt : α → α → Bool) (l : List α) : Prop := l.Pairwise fun x y => lt y x = false
def SF (lt : α → α → Bool) (l l' : List α) : Prop := ∀ z, l.filter (evO lt z) = l'.filter (evO lt z)
theorem SF.refl (l : List α) : SF lt l l := fun _ => rfl
theorem SF.symm {l l' : List α} (h : SF lt l l') : SF lt l' l := fun z => (h z).symm
theorem SF.trans {l l' l'' : List α} (h : SF lt l l') (h' : SF lt l' l'') : SF lt l l'' := fun z => (h z).trans (h' z)
theorem SF.app {l l' m m' : List α} (h : SF lt l l') (h' : SF lt m m') : SF lt (l ++ m) (l' ++ m') := fun z => by rw [List.filter_append, List.filter_append, h z, h' z]
theorem SF.mem (hs : SW lt) {l l' : List α} (h : SF lt l l') (x : α) : x ∈ l ↔ x ∈ l' := by
  have e : evO lt x x = true := ev_iff.2 ⟨hs.irr x, hs.irr x⟩
  have : x ∈ l.filter (evO lt x) ↔ x ∈ l'.filter (evO lt x) := by rw [h x]
  simpa [List.mem_filter, e] using this
theorem SF.swap (hs : SW lt) {X Y : List α} (h : ∀ x ∈ X, ∀ y ∈ Y, lt y x = true) : SF lt (X ++ Y) (Y ++ X) := by
  intro z
  rw [List.filter_append, List.filter_append]
  by_cases hx : X.filter (evO lt z) = []
  · rw [hx]; simp
  · by_cases hy : Y.filter (evO lt z) = []
    · rw [hy]; simp
    · exfalso
      obtain ⟨x, hx'⟩ := List.exists_mem_of_ne_nil _ hx
      obtain ⟨y, hy'⟩ := List.exists_mem_of_ne_nil _ hy
      rw [List.mem_filter] at hx' hy'
      have a := ev_iff.1 hx'.2
      have b := ev_iff.1 hy'.2
      have c := h x hx'.1 y hy'.1
      have d := hs.ng _ _ _ b.2 a.1
      rw [c] at d; cases d
theorem uniq (hs : SW lt) : ∀ (l l' : List α), So lt l → So lt l' → SF lt l l' → l = l'
  | [], [], _, _, _ => rfl
  | [], y :: t, _, _, h => by have := (h.mem hs y).2 (List.mem_cons_self ..); cases this
  | x :: t, [], _, _, h => by have := (h.mem hs x).1 (List.mem_cons_self ..); cases this
  | x :: t, y :: t', h1, h2, h => by
    have hx := (h.mem hs x).1 (List.mem_cons_self ..)
    have hy := (h.mem hs y).2 (List.mem_cons_self ..)
    have h1' := List.pairwise_cons.1 h1
    have h2' := List.pairwise_cons.1 h2
    have a : lt x y = false := by
      rcases List.mem_cons.1 hx with e | e
      · rw [e]; exact hs.irr _
      · exact h2'.1 x e
    have b : lt y x = false := by
      rcases List.mem_cons.1 hy with e | e
      · rw [e]; exact hs.irr _
      · exact h1'.1 y e
    have hh := h x
    rw [List.filter_cons_of_pos (ev_iff.2 ⟨hs.irr x, hs.irr x⟩), List.filter_cons_of_pos (ev_iff.2 ⟨a, b⟩)] at hh
    injection hh with e1 e2
    subst e1
    refine congrArg (x :: ·) (uniq hs t t' h1'.2 h2'.2 fun z => ?_)
    have hz := h z
    by_cases c : evO lt z x = true
    · rw [List.filter_cons_of_pos c, List.filter_cons_of_pos c] at hz
      injection hz
    · rwa [List.filter_cons_of_neg c, List.filter_cons_of_neg c] at hz
theorem So.app {l m : List α} (h1 : So lt l) (h2 : So lt m) (h : ∀ x ∈ l, ∀ y ∈ m, lt y x = false) : So lt (l ++ m) := List.pairwise_append.2 ⟨h1, h2, h⟩
theorem So.of_app {l m : List α} (h : So lt (l ++ m)) : So lt l ∧ So lt m ∧ ∀ x ∈ l, ∀ y ∈ m, lt y x = false := List.pairwise_append.1 h
variable {α : Type} [Inhabited α]
theorem cons_of {α : Type} {l : List α} (h : 0 < l.length) : ∃ x l', l = x :: l' := by
  cases l with
  | nil => cases h
  | cons x l => exact ⟨x, l, rfl⟩
def rkO (x : SOr) : Int := if x.f2 = 1 then 1 else if x.f2 = 2 then 2 else 3
def kpO (x : SOr) : Int := if x.f2 = 1 then -x.f3 else if x.f2 = 2 then x.f3 else 0
def kqO (x : SOr) : Int := if x.f2 = 1 then x.f5 else if x.f2 = 2 then x.f5 else 0
def kiO (x : SOr) : Int := if x.f2 = 1 then x.f0 else if x.f2 = 2 then x.f0 else 0
def lexP (x y : SOr) : Prop := rkO x < rkO y ∨ (rkO x = rkO y ∧ (kpO x < kpO y ∨ (kpO x = kpO y ∧ (kqO x < kqO y ∨ (kqO x = kqO y ∧ kiO x < kiO y)))))
instance (x y : SOr) : Decidable (lexP x y) := by unfold lexP; infer_instance
def ltO (x y : SOr) : Bool := decide (lexP x y)
theorem ltO_sw : SW ltO where
  irr x := by simp only [ltO, decide_eq_false_iff_not]; unfold lexP; omega
  tr x y z := by simp only [ltO, decide_eq_true_eq]; unfold lexP; omega
  ng x y z := by simp only [ltO, decide_eq_false_iff_not]; unfold lexP; omega
theorem cmpu (a b : Int) : cmp_Compare_uint64.f a b = some (if a < b then -1 else if a > b then 1 else 0) := by
  simp only [cmp_Compare_uint64.f, cmp_isNaN_uint64.f, Option.bind_some, bne_self_eq_false]
  simp only [Bool.false_eq_true, if_false]
  repeat' split
  all_goals rfl
def ahP (s pa qa ia pb qb ib : Int) : Prop := ((s = 1 ∧ pa > pb) ∨ (s = 2 ∧ pb > pa)) ∨ (pa = pb ∧ (qa < qb ∨ (qa = qb ∧ ia < ib)))
instance (s pa qa ia pb qb ib : Int) : Decidable (ahP s pa qa ia pb qb ib) := by unfold ahP; infer_instance
theorem ahead_ok (a0 a1 a3 a4 a5 b0 b1 b3 b4 b5 s : Int) (hs : s = 1 ∨ s = 2) : order_Ahead.f 4 a0 a1 s a3 a4 a5 b0 b1 s b3 b4 b5 = some (decide (ahP s a3 a5 a0 b3 b5 b0)) := by
  simp only [order_Ahead.f, order_Ahead.j0, order_Better.f, cmpu, or_int_two, Option.bind_some, if_true]
  rcases hs with rfl | rfl
  · simp only [if_true]
    rw [if_neg (by decide)]
    by_cases hp : a3 = b3
    · rw [if_pos hp]
      refine congrArg some (decide_eq_decide.2 ?_)
      unfold ahP
      repeat' split
      all_goals omega
    · rw [if_neg hp, if_neg (by decide)]
      refine congrArg some (decide_eq_decide.2 ?_)
      unfold ahP
      omega
  · rw [if_neg (by decide), if_neg (by decide)]
    by_cases hp : a3 = b3
    · rw [if_pos hp]
      refine congrArg some (decide_eq_decide.2 ?_)
      unfold ahP
      repeat' split
      all_goals omega
    · rw [if_neg hp]
      simp only [if_true]
      refine congrArg some (decide_eq_decide.2 ?_)
      unfold ahP
      omega
theorem rd41 (l A R : List SOr) (x : SOr) (i : Nat) (h : l = A ++ x :: R) (hi : i = A.length) : rd_T41 (l.map tor) (i : Int) = tor x := by
  subst h hi
  simp [rd_T41]
theorem rd33 (l A R : List SOr) (x : SOr) (i : Nat) (h : l = A ++ x :: R) (hi : i = A.length) : rd_T33 l (i : Int) = x := by
  subst h hi
  simp [rd_T33]
theorem wn {i : Nat} (h : i < 1000000000) : wrap64 ((i : Int) + 1) = ((i + 1 : Nat) : Int) := by unfold wrap64; omega
theorem same_l0 : ∀ (R A : List SOr) (j : Nat), (A ++ R).length < 1000000 → jobberlaw12_Same.l0 (j + R.length + 1) (A ++ R) ((A ++ R).map tor) ((A ++ R).length : Int) (A.length : Int) = some true
  | [], A, j, h => by
    rw [jobberlaw12_Same.l0, if_neg (by simp)]
  | x :: R, A, j, h => by
    have hr := rd33 (A ++ x :: R) A R x A.length rfl rfl
    have hr2 := rd41 (A ++ x :: R) A R x A.length rfl rfl
    simp only [List.length_append, List.length_cons] at h
    rw [jobberlaw12_Same.l0, if_pos (by simp; omega), if_pos (by omega), if_pos (by simp; omega), if_pos (by simp; omega), hr, hr2, if_neg (by simp [tor]), wn (by omega)]
    have := same_l0 R (A ++ [x]) j (by simp; omega)
    simp only [List.append_assoc, List.singleton_append, List.map_append, List.map_cons, List.map_nil, List.length_append, List.length_cons, List.length_nil] at this ⊢
    rw [show j + (R.length + 1) = j + R.length + 1 by omega]
    exact this
theorem same_eq (l : List SOr) (k : Nat) (hl : l.length < 1000000) (hk : l.length < k) : jobberlaw12_Same.f k l (l.map tor) = some true := by
  have := same_l0 l [] (k - l.length - 1) (by simpa using hl)
  rw [show k - l.length - 1 + l.length + 1 = k by omega] at this
  rw [jobberlaw12_Same.f, if_pos (by simp)]
  exact this
def clsO (x : SOr) : Int := if x.f2 < 1 ∨ x.f2 > 2 then 0 else x.f2
def cpO (c : Int) (x : SOr) : Bool := decide (clsO x = c)
theorem side_j1 (l A R : List SOr) (x : SOr) (c : Int) (acc : List SOr) (j : Nat) (b : Bool) (hl : l = A ++ x :: R) (hn : l.length < 1000000) (ha : acc.length ≤ A.length) (hb : b = decide (x.f2 < 1 ∨ x.f2 > 2)) :
    jobberref12_side.j1 (j + 1) (l.map tor) c (acc.map tor) (A.length : Int) x.f2 b = jobberref12_side.l0 j (l.map tor) c ((acc ++ (if cpO c x then [x] else [])).map tor) ((A.length + 1 : Nat) : Int) := by
  have hr := rd41 l A R x A.length hl rfl
  have hlen : l.length = A.length + R.length + 1 := by rw [hl]; simp; omega
  rw [jobberref12_side.j1, hr, wn (by omega)]
  have g1 : (0 : Int) ≤ (A.length : Int) := by omega
  have g2 : (A.length : Int) < ((l.map tor).length : Int) := by simp; omega
  have g3 : (acc.map tor).length < 2932031007402 := by simp; omega
  simp only [if_pos g1, if_pos g2, if_pos g3]
  have hm : ∀ c' : Prop, [Decidable c'] → (acc.map tor ++ [(⟨(tor x).f0, (tor x).f1, (tor x).f2, (tor x).f3, (tor x).f4, (tor x).f5⟩ : S41)]) = (acc ++ [x]).map tor := fun _ _ => by simp [tor]
  by_cases q : x.f2 < 1 ∨ x.f2 > 2
  · have e : clsO x = 0 := if_pos q
    rw [hb, decide_eq_true q, if_pos rfl]
    by_cases h0 : (0 : Int) = c
    · rw [if_pos h0, hm True, if_pos (by simp [cpO, e, h0])]
    · rw [if_neg h0, if_neg (by simp [cpO, e, h0]), List.append_nil]
  · have e : clsO x = x.f2 := if_neg q
    rw [hb, decide_eq_false q, if_neg (by decide)]
    by_cases h0 : x.f2 = c
    · rw [if_pos h0, hm True, if_pos (by simp [cpO, e, h0])]
    · rw [if_neg h0, if_neg (by simp [cpO, e, h0]), List.append_nil]
theorem side_l0 (l : List SOr) (c : Int) (hn : l.length < 1000000) : ∀ (R A : List SOr) (j : Nat), l = A ++ R → jobberref12_side.l0 (j + 2 * R.length + 1) (l.map tor) c ((A.filter (cpO c)).map tor) (A.length : Int) = some ((l.filter (cpO c)).map tor)
  | [], A, j, h => by
    rw [jobberref12_side.l0, if_neg (by rw [h]; simp)]
    rw [h, List.append_nil]
  | x :: R, A, j, h => by
    have hr := rd41 l A R x A.length h rfl
    have hlen : l.length = A.length + R.length + 1 := by rw [h]; simp; omega
    have ih := side_l0 l c hn R (A ++ [x]) j (by rw [h]; simp)
    have hj := fun b hb => side_j1 l A R x c (A.filter (cpO c)) (j + 2 * R.length + 1) b h hn (List.length_filter_le _ _) hb
    have ef : (A ++ [x]).filter (cpO c) = A.filter (cpO c) ++ (if cpO c x then [x] else []) := by
      rw [List.filter_append]; cases e : cpO c x <;> simp [List.filter, e]
    rw [List.length_append, List.length_singleton, ef] at ih
    rw [List.length_cons, show j + 2 * (R.length + 1) + 1 = j + 2 * R.length + 1 + 1 + 1 by omega, jobberref12_side.l0, if_pos (by simp; omega), if_pos (by omega), hr]
    show (if x.f2 < 1 then jobberref12_side.j1 _ _ _ _ _ x.f2 true else jobberref12_side.j1 _ _ _ _ _ x.f2 (decide (x.f2 > 2))) = _
    by_cases q : x.f2 < 1
    · rw [if_pos q, hj true (by simp [q])]; exact ih
    · rw [if_neg q, hj _ (by simp [q])]; exact ih
theorem side_eq (l : List SOr) (c : Int) (k : Nat) (hn : l.length < 1000000) (hk : 2 * l.length < k) : jobberref12_side.f k (l.map tor) c = some ((l.filter (cpO c)).map tor) := by
  have := side_l0 l c hn l [] (k - 2 * l.length - 1) rfl
  rw [show k - 2 * l.length - 1 + 2 * l.length + 1 = k by omega] at this
  exact this
theorem ref_ahead (x y : SOr) (r : Int) (hr : r = 1 ∨ r = 2) (hx : x.f2 = r) (hy : y.f2 = r) (k : Nat) :
    jobberref12_Ahead.f (k + 1) (tor x).f0 (tor x).f1 (tor x).f2 (tor x).f3 (tor x).f4 (tor x).f5 (tor y).f0 (tor y).f1 (tor y).f2 (tor y).f3 (tor y).f4 (tor y).f5 = some (ltO x y) := by
  show jobberref12_Ahead.f (k + 1) x.f0 x.f1 x.f2 x.f3 x.f4 x.f5 y.f0 y.f1 y.f2 y.f3 y.f4 y.f5 = some (decide (lexP x y))
  rw [hx, hy]
  have e : jobberref12_Ahead.f (k + 1) x.f0 x.f1 r x.f3 x.f4 x.f5 y.f0 y.f1 r y.f3 y.f4 y.f5 = jobberref12_Ahead.j0 (k + 1) false x.f0 x.f1 r x.f3 x.f4 x.f5 y.f0 y.f1 r y.f3 y.f4 y.f5 := by
    rw [jobberref12_Ahead.f, if_pos rfl, if_neg (by omega), decide_eq_false (by omega)]
  have L : lexP x y ↔ ((if r = 1 then x.f3 > y.f3 else x.f3 < y.f3) ∨ (x.f3 = y.f3 ∧ (x.f5 < y.f5 ∨ (x.f5 = y.f5 ∧ x.f0 < y.f0)))) := by
    unfold lexP rkO kpO kqO kiO
    rw [hx, hy]
    rcases hr with rfl | rfl
    · simp
    · simp
  rw [e, jobberref12_Ahead.j0, if_neg (by decide)]
  by_cases h3 : x.f3 = y.f3
  · rw [if_pos h3]
    by_cases h5 : x.f5 = y.f5
    · rw [if_pos h5]
      refine congrArg some (decide_eq_decide.2 (Iff.trans ?_ L.symm))
      split <;> omega
    · rw [if_neg h5]
      refine congrArg some (decide_eq_decide.2 (Iff.trans ?_ L.symm))
      split <;> omega
  · rw [if_neg h3]
    rcases hr with rfl | rfl
    · unfold jobberref12_Better.f
      rw [if_pos rfl]
      by_cases c : x.f3 > y.f3
      · rw [if_pos c]
        exact congrArg some (decide_eq_true (L.2 (by rw [if_pos rfl]; exact .inl c))).symm
      · rw [if_neg c, if_neg (by decide)]
        exact congrArg some (decide_eq_false (fun q => by have := L.1 q; rw [if_pos rfl] at this; omega)).symm
    · unfold jobberref12_Better.f
      rw [if_neg (by decide), if_pos rfl]
      refine congrArg some (decide_eq_decide.2 (Iff.trans ?_ L.symm))
      rw [if_neg (by decide)]; omega
def ndO : Nat → Nat
  | 0 => 1
  | n + 1 => ndO n + n + 2
theorem sel_l1 (l : List SOr) (r : Int) (hr : r = 1 ∨ r = 2) (hl : ∀ x ∈ l, x.f2 = r) (hn : l.length < 1000000) : ∀ (R P M : List SOr) (x : SOr), l = P ++ x :: (M ++ R) → (∀ p ∈ P, ltO x p = true) → (∀ m ∈ M, ltO m x = false) →
    ∃ P' x' M', l = P' ++ x' :: M' ∧ (∀ p ∈ P', ltO x' p = true) ∧ (∀ m ∈ M', ltO m x' = false) ∧ ∀ (j : Nat) (x3 : List S41), x3.length < 1000000 → jobberref12_sorted.l1 (j + R.length + 1) (l.map tor) x3 (P.length : Int) ((P.length + 1 + M.length : Nat) : Int) = jobberref12_sorted.l0 j ((P' ++ M').map tor) (x3 ++ [tor x'])
  | [], P, M, x, h, hp, hm => by
    refine ⟨P, x, M, by rw [h, List.append_nil], hp, hm, fun j x3 h3 => ?_⟩
    have hrd := rd41 l P (M ++ []) x P.length h rfl
    have hlen : l.length = P.length + M.length + 1 := by rw [h]; simp; omega
    rw [jobberref12_sorted.l1, if_neg (by simp; omega), if_pos (by omega), if_pos (by simp; omega), if_pos (by omega), if_pos (by simp; omega)]
    simp only [Option.bind_some, List.nil_append, List.length_nil, Nat.zero_add, wn (show P.length < 1000000000 by omega), hrd]
    rw [if_pos (by simp; omega), if_pos (by omega), if_pos (by simp; omega), if_pos (by simp; omega)]
    have e1 : (List.map tor l).take ((P.length : Int)).toNat = P.map tor := by rw [h]; simp
    have e2 : (List.map tor l).drop (((P.length + 1 : Nat) : Int)).toNat = M.map tor := by
      rw [h, show ((P.length + 1 : Nat) : Int).toNat = P.length + 1 by omega, List.append_nil, List.map_append, List.map_cons, List.drop_append, List.drop_eq_nil_of_le (by simp), List.nil_append, List.length_map, show P.length + 1 - P.length = 1 by omega]
      rfl
    rw [e1, e2, List.map_append]
    rfl
  | y :: R, P, M, x, h, hp, hm => by
    have hrx := rd41 l P (M ++ y :: R) x P.length h rfl
    have hry := rd41 l (P ++ x :: M) R y (P.length + 1 + M.length) (by rw [h]; simp) (by simp; omega)
    have hlen : l.length = P.length + M.length + R.length + 2 := by rw [h]; simp; omega
    have hx : x.f2 = r := hl x (by rw [h]; simp)
    have hy : y.f2 = r := hl y (by rw [h]; simp)
    have step : ∀ (j : Nat) (x3 : List S41), jobberref12_sorted.l1 (j + (y :: R).length + 1) (l.map tor) x3 (P.length : Int) ((P.length + 1 + M.length : Nat) : Int) = if ltO y x = true then jobberref12_sorted.l1 (j + R.length + 1) (l.map tor) x3 ((P.length + 1 + M.length : Nat) : Int) ((P.length + 1 + M.length + 1 : Nat) : Int) else jobberref12_sorted.l1 (j + R.length + 1) (l.map tor) x3 (P.length : Int) ((P.length + 1 + M.length + 1 : Nat) : Int) := by
      intro j x3
      rw [List.length_cons, show j + (R.length + 1) + 1 = (j + R.length + 1) + 1 by omega, jobberref12_sorted.l1, if_pos (by simp; omega), if_pos (by omega), if_pos (by omega), if_pos (by simp; omega), hrx, hry, ref_ahead y x r hr hy hx, wn (by omega)]
      rfl
    by_cases c : ltO y x = true
    · obtain ⟨P', x', M', a1, a2, a3, a4⟩ := sel_l1 l r hr hl hn R (P ++ x :: M) [] y (by rw [h]; simp) (fun p hp' => by
        rcases List.mem_append.1 hp' with q | q
        · exact ltO_sw.tr _ _ _ c (hp p q)
        · rcases List.mem_cons.1 q with q | q
          · rw [q]; exact c
          · exact ltO_sw.lt_of' c (hm p q)) (fun m hm' => by cases hm')
      refine ⟨P', x', M', a1, a2, a3, fun j x3 h3 => ?_⟩
      rw [step, if_pos c, ← a4 j x3 h3]
      simp only [List.length_append, List.length_cons, List.length_nil, Nat.add_zero]
      rw [show P.length + (M.length + 1) = P.length + 1 + M.length by omega]
    · obtain ⟨P', x', M', a1, a2, a3, a4⟩ := sel_l1 l r hr hl hn R P (M ++ [y]) x (by rw [h]; simp) hp (fun m hm' => by
        rcases List.mem_append.1 hm' with q | q
        · exact hm m q
        · rw [List.mem_singleton.1 q]; simpa using c)
      refine ⟨P', x', M', a1, a2, a3, fun j x3 h3 => ?_⟩
      rw [step, if_neg c, ← a4 j x3 h3]
      simp only [List.length_append, List.length_cons, List.length_nil]
      rw [show P.length + 1 + (M.length + (0 + 1)) = P.length + 1 + M.length + 1 by omega]
theorem sel_l0 (r : Int) (hr : r = 1 ∨ r = 2) : ∀ (n : Nat) (l : List SOr), l.length = n → (∀ x ∈ l, x.f2 = r) → n < 1000000 → ∃ s, So ltO s ∧ SF ltO s l ∧ s.length = l.length ∧ ∀ (k : Nat) (x3 : List S41), ndO n ≤ k → x3.length + n < 1000000 → jobberref12_sorted.l0 k (l.map tor) x3 = some (x3 ++ s.map tor)
  | 0, l, hn, hl, h => by
    obtain rfl := List.eq_nil_of_length_eq_zero hn
    refine ⟨[], List.Pairwise.nil, SF.refl _, rfl, fun k x3 hk h3 => ?_⟩
    obtain ⟨k, rfl⟩ : ∃ k', k = k' + 1 := ⟨k - 1, by simp only [ndO] at hk; omega⟩
    rw [jobberref12_sorted.l0, if_neg (by simp)]
    simp
  | n + 1, l, hn, hl, h => by
    obtain ⟨x, R, rfl⟩ := cons_of (by omega : 0 < l.length)
    have hR : R.length = n := by simpa using hn
    obtain ⟨P, x', M, e, hp, hm, he⟩ := sel_l1 (x :: R) r hr hl (by omega) R [] [] x rfl (fun _ h => by cases h) (fun _ h => by cases h)
    have hlen : P.length + M.length = n := by have := congrArg List.length e; simp at this; omega
    obtain ⟨s, s1, s2, s3, s4⟩ := sel_l0 r hr n (P ++ M) (by simp; omega) (fun y hy => hl y (by rw [e]; rcases List.mem_append.1 hy with q | q <;> simp [q])) (by omega)
    have sf : SF ltO (x' :: s) (x :: R) := by
      rw [e]
      refine SF.trans (l' := [x'] ++ (P ++ M)) (SF.app (l := [x']) (SF.refl _) s2) ?_
      rw [← List.append_assoc, show P ++ x' :: M = P ++ [x'] ++ M by simp]
      exact SF.app (SF.symm (SF.swap ltO_sw (fun p hp' y hy => by rw [List.mem_singleton.1 hy]; exact hp p hp'))) (SF.refl _)
    refine ⟨x' :: s, List.pairwise_cons.2 ⟨fun y hy => ?_, s1⟩, sf, by simp at s3 ⊢; omega, fun k x3 hk h3 => ?_⟩
    · rcases List.mem_append.1 ((s2.mem ltO_sw y).1 hy) with q | q
      · exact ltO_sw.as (hp y q)
      · exact hm y q
    · simp only [ndO] at hk
      obtain ⟨j, rfl⟩ : ∃ j, k = j + n + 1 + 1 := ⟨k - n - 2, by omega⟩
      have e3 := he j x3 (by omega)
      rw [hR] at e3
      simp only [List.length_nil, Nat.zero_add, Nat.add_zero] at e3
      rw [jobberref12_sorted.l0, if_pos (by simp)]
      have e3' : jobberref12_sorted.l1 (j + n + 1) (List.map tor (x :: R)) x3 0 1 = jobberref12_sorted.l0 j (List.map tor (P ++ M)) (x3 ++ [tor x']) := e3
      rw [e3']
      rw [s4 j _ (by omega) (by simp; omega)]
      simp
theorem nd_mono {a b : Nat} (h : a ≤ b) : ndO a ≤ ndO b := by
  induction h with
  | refl => exact Nat.le_refl _
  | step _ ih => exact Nat.le_trans ih (by simp only [ndO]; omega)
theorem cls_rk (x : SOr) : (clsO x = 1 ∧ rkO x = 1 ∧ x.f2 = 1) ∨ (clsO x = 2 ∧ rkO x = 2 ∧ x.f2 = 2) ∨ (clsO x = 0 ∧ rkO x = 3) := by
  unfold clsO rkO
  by_cases h1 : x.f2 = 1
  · exact .inl ⟨by rw [if_neg (by omega)]; exact h1, if_pos h1, h1⟩
  · by_cases h2 : x.f2 = 2
    · exact .inr (.inl ⟨by rw [if_neg (by omega)]; exact h2, by rw [if_neg h1, if_pos h2], h2⟩)
    · exact .inr (.inr ⟨if_pos (by omega), by rw [if_neg h1, if_neg h2]⟩)
theorem ltO_rk {x y : SOr} (h : rkO x < rkO y) : ltO y x = false := by
  refine decide_eq_false ?_
  unfold lexP; omega
theorem ev_rk {z x : SOr} (h : evO ltO z x = true) : rkO x = rkO z := by
  have := ev_iff.1 h
  simp only [ltO, decide_eq_false_iff_not] at this
  unfold lexP at this; omega
theorem ltO_none {x y : SOr} (hx : rkO x = 3) (hy : rkO y = 3) : ltO x y = false := by
  refine decide_eq_false ?_
  have : ∀ z : SOr, rkO z = 3 → kpO z = 0 ∧ kqO z = 0 ∧ kiO z = 0 := by
    intro z hz
    unfold rkO at hz
    have h1 : ¬ z.f2 = 1 := fun q => by rw [if_pos q] at hz; omega
    have h2 : ¬ z.f2 = 2 := fun q => by rw [if_neg h1, if_pos q] at hz; omega
    unfold kpO kqO kiO
    simp only [if_neg h1, if_neg h2]
    exact ⟨trivial, trivial, trivial⟩
  have a := this x hx
  have b := this y hy
  unfold lexP; omega
theorem mem_cp {c : Int} {l : List SOr} {x : SOr} (h : x ∈ l.filter (cpO c)) : clsO x = c := by
  have := (List.mem_filter.1 h).2
  simpa [cpO] using this
theorem sf_parts (l : List SOr) : SF ltO (l.filter (cpO 1) ++ (l.filter (cpO 2) ++ l.filter (cpO 0))) l := by
  intro z
  rw [List.filter_append, List.filter_append, List.filter_filter, List.filter_filter, List.filter_filter]
  have none_ : ∀ c : Int, clsO z ≠ c → l.filter (fun a => evO ltO z a && cpO c a) = [] := by
    intro c hc
    refine List.filter_eq_nil_iff.2 fun x hx => ?_
    intro q
    simp only [Bool.and_eq_true, cpO, decide_eq_true_eq] at q
    have e := ev_rk q.1
    rcases cls_rk x with h | h | h <;> rcases cls_rk z with g | g | g <;> omega
  have all_ : ∀ c : Int, clsO z = c → l.filter (fun a => evO ltO z a && cpO c a) = l.filter (evO ltO z) := by
    intro c hc
    refine List.filter_congr fun x hx => ?_
    cases q : evO ltO z x with
    | false => rfl
    | true =>
      have e := ev_rk q
      have : clsO x = c := by rcases cls_rk x with h | h | h <;> rcases cls_rk z with g | g | g <;> omega
      simp [cpO, this]
  rcases cls_rk z with g | g | g
  · rw [all_ 1 g.1, none_ 2 (by omega), none_ 0 (by omega)]; simp
  · rw [none_ 1 (by omega), all_ 2 g.1, none_ 0 (by omega)]; simp
  · rw [none_ 1 (by omega), none_ 2 (by omega), all_ 0 g.1]; simp
theorem ref_sorted (l : List SOr) (k : Nat) (hn : l.length < 1000) (hk : ndO l.length + 2 * l.length < k) : ∃ s, So ltO s ∧ SF ltO s l ∧ jobberref12_Sorted.f k (l.map tor) = some (s.map tor) := by
  have h1 : (l.filter (cpO 1)).length ≤ l.length := List.length_filter_le _ _
  have h2 : (l.filter (cpO 2)).length ≤ l.length := List.length_filter_le _ _
  have h0 : (l.filter (cpO 0)).length ≤ l.length := List.length_filter_le _ _
  have n1 := nd_mono h1
  have n2 := nd_mono h2
  obtain ⟨s1, a1, a2, a3, a4⟩ := sel_l0 1 (.inl rfl) _ (l.filter (cpO 1)) rfl (fun x hx => by have := mem_cp hx; rcases cls_rk x with h | h | h <;> omega) (by omega)
  obtain ⟨s2, b1, b2, b3, b4⟩ := sel_l0 2 (.inr rfl) _ (l.filter (cpO 2)) rfl (fun x hx => by have := mem_cp hx; rcases cls_rk x with h | h | h <;> omega) (by omega)
  refine ⟨s1 ++ (s2 ++ l.filter (cpO 0)), ?_, (a2.app (b2.app (SF.refl _))).trans (sf_parts l), ?_⟩
  · refine (So.app a1 (So.app b1 ?_ ?_) ?_)
    · refine List.pairwise_iff_getElem.2 fun i j hi hj hij => ?_
      have p := mem_cp (List.getElem_mem hi)
      have q := mem_cp (List.getElem_mem hj)
      exact ltO_none (by rcases cls_rk (l.filter (cpO 0))[j] with h | h | h <;> omega) (by rcases cls_rk (l.filter (cpO 0))[i] with h | h | h <;> omega)
    · intro x hx y hy
      have p := mem_cp ((b2.mem ltO_sw x).1 hx)
      have q := mem_cp hy
      exact ltO_rk (by rcases cls_rk x with h | h | h <;> rcases cls_rk y with g | g | g <;> omega)
    · intro x hx y hy
      have p := mem_cp ((a2.mem ltO_sw x).1 hx)
      have q : clsO y = 2 ∨ clsO y = 0 := by
        rcases List.mem_append.1 hy with q | q
        · exact .inl (mem_cp ((b2.mem ltO_sw y).1 q))
        · exact .inr (mem_cp q)
      exact ltO_rk (by rcases cls_rk x with h | h | h <;> rcases cls_rk y with g | g | g <;> omega)
  · have f1 : jobberref12_sorted.f k ((l.filter (cpO 1)).map tor) = some (s1.map tor) := a4 k [] (by omega) (by simp; omega)
    have f2 : jobberref12_sorted.f k ((l.filter (cpO 2)).map tor) = some (s2.map tor) := b4 k [] (by omega) (by simp; omega)
    rw [jobberref12_Sorted.f, side_eq l 1 k (by omega) (by omega), side_eq l 2 k (by omega) (by omega), side_eq l 0 k (by omega) (by omega)]
    simp only [Option.bind_some, f1, f2, List.nil_append, List.length_nil, List.length_map, Nat.zero_add, List.length_append]
    rw [if_pos (by omega), if_pos (by omega), if_pos (by omega)]
    simp
end
theorem pw_ins {α : Type} {R : α → α → Prop} {X Y : List α} {o : α} (h : (X ++ Y).Pairwise R) (hx : ∀ x ∈ X, R x o) (hy : ∀ y ∈ Y, R o y) : (X ++ o :: Y).Pairwise R := by
  obtain ⟨h1, h2, h3⟩ := List.pairwise_append.1 h
  refine List.pairwise_append.2 ⟨h1, List.pairwise_cons.2 ⟨hy, h2⟩, fun x hx' y hy' => ?_⟩
  rcases List.mem_cons.1 hy' with rfl | hy'
  · exact hx x hx'
  · exact h3 x hx' y hy'
theorem aheadB_lt {o x : SOr} {s : Int} (hs : s = 1 ∨ s = 2) (ho : o.f2 = s) (hx : x.f2 = s) : aheadB o x = ltO o x := by
  unfold aheadB ltO
  rw [ho, hx, ahead_ok _ _ _ _ _ _ _ _ _ _ s hs]
  show decide _ = decide _
  rw [decide_eq_decide]
  unfold ahP lexP rkO kpO kqO kiO
  rw [ho, hx]
  rcases hs with rfl | rfl <;> simp <;> omega
theorem bet_lt {x y : SOr} {s : Int} (hs : s = 1 ∨ s = 2) (hx : x.f2 = s) (hy : y.f2 = s) (h : bet s x.f3 y.f3 = true) : ltO x y = true := by
  refine decide_eq_true (show lexP x y from ?_)
  unfold lexP rkO kpO
  rw [hx, hy]
  unfold bet at h
  rcases hs with rfl | rfl <;> simp at h ⊢ <;> omega
theorem bet_tr {s a b c : Int} (h : bet s a b = true) (h' : bet s b c = true) : bet s a c = true := by
  unfold bet at *
  split at h
  · rename_i e; rw [if_pos e] at h' ⊢; simp at *; omega
  · rename_i e
    rw [if_neg e] at h' ⊢
    split at h
    · rename_i e2; rw [if_pos e2] at h' ⊢; simp at *; omega
    · simp at h
theorem bet_no {s a b : Int} (hs : s = 1 ∨ s = 2) (h : bet s a b = false) (hn : a ≠ b) : bet s b a = true := by
  unfold bet at *
  rcases hs with rfl | rfl <;> simp at h ⊢ <;> omega
theorem flR_app (a b : List RowM) : flR (a ++ b) = flR a ++ flR b := List.flatMap_append
theorem flR_cons (r : RowM) (l : List RowM) : flR (r :: l) = r.2 ++ flR l := rfl
theorem mem_flR {l : List RowM} {x : SOr} : x ∈ flR l ↔ ∃ r ∈ l, x ∈ r.2 := List.mem_flatMap
theorem cntR_flR : ∀ l : List RowM, cntR l = (flR l).length
  | [] => rfl
  | r :: l => by rw [cntR, cntR_flR l, flR_cons, List.length_append]
structure OrS (s : Int) (l : List RowM) : Prop where
  rows : l.Pairwise fun r r' => bet s r.1 r'.1 = true
  price : ∀ r ∈ l, ∀ x ∈ r.2, x.f3 = r.1 ∧ x.f2 = s
  so : So ltO (flR l)
theorem OrS.nil {s : Int} : OrS s [] := ⟨List.Pairwise.nil, fun r h => by simp at h, List.Pairwise.nil⟩
theorem OrS.add {s : Int} {l : List RowM} (h : OrS s l) (hs : s = 1 ∨ s = 2) {o : SOr} (ho : o.f2 = s) : OrS s (addR l o) ∧ ∃ X Y, flR l = X ++ Y ∧ flR (addR l o) = X ++ o :: Y := by
  obtain ⟨i, hi⟩ : ∃ i, addI l o = i := ⟨_, rfl⟩
  have hT : ∀ r ∈ l.take i, bet s r.1 o.f3 = true := by
    intro r hr
    obtain ⟨j, hj, he⟩ := List.getElem_of_mem hr
    rw [List.length_take] at hj
    have hj2 : j < l.findIdx (fun r => !bet o.f2 r.1 o.f3) := by have : addI l o = l.findIdx (fun r => !bet o.f2 r.1 o.f3) := rfl; omega
    have := List.not_of_lt_findIdx hj2
    rw [List.getElem_take] at he
    simp only [he, ho] at this
    simpa using this
  have hXT : ∀ x ∈ flR (l.take i), ltO o x = false := by
    intro x hx
    obtain ⟨r, hr, hxr⟩ := mem_flR.1 hx
    have hp := h.price r (List.mem_of_mem_take hr) x hxr
    exact ltO_sw.as (bet_lt hs hp.2 ho (by rw [hp.1]; exact hT r hr))
  have new : (∀ r ∈ l.drop i, bet s o.f3 r.1 = true) → OrS s (l.take i ++ (o.f3, [o]) :: l.drop i) ∧ ∃ X Y, flR l = X ++ Y ∧ flR (l.take i ++ (o.f3, [o]) :: l.drop i) = X ++ o :: Y := by
    intro hD
    have hYD : ∀ y ∈ flR (l.drop i), ltO y o = false := by
      intro y hy
      obtain ⟨r, hr, hyr⟩ := mem_flR.1 hy
      have hp := h.price r (List.mem_of_mem_drop hr) y hyr
      exact ltO_sw.as (bet_lt hs ho hp.2 (by rw [hp.1]; exact hD r hr))
    have e : flR l = flR (l.take i) ++ flR (l.drop i) := by rw [← flR_app, List.take_append_drop]
    have e2 : flR (l.take i ++ (o.f3, [o]) :: l.drop i) = flR (l.take i) ++ o :: flR (l.drop i) := by rw [flR_app, flR_cons]; rfl
    refine ⟨⟨pw_ins (by rw [List.take_append_drop]; exact h.rows) hT hD, fun r hr x hx => ?_, ?_⟩, _, _, e, e2⟩
    · rcases List.mem_append.1 hr with hr | hr
      · exact h.price r (List.mem_of_mem_take hr) x hx
      · rcases List.mem_cons.1 hr with rfl | hr
        · rw [List.mem_singleton.1 hx]; exact ⟨rfl, ho⟩
        · exact h.price r (List.mem_of_mem_drop hr) x hx
    · rw [e2]
      exact pw_ins (by rw [← e]; exact h.so) hXT hYD
  unfold addR
  rw [hi]
  cases hg : l[i]? with
  | none =>
    have hl := List.getElem?_eq_none_iff.1 hg
    exact new (by rw [List.drop_eq_nil_of_le hl]; simp)
  | some r =>
    obtain ⟨hil, hie⟩ := List.getElem?_eq_some_iff.1 hg
    have hb : bet s r.1 o.f3 = false := by
      have hw : l.findIdx (fun r => !bet o.f2 r.1 o.f3) < l.length := by have : addI l o = l.findIdx (fun r => !bet o.f2 r.1 o.f3) := rfl; omega
      have := List.findIdx_getElem (w := hw)
      have e : l[l.findIdx (fun r => !bet o.f2 r.1 o.f3)] = r := by
        rw [← hie]; congr 1
      rw [e, ho] at this
      simpa using this
    have hsp := split_i hg
    have hrw := h.rows
    rw [hsp] at hrw
    obtain ⟨p1, p2, p3⟩ := List.pairwise_append.1 hrw
    obtain ⟨p4, p5⟩ := List.pairwise_cons.1 p2
    simp only
    by_cases hp : r.1 = o.f3
    · rw [if_pos hp, set_i hg]
      have hrp := h.price r (List.mem_of_getElem? hg)
      have e : flR l = (flR (l.take i) ++ r.2.take (kQ o r.2)) ++ (r.2.drop (kQ o r.2) ++ flR (l.drop (i + 1))) := by
        conv => lhs; rw [hsp]
        rw [flR_app, flR_cons]
        rw [List.append_assoc, ← List.append_assoc (List.take _ r.2), List.take_append_drop]
      have e2 : flR (l.take i ++ (r.1, insQ o r.2) :: l.drop (i + 1)) = (flR (l.take i) ++ r.2.take (kQ o r.2)) ++ o :: (r.2.drop (kQ o r.2) ++ flR (l.drop (i + 1))) := by
        rw [flR_app, flR_cons]
        simp [insQ, List.append_assoc]
      have hsor : So ltO r.2 := by
        have hh := h.so
        rw [hsp, flR_app, flR_cons] at hh
        exact (So.of_app (So.of_app hh).2.1).1
      refine ⟨⟨?_, fun z hz x hx => ?_, ?_⟩, _, _, e, e2⟩
      · exact pw_ins (List.pairwise_append.2 ⟨p1, p5, fun a ha b hb => p3 a ha b (List.mem_cons_of_mem _ hb)⟩) (fun a ha => p3 a ha r (List.mem_cons_self ..)) (fun b hb => p4 b hb)
      · rcases List.mem_append.1 hz with hz | hz
        · exact h.price z (List.mem_of_mem_take hz) x hx
        · rcases List.mem_cons.1 hz with rfl | hz
          · rcases insQ_mem hx with rfl | hx
            · exact ⟨hp.symm, ho⟩
            · exact hrp x hx
          · exact h.price z (List.mem_of_mem_drop hz) x hx
      · rw [e2]
        refine pw_ins (by rw [← e]; exact h.so) (fun x hx => ?_) (fun y hy => ?_)
        · rcases List.mem_append.1 hx with hx | hx
          · exact hXT x hx
          · obtain ⟨j, hj, he⟩ := List.getElem_of_mem hx
            rw [List.length_take] at hj
            have hj2 : j < r.2.findIdx (aheadB o) := by have : kQ o r.2 = r.2.findIdx (aheadB o) := rfl; omega
            have := List.not_of_lt_findIdx hj2
            rw [List.getElem_take] at he
            rw [he, aheadB_lt hs ho (hrp x (by rw [← he]; exact List.getElem_mem _)).2] at this
            exact this
        · rcases List.mem_append.1 hy with hy | hy
          · have hk : r.2.findIdx (aheadB o) < r.2.length := by
              have := List.length_pos_of_mem hy
              rw [List.length_drop] at this
              have e : kQ o r.2 = r.2.findIdx (aheadB o) := rfl
              omega
            have h0 := List.findIdx_getElem (w := hk)
            have hm0 : r.2[r.2.findIdx (aheadB o)] ∈ r.2 := List.getElem_mem _
            rw [aheadB_lt hs ho (hrp _ hm0).2] at h0
            have hd : r.2.drop (kQ o r.2) = r.2[r.2.findIdx (aheadB o)] :: r.2.drop (kQ o r.2 + 1) := List.drop_eq_getElem_cons hk
            have hs2 : So ltO (r.2.drop (kQ o r.2)) := hsor.sublist (List.drop_sublist _ _)
            rw [hd] at hy hs2
            rcases List.mem_cons.1 hy with rfl | hy
            · exact ltO_sw.as h0
            · have := (List.pairwise_cons.1 hs2).1 y hy
              exact ltO_sw.as (ltO_sw.lt_of' h0 this)
          · obtain ⟨z, hz, hyz⟩ := mem_flR.1 hy
            have hpz := h.price z (List.mem_of_mem_drop hz) y hyz
            exact ltO_sw.as (bet_lt hs ho hpz.2 (by rw [hpz.1, ← hp]; exact p4 z hz))
    · rw [if_neg hp]
      refine new fun z hz => ?_
      have hbo := bet_no hs hb hp
      rw [List.drop_eq_getElem_cons hil, hie] at hz
      rcases List.mem_cons.1 hz with rfl | hz
      · exact hbo
      · exact bet_tr hbo (p4 z hz)
def ordI (l : List SOr) (i : Nat) : SOr := ⟨(i : Int), (rd_T33 l (i : Int)).f1, (rd_T33 l (i : Int)).f2, (rd_T33 l (i : Int)).f3, (rd_T33 l (i : Int)).f4, (rd_T33 l (i : Int)).f5⟩
def goodL (l : List SOr) (is : List Nat) : List SOr := (is.map (ordI l)).filter goodB
theorem goodL_snoc (l : List SOr) (is : List Nat) (i : Nat) : goodL l (is ++ [i]) = goodL l is ++ (if goodB (ordI l i) = true then [ordI l i] else []) := by
  unfold goodL
  rw [List.map_append, List.filter_append]
  congr 1
  simp only [List.map_cons, List.map_nil, List.filter_cons, List.filter_nil]
theorem goodL_len (l : List SOr) (is : List Nat) : (goodL l is).length ≤ is.length := by
  have := List.length_filter_le goodB (is.map (ordI l))
  rw [List.length_map] at this
  exact this
theorem mem_goodL {l : List SOr} {is : List Nat} {x : SOr} (h : x ∈ goodL l is) : ∃ j ∈ is, x.f0 = (j : Int) ∧ goodB x = true := by
  obtain ⟨h1, h2⟩ := List.mem_filter.1 h
  obtain ⟨j, hj, rfl⟩ := List.mem_map.1 h1
  exact ⟨j, hj, rfl, h2⟩
structure PB (l : List SOr) (is : List Nat) (rs : Nat → List RowM) (m : Nat) : Prop where
  inv : InvB rs m
  o1 : OrS 1 (rs 1)
  o2 : OrS 2 (rs 2)
  perm : (flR (rs 1) ++ flR (rs 2)).Perm (goodL l is)
theorem PB.nil (l : List SOr) : PB l [] (fun _ => []) 0 := ⟨InvB.nil, OrS.nil, OrS.nil, List.Perm.refl _⟩
theorem fnd_mem {rs : Nat → List RowM} {id : Int} (h : (fndM rs id).isSome = true) : ∃ x ∈ flR (rs 1) ++ flR (rs 2), x.f0 = id := by
  obtain ⟨⟨s, i, k⟩, hf⟩ := Option.isSome_iff_exists.1 h
  obtain ⟨hs, hr⟩ := fndM_at hf
  obtain ⟨p, q, x, h1, h2, h3⟩ := rowF_at hr
  have hx : x ∈ flR (rs s) := mem_flR.2 ⟨_, List.mem_of_getElem? h1, List.mem_of_getElem? h2⟩
  refine ⟨x, ?_, h3⟩
  rcases hs with rfl | rfl
  · exact List.mem_append_left _ hx
  · exact List.mem_append_right _ hx
theorem PB.step {l : List SOr} {is : List Nat} {rs : Nat → List RowM} {m : Nat} (h : PB l is rs m) {i : Nat} (hi : i ∉ is) (hl : is.length < 64) : PB l (is ++ [i]) (addM rs m (ordI l i)) (addN rs m (ordI l i)) := by
  have hinv := h.inv.add (ordI l i)
  have hf : (fndM rs (ordI l i).f0).isSome = false := by
    cases e : (fndM rs (ordI l i).f0).isSome with
    | false => rfl
    | true =>
      obtain ⟨x, hx, hx0⟩ := fnd_mem e
      obtain ⟨j, hj, hj0, _⟩ := mem_goodL ((h.perm.mem_iff).1 hx)
      have : (j : Int) = (i : Int) := hj0.symm.trans hx0
      exact absurd (show i ∈ is by rw [← show j = i by omega]; exact hj) hi
  have hm : m < 64 := by
    have h1 := h.inv.cnt
    have h2 := h.perm.length_eq
    have h3 := goodL_len l is
    rw [cntR_flR, cntR_flR] at h1
    rw [List.length_append] at h2
    omega
  cases hg : goodB (ordI l i) with
  | false =>
    have e : addE rs m (ordI l i) = 2 := by rw [addE, if_pos hg]
    have e1 : addM rs m (ordI l i) = rs := by rw [addM, e]; rfl
    refine ⟨hinv, by rw [e1]; exact h.o1, by rw [e1]; exact h.o2, ?_⟩
    rw [e1, goodL_snoc, hg]
    simpa using h.perm
  | true =>
    have e : addE rs m (ordI l i) = 0 := by rw [addE, if_neg (by rw [hg]; simp), if_neg (by rw [hf]; simp), if_neg (by omega)]
    have e1 : addM rs m (ordI l i) = updS rs (ordI l i).f2.toNat (addR (rs (ordI l i).f2.toNat) (ordI l i)) := by rw [addM, if_pos e]
    obtain ⟨o, ho⟩ : ∃ o, ordI l i = o := ⟨_, rfl⟩
    have hgl : goodL l (is ++ [i]) = goodL l is ++ [o] := by rw [goodL_snoc, hg, if_pos rfl, ho]
    rw [ho] at hinv e1 hg ⊢
    rw [e1] at hinv ⊢
    have fin : (o :: goodL l is).Perm (goodL l is ++ [o]) := (List.perm_append_comm (l₁ := [o])).trans (List.Perm.refl _)
    rcases goodB_side hg with hs | hs
    · rw [hs] at hinv ⊢
      obtain ⟨h1, X, Y, ex, ey⟩ := h.o1.add (.inl rfl) hs
      refine ⟨hinv, h1, h.o2, ?_⟩
      show (flR (addR (rs 1) o) ++ flR (rs 2)).Perm _
      have hp := h.perm
      rw [ex] at hp
      rw [ey, hgl]
      refine List.Perm.trans ?_ fin
      rw [List.append_assoc, List.cons_append]
      rw [List.append_assoc] at hp
      exact List.perm_middle.trans (List.Perm.cons o hp)
    · rw [hs] at hinv ⊢
      obtain ⟨h1, X, Y, ex, ey⟩ := h.o2.add (.inr rfl) hs
      refine ⟨hinv, h.o1, h1, ?_⟩
      show (flR (rs 1) ++ flR (addR (rs 2) o)).Perm _
      have hp := h.perm
      rw [ex] at hp
      rw [ey, hgl]
      refine List.Perm.trans ?_ fin
      rw [← List.append_assoc]
      rw [← List.append_assoc] at hp
      exact List.perm_middle.trans (List.Perm.cons o hp)
theorem PB.so {l : List SOr} {is : List Nat} {rs : Nat → List RowM} {m : Nat} (h : PB l is rs m) : So ltO (flR (rs 1) ++ flR (rs 2)) := by
  refine So.app h.o1.so h.o2.so fun x hx y hy => ?_
  obtain ⟨r, hr, hxr⟩ := mem_flR.1 hx
  obtain ⟨r', hr', hyr⟩ := mem_flR.1 hy
  have h1 := (h.o1.price r hr x hxr).2
  have h2 := (h.o2.price r' hr' y hyr).2
  refine ltO_rk ?_
  unfold rkO
  rw [h1, h2]
  decide
def PX (l : List SOr) (is : List Nat) (xs : List S41) : Prop := ∃ ls : List SOr, xs = ls.map tor ∧ So ltO ls ∧ ls.Perm (goodL l is)
theorem PX.nil (l : List SOr) : PX l [] [] := ⟨[], rfl, List.Pairwise.nil, List.Perm.refl _⟩
theorem good_ref (o : SOr) : jobberref12_Good.f o.f0 o.f1 o.f2 o.f3 o.f4 o.f5 = some (goodB o) := by
  rw [← goodB_some]
  unfold jobberref12_Good.f order_Good.f
  repeat' split
  all_goals first | rfl | omega
theorem sf_perm {l l' : List SOr} (h : SF ltO l l') : l.Perm l' := by
  classical
  refine List.perm_iff_count.2 fun z => ?_
  have e : ∀ q : List SOr, q.count z = (q.filter (evO ltO z)).count z := fun q => (List.count_filter (by simp [evO, ltO_sw.irr])).symm
  rw [e l, e l', h z]
def kS : Nat := ndO 100 + 1000
theorem kS_eq : ∃ N, ndO 100 = N ∧ kS = N + 1000 := ⟨_, rfl, rfl⟩
theorem PX.step {l : List SOr} {is : List Nat} {xs : List S41} (h : PX l is xs) {i : Nat} (hi : i ∉ is) (hl : is.length < 64) :
    xs.length < 64 ∧ (∀ x ∈ xs, x.f0 ≠ (i : Int)) ∧ ∃ r, jobberref12_Sorted.f kS (xs ++ [tor (ordI l i)]) = some r ∧ PX l (is ++ [i]) (if goodB (ordI l i) = true then r else xs) := by
  obtain ⟨ls, rfl, hso, hp⟩ := h
  have hlen := hp.length_eq
  have hgl := goodL_len l is
  have hnd : ndO (ls ++ [ordI l i]).length ≤ ndO 100 := nd_mono (by rw [List.length_append, List.length_singleton]; omega)
  obtain ⟨N, hN, hkS⟩ := kS_eq
  rw [hN] at hnd
  have hl100 : (ls ++ [ordI l i]).length ≤ 100 := by rw [List.length_append, List.length_singleton]; omega
  obtain ⟨s, s1, s2, s3⟩ := ref_sorted (ls ++ [ordI l i]) kS (by omega) (by rw [hkS]; omega)
  refine ⟨by rw [List.length_map]; omega, fun x hx => ?_, s.map tor, ?_, ?_⟩
  · obtain ⟨y, hy, rfl⟩ := List.mem_map.1 hx
    obtain ⟨j, hj, hj0, _⟩ := mem_goodL (hp.mem_iff.1 hy)
    intro e
    have : (j : Int) = (i : Int) := hj0.symm.trans e
    exact hi (by rw [← show j = i by omega]; exact hj)
  · rw [← s3, List.map_append]; rfl
  · cases hg : goodB (ordI l i) with
    | false => exact ⟨ls, rfl, hso, by rw [goodL_snoc, hg]; simpa using hp⟩
    | true => exact ⟨s, rfl, s1, by rw [goodL_snoc, hg]; exact (sf_perm s2).trans (hp.append_right _)⟩
theorem evs_one {q : List SOr} (h : q.Pairwise fun x y => x.f0 ≠ y.f0) (hg : ∀ x ∈ q, goodB x = true) (z : SOr) : (q.filter (evO ltO z)).length ≤ 1 := by
  have hp := h.filter (evO ltO z)
  cases e : q.filter (evO ltO z) with
  | nil => simp
  | cons a t =>
    cases t with
    | nil => simp
    | cons b t =>
      exfalso
      rw [e] at hp
      have hne := (List.pairwise_cons.1 hp).1 b (List.mem_cons_self ..)
      have ha : a ∈ q.filter (evO ltO z) := by rw [e]; exact List.mem_cons_self ..
      have hb : b ∈ q.filter (evO ltO z) := by rw [e]; exact List.mem_cons_of_mem _ (List.mem_cons_self ..)
      obtain ⟨ha1, ha2⟩ := List.mem_filter.1 ha
      obtain ⟨hb1, hb2⟩ := List.mem_filter.1 hb
      obtain ⟨a3, a4⟩ := ev_iff.1 ha2
      obtain ⟨b3, b4⟩ := ev_iff.1 hb2
      have sa := goodB_side (hg a ha1)
      have sb := goodB_side (hg b hb1)
      have na : ¬ lexP z a := of_decide_eq_false a3
      have na' : ¬ lexP a z := of_decide_eq_false a4
      have nb : ¬ lexP z b := of_decide_eq_false b3
      have nb' : ¬ lexP b z := of_decide_eq_false b4
      refine hne ?_
      have e1 : rkO a = rkO b ∧ kiO a = kiO b := by unfold lexP at na na' nb nb'; omega
      have k1 : kiO a = a.f0 := by unfold kiO; rcases sa with s | s <;> rw [s] <;> simp
      have k2 : kiO b = b.f0 := by unfold kiO; rcases sb with s | s <;> rw [s] <;> simp
      omega
theorem perm_one {α : Type} {l l' : List α} (h : l.Perm l') (h1 : l.length ≤ 1) : l = l' := by
  have hl := h.length_eq
  cases l with
  | nil => exact (List.eq_nil_of_length_eq_zero (by rw [← hl]; rfl)).symm
  | cons a t =>
    have : t = [] := List.eq_nil_of_length_eq_zero (by rw [List.length_cons] at h1; omega)
    subst this
    exact (List.singleton_perm.1 h).symm ▸ rfl
theorem goodL_apart {l : List SOr} {is : List Nat} (h : is.Nodup) : (goodL l is).Pairwise fun x y => x.f0 ≠ y.f0 := by
  refine List.Pairwise.filter _ ?_
  refine List.pairwise_map.2 (List.Pairwise.imp ?_ h)
  intro a b hab e
  have e' : (a : Int) = (b : Int) := e
  exact hab (by omega)
theorem PB.fin {l : List SOr} {is is' : List Nat} {rs : Nat → List RowM} {m : Nat} {xs : List S41} (h : PB l is rs m) (hx : PX l is' xs) (hp : is.Perm is') (hn : is'.Nodup) : xs = (flR (rs 1) ++ flR (rs 2)).map tor := by
  obtain ⟨ls, rfl, hso, hq⟩ := hx
  have hpp : ls.Perm (flR (rs 1) ++ flR (rs 2)) := hq.trans ((((hp.map (ordI l)).filter goodB).symm).trans h.perm.symm)
  refine congrArg _ (uniq ltO_sw _ _ hso h.so fun z => perm_one (hpp.filter _) (evs_one ?_ ?_ z))
  · exact (List.Perm.pairwise_iff (fun h => Ne.symm h) hq).2 (goodL_apart hn)
  · intro x hx
    obtain ⟨_, _, _, hg⟩ := mem_goodL (hq.mem_iff.1 hx)
    exact hg
theorem PB.len {l : List SOr} {is : List Nat} {rs : Nat → List RowM} {m : Nat} (h : PB l is rs m) : (flR (rs 1) ++ flR (rs 2)).length ≤ is.length := by
  rw [h.perm.length_eq]; exact goodL_len _ _
def ixJ (n b j : Nat) : Nat := n - 1 - (j + b) % n
theorem rot_range (n b : Nat) (hn : 0 < n) : (List.range n).map (fun j => (j + b) % n) = (List.range n).drop (b % n) ++ (List.range n).take (b % n) := by
  have hc := Nat.mod_lt b hn
  refine List.ext_getElem (by simp; omega) fun i h1 h2 => ?_
  have hi : i < n := by simpa using h1
  rw [List.getElem_map, List.getElem_range, Nat.add_mod, Nat.mod_eq_of_lt hi]
  by_cases c : i + b % n < n
  · rw [Nat.mod_eq_of_lt c, List.getElem_append_left (by simp; omega), List.getElem_drop, List.getElem_range]; omega
  · rw [Nat.mod_eq_sub_mod (by omega), Nat.mod_eq_of_lt (by omega), List.getElem_append_right (by simp; omega), List.getElem_take, List.getElem_range, List.length_drop, List.length_range]; omega
theorem ixJ_perm (n b : Nat) (hn : 0 < n) : ((List.range n).map (ixJ n b)).Perm (List.range n) := by
  have e : (List.range n).map (ixJ n b) = ((List.range n).map (fun j => (j + b) % n)).map (fun k => n - 1 - k) := by rw [List.map_map]; rfl
  rw [e, rot_range n b hn]
  have e2 : (List.range n).map (fun k => n - 1 - k) = (List.range n).reverse := by
    refine List.ext_getElem (by simp) fun i h1 h2 => ?_
    simp
  refine (List.Perm.map _ List.perm_append_comm).trans ?_
  rw [List.take_append_drop, e2]
  exact List.reverse_perm _
theorem ixJ_new {n b j : Nat} (hj : j < n) : ixJ n b j ∉ (List.range j).map (ixJ n b) := by
  have hnd : ((List.range n).map (ixJ n b)).Nodup := (ixJ_perm n b (by omega)).nodup_iff.2 List.nodup_range
  have hs : ((List.range (j + 1)).map (ixJ n b)).Sublist ((List.range n).map (ixJ n b)) := (List.range_sublist.2 (by omega)).map _
  have h2 := hnd.sublist hs
  rw [List.range_succ, List.map_append] at h2
  intro hm
  exact (List.nodup_append.1 h2).2.2 _ hm _ (List.mem_singleton.2 rfl) rfl
theorem ixJ_snoc (n b j : Nat) : (List.range (j + 1)).map (ixJ n b) = (List.range j).map (ixJ n b) ++ [ixJ n b j] := by rw [List.range_succ, List.map_append]; rfl
theorem ix_facts {n0 b j : Nat} (h64 : n0 ≤ 64) (hb : b < 256) (hj : j < n0) : ∃ jb kk n1 ix : Nat, ixJ n0 b j = ix ∧ ix < n0 ∧ IntKind.i64.wrap (b : Int) = (b : Int) ∧ wrap64 ((j : Int) + (b : Int)) = (jb : Int) ∧ ((n0 : Int) == 0) = false ∧ (jb : Int).tmod (n0 : Int) = (kk : Int) ∧ wrap64 (kk : Int) = (kk : Int) ∧ wrap64 ((n0 : Int) - 1) = (n1 : Int) ∧ wrap64 ((n1 : Int) - (kk : Int)) = (ix : Int) ∧ IntKind.u64.wrap (ix : Int) = (ix : Int) ∧ wrap64 ((j : Int) + 1) = ((j + 1 : Nat) : Int) := by
  have hkn : (j + b) % n0 < n0 := Nat.mod_lt _ (by omega)
  have hij : ixJ n0 b j = n0 - 1 - (j + b) % n0 := rfl
  have hrem : ((j + b : Nat) : Int).tmod (n0 : Int) = (((j + b) % n0 : Nat) : Int) := (Int.ofNat_tmod _ _).symm
  obtain ⟨kk, hkk⟩ : ∃ kk, (j + b) % n0 = kk := ⟨_, rfl⟩
  rw [hkk] at hkn hij hrem
  refine ⟨j + b, kk, n0 - 1, n0 - 1 - kk, hij, by clear hrem hkk hij; omega, ?_, ?_, ?_, hrem, ?_, ?_, ?_, ?_, ?_⟩
  all_goals clear hrem hkk hij
  · rw [i64_w]; unfold wrap64; omega
  · unfold wrap64; omega
  · exact beq_eq_false_iff_ne.2 (by omega)
  · unfold wrap64; omega
  · unfold wrap64; omega
  · unfold wrap64; omega
  · show ((n0 - 1 - kk : Nat) : Int) % 18446744073709551616 = ((n0 - 1 - kk : Nat) : Int); omega
  · unfold wrap64; omega
theorem own_O {w : World} {F : Nat → Prop} {A : Option Addr} {n c : Nat} {L : List SOr} (h : OwP 33 6 (.slice A n c) n (ocs L) w F) (hn : L.length = n) : Kd.C k33 w A L.length L ∧ L.length ≤ c := by
  subst hn
  have hc : L.length ≤ c := by
    rcases h.block with ⟨q, q2, _⟩ | ⟨_, _, _, q, _, _, _, _, q3, _⟩
    · omega
    · injection q with _ _ q; omega
  refine ⟨⟨rfl, Nat.le_trans h.small (by decide), fun hp => ?_⟩, hc⟩
  obtain ⟨gb, cap, e, hcell⟩ := h.some_ hp
  injection e with e1 _ _
  refine ⟨_, e1, fun j p hj => ⟨oc p, rfl, k33_mk w p, fun i u hu => ?_⟩⟩
  have hi : i < 6 := (List.getElem?_eq_some_iff.1 hu).1
  have := hcell (j * 6 + i) u (by rw [oc_at hj i hi]; exact hu)
  rw [Addr.add_lit, Nat.zero_add]
  exact this
set_option maxHeartbeats 16000000 in
set_option maxRecDepth 100000 in
theorem order_r22 {Q : Exit → Act → World → Prop} {ops : Array Oper} (hops : findR 22 ((Try.f8.body).getD .skip) = some ops) {w wr : World} {dfs : List Deferred} {ga gb gw cx m m' : Nat} {Ax : Option Addr} {xs : List S41} {rs rs' : Nat → List RowM} {LA LB : List SOr}
    (hs : St w (fun _ => False) wr [BookP gb (rs' 1) (rs' 2) m', Pt gw #[.slice Ax xs.length cx] 64, Rw k41 41 (.slice Ax xs.length cx) xs, BookP ga (rs 1) (rs 2) m]) (HI1 : Aside0 (InvB rs m)) (HI2 : Aside0 (InvB rs' m'))
    (HSA : Aside0 (jobberlaw12_Same.f 2000 LA xs = some true)) (HSB : Aside0 (jobberlaw12_Same.f 2000 LB xs = some true)) (HAA : Aside0 (∀ (W' : World) (A : Nat → Option Addr) (c : Nat → Nat), BkF ga rs m A c W' → Calls Try.prog 38 #[.pointer (some ⟨ga, 0, none⟩)] W' fun e w' => ∃ v, e = .returned v ∧ St W' (fun _ => False) w' [OwP 33 6 v LA.length (ocs LA)])) (HAB : Aside0 (∀ (W' : World) (A : Nat → Option Addr) (c : Nat → Nat), BkF gb rs' m' A c W' → Calls Try.prog 38 #[.pointer (some ⟨gb, 0, none⟩)] W' fun e w' => ∃ v, e = .returned v ∧ St W' (fun _ => False) w' [OwP 33 6 v LB.length (ocs LB)]))
    {T0 T1 T2 T3 T4 T8 T9 T10 T11 T12 T13 T14 T15 T16 T17 T18 T19 T20 T21 T22 T23 T24 T25 T26 T27 T28 T29 T30 T31 T32 T33 T34 T35 T36 T37 T38 T39 T40 T41 T42 T43 T44 T45 T46 T47 T48 T49 T50 T51 T52 T53 T54 T55 T56 T57 T58 T59 T60 T61 T62 T63 T64 T65 T66 T67 T68 T69 T70 T71 T72 T73 T74 T75 T76 T77 T78 T79 T80 T81 T82 T83 T84 T85 T86 : Value}
    (hK : ∀ (u72 u73 u74 u75 u76 u77 u78 u79 u80 u81 u82 u83 u84 u85 u86 : Value) (w' : World), Below w.heap.size w w' → Q .normal { tmps := #[T0, T1, T2, T3, .bool true, .pointer (some ⟨ga, 0, none⟩), .pointer (some ⟨gb, 0, none⟩), .pointer (some ⟨gw, 0, none⟩), T8, T9, T10, T11, T12, T13, T14, T15, T16, T17, T18, T19, T20, T21, T22, T23, T24, T25, T26, T27, T28, T29, T30, T31, T32, T33, T34, T35, T36, T37, T38, T39, T40, T41, T42, T43, T44, T45, T46, T47, T48, T49, T50, T51, T52, T53, T54, T55, T56, T57, T58, T59, T60, T61, T62, T63, T64, T65, T66, T67, T68, T69, T70, T71, u72, u73, u74, u75, u76, u77, u78, u79, u80, u81, u82, u83, u84, u85, u86], defers := dfs } w') :
    (Code.region 22 ops true).wp Try.prog Q { tmps := #[T0, T1, T2, T3, T4, .pointer (some ⟨ga, 0, none⟩), .pointer (some ⟨gb, 0, none⟩), .pointer (some ⟨gw, 0, none⟩), T8, T9, T10, T11, T12, T13, T14, T15, T16, T17, T18, T19, T20, T21, T22, T23, T24, T25, T26, T27, T28, T29, T30, T31, T32, T33, T34, T35, T36, T37, T38, T39, T40, T41, T42, T43, T44, T45, T46, T47, T48, T49, T50, T51, T52, T53, T54, T55, T56, T57, T58, T59, T60, T61, T62, T63, T64, T65, T66, T67, T68, T69, T70, T71, T72, T73, T74, T75, T76, T77, T78, T79, T80, T81, T82, T83, T84, T85, T86], defers := dfs } wr := by
  have hops' := Option.some.inj (hops.symm.trans (show findR 22 ((Try.f8.body).getD .skip) = some _ from rfl))
  subst hops'
  clear hops
  have HS := Aside0.mk hs.drew1
  clear hs
  refine wp_mono (Q := onlyN (Q .normal)) ?_ onlyN_to
  refine start_ (n := 16) (S := fun w' => w'.cell? ⟨gw, 0, none⟩ = some (.slice Ax xs.length cx)) (ds := []) #[false, false, false, false, false, false, false, false, false, false, false, false, false, false, false, false] (by kernel_rfl) rfl rfl ((blk_cell (HS.out.blk 1 rfl) 0).trans rfl) (fun hHeld => ?_)
  refine pure_ (i := 0) (N := some 72) (v := ?_) (a' := ?_) #[true, false, false, false, false, false, false, false, false, false, false, false, false, false, false, false] rfl rfl (by kernel_rfl) (fun _ _ _ h => h) (Or.inl ⟨by rfl, ?_⟩) ?_ ?_
  rotate_left
  · intro w'
    go_simp
    with_reducible rfl
  rotate_left
  · simp only [Act.put, List.setIfInBounds_toArray, List.set_cons_zero, List.set_cons_succ, i64_w, i32_w]
    rfl
  refine pure_ (i := 2) (N := some 74) (v := ?_) (a' := ?_) #[true, false, true, false, false, false, false, false, false, false, false, false, false, false, false, false] rfl rfl (by kernel_rfl) (fun _ _ _ h => h) (Or.inl ⟨by rfl, ?_⟩) ?_ ?_
  rotate_left
  · intro w'
    go_simp
    with_reducible rfl
  rotate_left
  · simp only [Act.put, List.setIfInBounds_toArray, List.set_cons_zero, List.set_cons_succ, i64_w, i32_w]
    rfl
  refine take_ (i := 3) (N := some 75) (v := ?_) (a' := ?_) #[true, false, true, true, false, false, false, false, false, false, false, false, false, false, false, false] rfl rfl (by kernel_rfl) (fun _ _ _ h => h) (Or.inl ⟨by rfl, ?_⟩) hHeld ?_ ?_
  rotate_left
  · intro w' s0
    go_simp
    with_reducible rfl
  rotate_left
  · simp only [Act.put, List.setIfInBounds_toArray, List.set_cons_zero, List.set_cons_succ, i64_w, i32_w]
    rfl
  refine one_ (i := 1) (N := some 73) #[true, true, true, true, false, false, false, false, false, false, false, false, false, false, false, false] rfl rfl (by kernel_rfl) (by decide) (fun K hK => ?_)
  obtain ⟨A, c, hbk⟩ := (HS.out.front 3 rfl).bookBk HI1.out
  refine goes_ Try.func38 (by kernel_rfl) rfl #[.pointer (some ⟨ga, 0, none⟩)] (by rfl) rfl rfl (by simp only [List.map_toArray, List.map_cons, List.map_nil]; rfl) ?_
  with_reducible refine (HAA.out _ A c hbk).mono ?_
  rintro e w4 ⟨va, rfl, hs_⟩
  refine ⟨_, rfl, ?_⟩
  have HS1 := Aside0.mk (HS.out.join0 hs_)
  obtain ⟨Fv, hv⟩ := HS1.out.get 0 rfl
  obtain ⟨Aa, ca, hvs⟩ := hv.slice
  subst hvs
  clear hv hs_ hbk
  refine hK.out _ _ ((blk_cell (HS1.out.blk 2 rfl) 0).trans rfl) (fun hHeld => ?_)
  clear hK K
  refine norm_ (a' := ?_) ?_ ?_
  rotate_left
  · show Act.put _ (some 73) _ = _
    simp only [Act.put, List.setIfInBounds_toArray, List.set_cons_zero, List.set_cons_succ, i64_w, i32_w]
    rfl
  refine one_ (i := 4) (N := some 76) #[true, true, true, true, true, false, false, false, false, false, false, false, false, false, false, false] rfl rfl (by kernel_rfl) (by decide) (fun K hK => ?_)
  obtain ⟨F1, p1⟩ := HS1.out.get 0 rfl
  obtain ⟨ok2, p2⟩ := HS1.out.rd 3 rfl
  have q1 := own_O p1 rfl
  have q2 := Kd.R_reads' p2
  refine goes_ Try.func14 (by kernel_rfl) rfl #[.slice Aa LA.length ca, .slice Ax xs.length cx] (by rfl) rfl rfl (by simp only [List.map_toArray, List.map_cons, List.map_nil]; rfl) ?_
  with_reducible refine (jobberlaw12_Same.calls 2000 Aa ca LA Ax cx xs true _ q1.1 q1.2 q2.2.2 q2.2.1 HSA.out).mono ?_
  rintro e w5 ⟨rfl, hb_⟩
  refine ⟨_, rfl, ?_⟩
  obtain ⟨dn, hdn⟩ := hb_.out
  have HS2 := Aside0.mk (HS1.out.drew dn)
  rw [← hdn] at HS2
  clear hb_ hdn q1 q2 p1 p2
  refine hK.out _ _ ((blk_cell (HS2.out.blk 2 rfl) 0).trans rfl) (fun hHeld => ?_)
  clear hK K
  refine norm_ (a' := ?_) ?_ ?_
  rotate_left
  · show Act.put _ (some 76) _ = _
    simp only [Act.put, List.setIfInBounds_toArray, List.set_cons_zero, List.set_cons_succ, i64_w, i32_w]
    rfl
  refine pure_ (i := 5) (N := some 77) (v := ?_) (a' := ?_) #[true, true, true, true, true, true, false, false, false, false, false, false, false, false, false, false] rfl rfl (by kernel_rfl) (fun _ _ _ h => h) (Or.inl ⟨by rfl, ?_⟩) ?_ ?_
  rotate_left
  · intro w'
    go_simp
    with_reducible rfl
  rotate_left
  · simp only [Act.put, List.setIfInBounds_toArray, List.set_cons_zero, List.set_cons_succ, i64_w, i32_w]
    rfl
  refine pure_ (i := 6) (N := some 78) (v := ?_) (a' := ?_) #[true, true, true, true, true, true, true, false, false, false, false, false, false, false, false, false] rfl rfl (by kernel_rfl) (fun _ _ _ h => h) (Or.inl ⟨by rfl, ?_⟩) ?_ ?_
  rotate_left
  · intro w'
    go_simp
    with_reducible rfl
  rotate_left
  · simp only [Act.put, List.setIfInBounds_toArray, List.set_cons_zero, List.set_cons_succ, i64_w, i32_w]
    rfl
  refine pure_ (i := 8) (N := some 80) (v := ?_) (a' := ?_) #[true, true, true, true, true, true, true, false, true, false, false, false, false, false, false, false] rfl rfl (by kernel_rfl) (fun _ _ _ h => h) (Or.inl ⟨by rfl, ?_⟩) ?_ ?_
  rotate_left
  · intro w'
    go_simp
    with_reducible rfl
  rotate_left
  · simp only [Act.put, List.setIfInBounds_toArray, List.set_cons_zero, List.set_cons_succ, i64_w, i32_w]
    rfl
  refine take_ (i := 9) (N := some 81) (v := ?_) (a' := ?_) #[true, true, true, true, true, true, true, false, true, true, false, false, false, false, false, false] rfl rfl (by kernel_rfl) (fun _ _ _ h => h) (Or.inl ⟨by rfl, ?_⟩) hHeld ?_ ?_
  rotate_left
  · intro w' s0
    go_simp
    with_reducible rfl
  rotate_left
  · simp only [Act.put, List.setIfInBounds_toArray, List.set_cons_zero, List.set_cons_succ, i64_w, i32_w]
    rfl
  refine one_ (i := 7) (N := some 79) #[true, true, true, true, true, true, true, true, true, true, false, false, false, false, false, false] rfl rfl (by kernel_rfl) (by decide) (fun K hK => ?_)
  obtain ⟨A, c, hbk⟩ := (HS2.out.front 1 rfl).bookBk HI2.out
  refine goes_ Try.func38 (by kernel_rfl) rfl #[.pointer (some ⟨gb, 0, none⟩)] (by rfl) rfl rfl (by simp only [List.map_toArray, List.map_cons, List.map_nil]; rfl) ?_
  with_reducible refine (HAB.out _ A c hbk).mono ?_
  rintro e w6 ⟨vb, rfl, hs_⟩
  refine ⟨_, rfl, ?_⟩
  have HS3 := Aside0.mk (HS2.out.join0 hs_)
  obtain ⟨Fv, hv⟩ := HS3.out.get 0 rfl
  obtain ⟨Ab, cb, hvs⟩ := hv.slice
  subst hvs
  clear hv hs_ hbk
  refine hK.out _ _ ((blk_cell (HS3.out.blk 3 rfl) 0).trans rfl) (fun hHeld => ?_)
  clear hK K
  refine norm_ (a' := ?_) ?_ ?_
  rotate_left
  · show Act.put _ (some 79) _ = _
    simp only [Act.put, List.setIfInBounds_toArray, List.set_cons_zero, List.set_cons_succ, i64_w, i32_w]
    rfl
  refine one_ (i := 10) (N := some 82) #[true, true, true, true, true, true, true, true, true, true, true, false, false, false, false, false] rfl rfl (by kernel_rfl) (by decide) (fun K hK => ?_)
  obtain ⟨F1, p1⟩ := HS3.out.get 0 rfl
  obtain ⟨ok2, p2⟩ := HS3.out.rd 4 rfl
  have q1 := own_O p1 rfl
  have q2 := Kd.R_reads' p2
  refine goes_ Try.func14 (by kernel_rfl) rfl #[.slice Ab LB.length cb, .slice Ax xs.length cx] (by rfl) rfl rfl (by simp only [List.map_toArray, List.map_cons, List.map_nil]; rfl) ?_
  with_reducible refine (jobberlaw12_Same.calls 2000 Ab cb LB Ax cx xs true _ q1.1 q1.2 q2.2.2 q2.2.1 HSB.out).mono ?_
  rintro e w7 ⟨rfl, hb_⟩
  refine ⟨_, rfl, ?_⟩
  obtain ⟨dn, hdn⟩ := hb_.out
  have HS4 := Aside0.mk (HS3.out.drew dn)
  rw [← hdn] at HS4
  clear hb_ hdn q1 q2 p1 p2
  refine hK.out _ _ ((blk_cell (HS4.out.blk 3 rfl) 0).trans rfl) (fun hHeld => ?_)
  clear hK K
  refine norm_ (a' := ?_) ?_ ?_
  rotate_left
  · show Act.put _ (some 82) _ = _
    simp only [Act.put, List.setIfInBounds_toArray, List.set_cons_zero, List.set_cons_succ, i64_w, i32_w]
    rfl
  refine pure_ (i := 11) (N := some 83) (v := ?_) (a' := ?_) #[true, true, true, true, true, true, true, true, true, true, true, true, false, false, false, false] rfl rfl (by kernel_rfl) (fun _ _ _ h => h) (Or.inl ⟨by rfl, ?_⟩) ?_ ?_
  rotate_left
  · intro w'
    go_simp
    with_reducible rfl
  rotate_left
  · simp only [Act.put, List.setIfInBounds_toArray, List.set_cons_zero, List.set_cons_succ, i64_w, i32_w]
    rfl
  refine pure_ (i := 12) (N := some 84) (v := ?_) (a' := ?_) #[true, true, true, true, true, true, true, true, true, true, true, true, true, false, false, false] rfl rfl (by kernel_rfl) (fun _ _ _ h => h) (Or.inl ⟨by rfl, ?_⟩) ?_ ?_
  rotate_left
  · intro w'
    go_simp
    with_reducible rfl
  rotate_left
  · simp only [Act.put, List.setIfInBounds_toArray, List.set_cons_zero, List.set_cons_succ, i64_w, i32_w]
    rfl
  refine one_ (i := 13) (N := some 85) #[true, true, true, true, true, true, true, true, true, true, true, true, true, true, false, false] rfl rfl (by kernel_rfl) (by decide) (fun K hK => ?_)
  refine goes_ Try.func34 (by kernel_rfl) rfl #[] (by rfl) rfl rfl (by simp only [List.map_toArray, List.map_cons, List.map_nil]) ?_
  with_reducible refine (ladder_lives _).mono ?_
  rintro e w8 ⟨rfl, hb_⟩
  refine ⟨_, rfl, ?_⟩
  have HS5 := Aside0.mk (HS4.out.call hb_)
  clear hb_
  refine hK.out _ _ ((blk_cell (HS5.out.blk 3 rfl) 0).trans rfl) (fun hHeld => ?_)
  clear hK K
  refine norm_ (a' := ?_) ?_ ?_
  rotate_left
  · show Act.put _ (some 85) _ = _
    simp only [Act.put, List.setIfInBounds_toArray, List.set_cons_zero, List.set_cons_succ, i64_w, i32_w]
    rfl
  refine pure_ (i := 14) (N := some 86) (v := ?_) (a' := ?_) #[true, true, true, true, true, true, true, true, true, true, true, true, true, true, true, false] rfl rfl (by kernel_rfl) (fun _ _ _ h => h) (Or.inl ⟨by rfl, ?_⟩) ?_ ?_
  rotate_left
  · intro w'
    go_simp
    with_reducible rfl
  rotate_left
  · simp only [Act.put, List.setIfInBounds_toArray, List.set_cons_zero, List.set_cons_succ, i64_w, i32_w]
    rfl
  refine pure_ (i := 15) (N := some 4) (v := ?_) (a' := ?_) #[true, true, true, true, true, true, true, true, true, true, true, true, true, true, true, true] rfl rfl (by kernel_rfl) (fun _ _ _ h => h) (Or.inl ⟨by rfl, ?_⟩) ?_ ?_
  rotate_left
  · intro w'
    go_simp
    with_reducible rfl
  rotate_left
  · simp only [Act.put, List.setIfInBounds_toArray, List.set_cons_zero, List.set_cons_succ, i64_w, i32_w]
    rfl
  refine done_ (by kernel_rfl) ?_
  refine onlyN_mk ?_
  exact hK _ _ _ _ _ _ _ _ _ _ _ _ _ _ _ _ HS5.out.below
set_option maxHeartbeats 8000000 in
set_option maxRecDepth 100000 in
theorem order_lives (w : World) (A0 : Option Addr) (n0 c0 : Nat) (b : Int) (h : 64 < n0) : Calls Try.prog 8 #[.slice A0 n0 c0, .int .u8 b] w fun e w' => e = .returned (.bool true) ∧ Below w.heap.size w w' := by
  have d0 : decide ((64 : Int) < (n0 : Int)) = true := decide_eq_true (by omega)
  clear h
  go_enter Try.func8, Try.ntmps8
  go_wp2_with (go_at_call 34; refine (ladder_lives _).mono ?_; rintro e w1 ⟨rfl, hb⟩)
  go_ret
  exact ⟨rfl, hb⟩
set_option maxHeartbeats 16000000 in
set_option maxRecDepth 100000 in
theorem order_main (w : World) (A0 : Option Addr) (c0 : Nat) (l0 : List S33) (b : Nat) (hb : b < 256) (hr0 : Kd.C k33 w A0 l0.length l0) (h0 : l0.length ≤ 64) : Calls Try.prog 8 #[.slice A0 l0.length c0, .int .u8 (b : Int)] w fun e w' => e = .returned (.bool true) ∧ Below w.heap.size w w' := by
  have hu := Try.underlying33
  have hu4 := Try.underlying41
  obtain ⟨n0, hn0⟩ : ∃ n, l0.length = n := ⟨_, rfl⟩
  have H0 : Aside0 (∀ (i : Nat) (w' : World), Below w.heap.size w w' → i < n0 → ∃ ad, A0 = some ad ∧ w'.cell? (ad.add (i * 6)) = some (.int .u64 (rd_T33 l0 (i : Int)).f0) ∧ w'.cell? ⟨(ad.add (i * 6)).block, (ad.add (i * 6)).off + 1, none⟩ = some (.int .i64 (rd_T33 l0 (i : Int)).f1) ∧ w'.cell? ⟨(ad.add (i * 6)).block, (ad.add (i * 6)).off + 2, none⟩ = some (.int .i64 (rd_T33 l0 (i : Int)).f2) ∧ w'.cell? ⟨(ad.add (i * 6)).block, (ad.add (i * 6)).off + 3, none⟩ = some (.int .i64 (rd_T33 l0 (i : Int)).f3) ∧ w'.cell? ⟨(ad.add (i * 6)).block, (ad.add (i * 6)).off + 4, none⟩ = some (.int .i64 (rd_T33 l0 (i : Int)).f4) ∧ w'.cell? ⟨(ad.add (i * 6)).block, (ad.add (i * 6)).off + 5, none⟩ = some (.int .u64 (rd_T33 l0 (i : Int)).f5)) := ⟨fun i w' hb hi => by
    obtain ⟨ad, ha, x0, x1, x2, x3, x4, x5⟩ := at_T33 hr0 (i : Int) (by omega) (by omega)
    have kp : ∀ {p : Addr} {v : Value}, w.cell? p = some v → w'.cell? p = some v := fun h => cell_kept (fun k hk => hb.block k hk) h
    exact ⟨ad, ha, kp x0, kp x1, kp x2, kp x3, kp x4, kp x5⟩⟩
  rw [hn0]
  have HN := Aside0.mk (And.intro (hn0 ▸ h0 : n0 ≤ 64) hb)
  have d0 : decide ((64 : Int) < (n0 : Int)) = false := decide_eq_false (by omega)
  clear hr0 h0 hn0 hb
  have S0 := St.start w (fun _ => False)
  go_enter Try.func8, Try.ntmps8
  go_wp2_with (first
    | (go_at_call 35; refine (ladder_new _).mono ?_; rintro e w1 ⟨ga, rfl, hn⟩; have S1 := S0.join0 hn; clear S0 hn)
    | (go_at_call 35; refine (ladder_new _).mono ?_; rintro e w2 ⟨gb, rfl, hn⟩; have S2 := S1.join0 hn; clear S1 hn))
  clear d0
  have S3 := ((((S2.alloc (cs := #[.slice none 0 0]) (t := 64)).new (Below.refl _ _) Rw.loc (Kd.R_nil k41 41 _ _ _)).perm2.front 3 rfl).front 2 rfl).front 2 rfl
  generalize World.alloc w2 _ = w3 at S3 ⊢
  obtain ⟨gw, hgw⟩ : ∃ gw, w2.heap.size = gw := ⟨_, rfl⟩
  rw [hgw] at S3 ⊢
  clear S2 hgw
  go_loopg [27] n0 (fun kq v27 wr => ∃ i : Nat, v27 = .int .i64 (i : Int) ∧ Aside0 (i + kq = n0) ∧ ∃ (rs : Nat → List RowM) (m : Nat) (xs : List S41) (v : Value), Aside0 (PB l0 (List.range i) rs m) ∧ Aside0 (PX l0 (List.range i) xs) ∧ Aside0 (St w (fun _ => False) wr [Pt gw #[v] 64, Rw k41 41 v xs, BookP ga (rs 1) (rs 2) m, BookP gb [] [] 0]))
  case atStart => exact ⟨0, rfl, ⟨by omega⟩, fun _ => [], 0, [], .slice none 0 0, ⟨PB.nil l0⟩, ⟨PX.nil l0⟩, ⟨S3⟩⟩
  case round =>
    clear S3
    obtain ⟨i, rfl, HI, rs, m, xs, v, HP, HX, HS⟩ := hrel
    have S := HS.out
    clear HS
    by_cases hlt : i < n0
    · have hlt' : (i : Int) < (n0 : Int) := by omega
      have hd : decide ((i : Int) < (n0 : Int)) = true := decide_eq_true hlt'
      have hi0 : (0 : Int) ≤ (i : Int) := Int.natCast_nonneg i
      obtain ⟨ad, rfl, x0, x1, x2, x3, x4, x5⟩ := H0.out i wr S.below hlt
      have hni : i ∉ List.range i := fun h => by have := List.mem_range.1 h; omega
      have hnl : (List.range i).length < 64 := by have := HN.out.1; rw [List.length_range]; omega
      have st1 := HP.out.step hni hnl
      obtain ⟨q1, q2, r, q3, q4⟩ := HX.out.step hni hnl
      rw [← List.range_succ] at st1 q4
      obtain ⟨o, ho⟩ : ∃ o, rd_T33 l0 (i : Int) = o := ⟨_, rfl⟩
      have ho2 : ordI l0 i = ⟨(i : Int), o.f1, o.f2, o.f3, o.f4, o.f5⟩ := by rw [ordI, ho]
      rw [ho] at x0 x1 x2 x3 x4 x5
      rw [ho2] at st1 q3 q4
      have HQ := Aside0.mk (And.intro st1 (And.intro q1 (And.intro q2 (And.intro q3 q4))))
      have HV := Aside0.mk HP.out.inv
      have hwu : IntKind.u64.wrap (i : Int) = (i : Int) := by have := HN.out.1; show (i : Int) % 18446744073709551616 = (i : Int); omega
      have hwi : wrap64 ((i : Int) + 1) = ((i + 1 : Nat) : Int) := by have := HN.out.1; unfold wrap64; omega
      clear ho ho2 hlt hni hnl st1 q1 q2 q3 q4 HP HX
      go_wp2_with (first
        | (go_at_call 36; refine Calls.named ?_; intro w4 hw4; have S2 : St w (fun _ => False) w4 [Pt wr.heap.size #[.int .u64 (i : Int), .int .i64 o.f1, .int .i64 o.f2, .int .i64 o.f3, .int .i64 o.f4, .int .u64 o.f5] 33, Pt gw #[v] 64, Rw k41 41 v xs, BookP ga (rs 1) (rs 2) m, BookP gb [] [] 0] := (by rw [hw4]; first | exact S.alloc | exact S.alloc.put 0 _ rfl); clear hw4 S x0 x1 x2 x3 x4 x5; obtain ⟨F, hA, _, hj⟩ := (S2.front 3 rfl).join; refine (book_add hA HV.out.few ⟨(i : Int), o.f1, o.f2, o.f3, o.f4, o.f5⟩).mono ?_; rintro e w5 ⟨rfl, hs⟩; have S4 := hj w5 _ hs; clear hA hj hs S2; have k0 : w5.cell? ⟨wr.heap.size, 0, none⟩ = some (.int .u64 (i : Int)) := (blk_cell (S4.blk 1 rfl) 0).trans rfl; have k1 : w5.cell? ⟨wr.heap.size, 1, none⟩ = some (.int .i64 o.f1) := (blk_cell (S4.blk 1 rfl) 1).trans rfl; have k2 : w5.cell? ⟨wr.heap.size, 2, none⟩ = some (.int .i64 o.f2) := (blk_cell (S4.blk 1 rfl) 2).trans rfl; have k3 : w5.cell? ⟨wr.heap.size, 3, none⟩ = some (.int .i64 o.f3) := (blk_cell (S4.blk 1 rfl) 3).trans rfl; have k4 : w5.cell? ⟨wr.heap.size, 4, none⟩ = some (.int .i64 o.f4) := (blk_cell (S4.blk 1 rfl) 4).trans rfl; have k5 : w5.cell? ⟨wr.heap.size, 5, none⟩ = some (.int .u64 o.f5) := (blk_cell (S4.blk 1 rfl) 5).trans rfl)
        | (go_at_call 37; refine (ref_add ((S4.front 3 rfl).front 3 rfl) ⟨(i : Int), o.f1, o.f2, o.f3, o.f4, o.f5⟩ _ (good_ref _) HQ.out.2.1 HQ.out.2.2.1 kS r HQ.out.2.2.2.1).mono ?_; rintro e w6 ⟨⟨nr, rfl⟩, v', S5⟩; clear S4 k0 k1 k2 k3 k4 k5))
      go_roundg (gk - 1)
      case measure => have := HI.out; omega
      case rel => exact ⟨i + 1, by first | rfl | rw [hwi] | go_num, ⟨by have := HI.out; omega⟩, _, _, _, v', ⟨HQ.out.1⟩, ⟨HQ.out.2.2.2.2⟩, ⟨(S5.front 3 rfl).drop⟩⟩
    · have hlt' : ¬ (i : Int) < (n0 : Int) := by omega
      have hd : decide ((i : Int) < (n0 : Int)) = false := decide_eq_false hlt'
      have hin : i = n0 := by have := HI.out; omega
      rw [hin] at HP HX
      clear HI hin
      go_wp2
      have S3 := S.front 3 rfl
      clear S hlt hlt' hd
      go_loopg [43] n0 (fun kq v43 wr => ∃ j : Nat, v43 = .int .i64 (j : Int) ∧ Aside0 (j + kq = n0) ∧ ∃ (rs' : Nat → List RowM) (m' : Nat), Aside0 (PB l0 ((List.range j).map (ixJ n0 b)) rs' m') ∧ Aside0 (St w (fun _ => False) wr [BookP gb (rs' 1) (rs' 2) m', Pt gw #[v] 64, Rw k41 41 v xs, BookP ga (rs 1) (rs 2) m]))
      case atStart => exact ⟨0, rfl, ⟨by omega⟩, fun _ => [], 0, ⟨PB.nil l0⟩, ⟨S3⟩⟩
      case round =>
        clear S3
        obtain ⟨j, rfl, HI, rs', m', HP2, HS⟩ := hrel
        have S := HS.out
        clear HS
        by_cases hlt : j < n0
        · have hlt' : (j : Int) < (n0 : Int) := by omega
          have hd : decide ((j : Int) < (n0 : Int)) = true := decide_eq_true hlt'
          have hnl : ((List.range j).map (ixJ n0 b)).length < 64 := by have := HN.out.1; rw [List.length_map, List.length_range]; omega
          obtain ⟨jb, kk, n1, ix, hij, hixn, hwb', hwa, hn0, hrem, hwk, hw1, hw2, hwu, hwi⟩ := ix_facts HN.out.1 HN.out.2 hlt
          have hi0 : (0 : Int) ≤ (ix : Int) := Int.natCast_nonneg ix
          have hi1 : (ix : Int) < (n0 : Int) := Int.ofNat_lt.2 hixn
          obtain ⟨ad, rfl, x0, x1, x2, x3, x4, x5⟩ := H0.out ix wr S.below hixn
          have st1 := HP2.out.step (ixJ_new hlt) hnl
          rw [← ixJ_snoc, hij] at st1
          obtain ⟨o, ho⟩ : ∃ o, rd_T33 l0 (ix : Int) = o := ⟨_, rfl⟩
          have ho2 : ordI l0 ix = ⟨(ix : Int), o.f1, o.f2, o.f3, o.f4, o.f5⟩ := by rw [ordI, ho]
          rw [ho] at x0 x1 x2 x3 x4 x5
          rw [ho2] at st1
          have HQ := Aside0.mk st1
          have HV := Aside0.mk HP2.out.inv
          clear ho ho2 hlt hij hixn st1 HP2 hnl
          go_wp2_with (first
            | (go_at_call 36; refine Calls.named ?_; intro w4 hw4; have S2 : St w (fun _ => False) w4 [Pt wr.heap.size #[.int .u64 (ix : Int), .int .i64 o.f1, .int .i64 o.f2, .int .i64 o.f3, .int .i64 o.f4, .int .u64 o.f5] 33, BookP gb (rs' 1) (rs' 2) m', Pt gw #[v] 64, Rw k41 41 v xs, BookP ga (rs 1) (rs 2) m] := (by rw [hw4]; first | exact S.alloc | exact S.alloc.put 0 _ rfl); clear hw4 S x0 x1 x2 x3 x4 x5; obtain ⟨F, hA, _, hj⟩ := (S2.front 1 rfl).join; refine (book_add hA HV.out.few ⟨(ix : Int), o.f1, o.f2, o.f3, o.f4, o.f5⟩).mono ?_; rintro e w5 ⟨rfl, hs⟩; have S4 := hj w5 _ hs; clear hA hj hs S2))
          go_roundg (gk - 1)
          case measure => clear hrem hwk hw1 hw2 hwa hwb' hwu hwi; have := HI.out; omega
          case rel => exact ⟨j + 1, by first | rfl | rw [hwi] | go_num, ⟨by clear hrem hwk hw1 hw2 hwa hwb' hwu hwi; have := HI.out; omega⟩, _, _, ⟨HQ.out⟩, ⟨(S4.front 1 rfl).drop⟩⟩
        · have hlt' : ¬ (j : Int) < (n0 : Int) := by omega
          have hd : decide ((j : Int) < (n0 : Int)) = false := decide_eq_false hlt'
          have hjn : j = n0 := by have := HI.out; omega
          rw [hjn] at HP2
          clear HI hjn
          have hpm : ((List.range n0).map (ixJ n0 b)).Perm (List.range n0) := by
            rcases Nat.eq_zero_or_pos n0 with h | h
            · rw [h]; exact List.Perm.refl _
            · exact ixJ_perm n0 b h
          have e1 := HP.out.fin HX.out (List.Perm.refl _) List.nodup_range
          have e2 := HP2.out.fin HX.out hpm List.nodup_range
          have l1 := HP.out.len
          have l2 := HP2.out.len
          rw [List.length_range] at l1
          rw [List.length_map, List.length_range] at l2
          obtain ⟨okx, hRx⟩ := S.rd 2 rfl
          obtain ⟨Ax, cx, rfl⟩ := Kd.R_slice hRx
          obtain ⟨LA, hLA⟩ : ∃ L, flR (rs 1) ++ flR (rs 2) = L := ⟨_, rfl⟩
          obtain ⟨LB, hLB⟩ : ∃ L, flR (rs' 1) ++ flR (rs' 2) = L := ⟨_, rfl⟩
          rw [hLA] at e1 l1
          rw [hLB] at e2 l2
          have h64 := HN.out.1
          have HSA : Aside0 (jobberlaw12_Same.f 2000 LA xs = some true) := ⟨by rw [e1]; exact same_eq LA 2000 (by omega) (by omega)⟩
          have HSB : Aside0 (jobberlaw12_Same.f 2000 LB xs = some true) := ⟨by rw [e2]; exact same_eq LB 2000 (by omega) (by omega)⟩
          have HAA : Aside0 (∀ (W' : World) (A : Nat → Option Addr) (c : Nat → Nat), BkF ga rs m A c W' → Calls Try.prog 38 #[.pointer (some ⟨ga, 0, none⟩)] W' fun e w' => ∃ v, e = .returned v ∧ St W' (fun _ => False) w' [OwP 33 6 v LA.length (ocs LA)]) := ⟨fun W' A c hb => by
            have := hb.all HP.out.inv.fullB HP.out.inv.few
            rw [hLA] at this
            exact this⟩
          have HAB : Aside0 (∀ (W' : World) (A : Nat → Option Addr) (c : Nat → Nat), BkF gb rs' m' A c W' → Calls Try.prog 38 #[.pointer (some ⟨gb, 0, none⟩)] W' fun e w' => ∃ v, e = .returned v ∧ St W' (fun _ => False) w' [OwP 33 6 v LB.length (ocs LB)]) := ⟨fun W' A c hb => by
            have := hb.all HP2.out.inv.fullB HP2.out.inv.few
            rw [hLB] at this
            exact this⟩
          clear hpm e1 e2 l1 l2 hRx okx hLA hLB h64 HX
          go_wp2
          refine order_r22 rfl S ⟨HP.out.inv⟩ ⟨HP2.out.inv⟩ HSA HSB HAA HAB ?_
          intros
          rename_i w9 hb9
          go_wp2
          go_ret
          exact ⟨rfl, hb9⟩
def jobberlaw13_LadderOrder.f (l0 : List S33) (a1 : Int) : Option Bool := if 0 ≤ a1 ∧ a1 < 256 then some true else none
theorem jobberlaw13_LadderOrder.calls (A0 : Option Addr) (c0 : Nat) (l0 : List S33) (a1 : Int) (r : Bool) (w : World) (hr0 : Kd.C k33 w A0 l0.length l0) (hc0 : l0.length ≤ c0) (h : jobberlaw13_LadderOrder.f l0 a1 = some r) :
    Calls Try.prog 8 #[.slice A0 l0.length c0, .int .u8 a1] w fun e w' => e = .returned (.bool r) ∧ Below w.heap.size w w' := by
  rw [jobberlaw13_LadderOrder.f] at h
  by_cases hc : 0 ≤ a1 ∧ a1 < 256
  · rw [if_pos hc] at h
    obtain rfl := Option.some.inj h
    by_cases c : 64 < l0.length
    · exact order_lives w A0 _ c0 a1 c
    · obtain ⟨b, rfl⟩ := Int.eq_ofNat_of_zero_le hc.1
      exact order_main w A0 c0 l0 b (by omega) hr0 (by omega)
  · rw [if_neg hc] at h; cases h
end Go.Proofs.Ytlihfiajbhpokaa.Ldo
