/- Printed by this session's wip/drive.py over the translation; some functions by hand. -/
import Derived.Test.YtlihfiajbhpokaaOrtx0
namespace Go.Proofs.Ytlihfiajbhpokaa.Ort
open Go.RowKit Go.Proofs.YtlihfiajbhpokaaW.PrintWords Go.Proofs.YtlihfiajbhpokaaW.PrintLast Go.Proofs.YtlihfiajbhpokaaW.PrintMore
attribute [local go_sem] max2_int min2_int max_two min_two max_three min_three max_four min_four   -- for this text's walks alone
set_option linter.unusedVariables false
set_option linter.unusedSimpArgs false

/-! ### jobberref01_nought: function 108 (by hand; for other hand texts alone) -/
def sv (m : Nat) (s : Bool) : Int := if s then -(m : Int) else m
theorem nz_of {m : Nat} (h : (!decide (m = 0)) = true) : m ≠ 0 := by simpa using h
theorem sv_nz (m : Nat) : sv m (!decide (m = 0)) = -(m : Int) := by
  unfold sv
  by_cases h : m = 0 <;> simp [h]
/-- A number's cells: its bits, and whether it is below 0. -/
def numL (m : Nat) (g : Bool) : List Value := (List.range 136).map (fun i => Value.bool (m.testBit i)) ++ [.bool g]
def numC (m : Nat) (g : Bool) : Array Value := (numL m g).toArray
theorem numC_size (m : Nat) (g : Bool) : (numC m g).size = 137 := by simp [numC, numL]
theorem numC_bit (m : Nat) (g : Bool) {i : Nat} (h : i < 136) : (numC m g)[i]? = some (.bool (m.testBit i)) := by
  simp [numC, numL, List.getElem?_append, h]
theorem numC_neg (m : Nat) (g : Bool) : (numC m g)[136]? = some (.bool g) := by
  simp [numC, numL, List.getElem?_append]
theorem numC_one (m : Nat) (g : Bool) : (numC m g).all (·.oneCell') = true := by
  simp [numC, numL, Value.oneCell']
theorem numC_set {m m' : Nat} {g : Bool} {i : Nat} {b : Bool} (hi : i < 136) (h : ∀ j, j < 136 → m'.testBit j = if j = i then b else m.testBit j) : (numC m g).setIfInBounds i (.bool b) = numC m' g := by
  apply Array.ext_getElem?
  intro j
  rw [Array.getElem?_setIfInBounds]
  by_cases hj : i = j
  · subst hj
    rw [if_pos rfl, numC_size, if_pos (by omega), numC_bit _ _ hi, h i hi, if_pos rfl]
  · rw [if_neg hj]
    by_cases hj2 : j < 136
    · rw [numC_bit _ _ hj2, numC_bit _ _ hj2, h j hj2, if_neg (fun e => hj e.symm)]
    · by_cases hj3 : j = 136
      · subst hj3; rw [numC_neg, numC_neg]
      · rw [Array.getElem?_eq_none (by rw [numC_size]; omega), Array.getElem?_eq_none (by rw [numC_size]; omega)]
theorem numC_setNeg (m : Nat) (g b : Bool) : (numC m g).setIfInBounds 136 (.bool b) = numC m b := by
  apply Array.ext_getElem?
  intro j
  rw [Array.getElem?_setIfInBounds]
  by_cases hj : 136 = j
  · subst hj
    rw [if_pos rfl, numC_size, if_pos (by omega), numC_neg]
  · rw [if_neg hj]
    by_cases hj2 : j < 136
    · rw [numC_bit _ _ hj2, numC_bit _ _ hj2]
    · rw [Array.getElem?_eq_none (by rw [numC_size]; omega), Array.getElem?_eq_none (by rw [numC_size]; omega)]
theorem numZ : (Array.replicate 137 (Value.bool false)) = numC 0 false := by
  apply Array.ext_getElem?
  intro j
  by_cases hj2 : j < 136
  · rw [numC_bit _ _ hj2, Array.getElem?_replicate, if_pos (by omega)]; simp
  · by_cases hj3 : j = 136
    · subst hj3; rw [numC_neg]; simp
    · rw [Array.getElem?_eq_none (by simp; omega), Array.getElem?_eq_none (by rw [numC_size]; omega)]
/-! Numbers as rows of bits -/
def setb (V i : Nat) (b : Bool) : Nat := if V.testBit i = b then V else V ^^^ 2 ^ i
theorem tb_setb (V i : Nat) (b : Bool) (j : Nat) : (setb V i b).testBit j = if j = i then b else V.testBit j := by
  unfold setb
  by_cases h : V.testBit i = b
  · rw [if_pos h]
    by_cases hj : j = i
    · subst hj; rw [if_pos rfl, h]
    · rw [if_neg hj]
  · rw [if_neg h, Nat.testBit_xor, Nat.testBit_two_pow]
    by_cases hj : j = i
    · subst hj
      rw [if_pos rfl]
      cases hb : V.testBit j <;> cases b <;> simp_all
    · rw [if_neg hj, decide_eq_false (fun e => hj e.symm)]
      simp
theorem numC_setb (m : Nat) (g : Bool) (i : Nat) (b : Bool) (hi : i < 136) : (numC m g).setIfInBounds i (.bool b) = numC (setb m i b) g := numC_set hi (fun j _ => tb_setb m i b j)
theorem numC_congr {m m' : Nat} {g : Bool} (h : ∀ j, j < 136 → m.testBit j = m'.testBit j) : numC m g = numC m' g := by
  apply Array.ext_getElem?
  intro j
  by_cases hj2 : j < 136
  · rw [numC_bit _ _ hj2, numC_bit _ _ hj2, h j hj2]
  · by_cases hj3 : j = 136
    · subst hj3; rw [numC_neg, numC_neg]
    · rw [Array.getElem?_eq_none (by rw [numC_size]; omega), Array.getElem?_eq_none (by rw [numC_size]; omega)]
theorem tb_div (x k : Nat) : (if x.testBit k then 1 else 0) = x / 2 ^ k % 2 := by
  rw [Nat.testBit_eq_decide_div_mod_eq]
  rcases Nat.mod_two_eq_zero_or_one (x / 2 ^ k) with h | h <;> simp [h]
theorem tb_eq {x y k : Nat} (h : x / 2 ^ k % 2 = y / 2 ^ k % 2) : x.testBit k = y.testBit k := by
  rw [Nat.testBit_eq_decide_div_mod_eq, Nat.testBit_eq_decide_div_mod_eq, h]
theorem split_at (x k : Nat) : x = x / 2 ^ k * 2 ^ k + x % 2 ^ k ∧ x % 2 ^ k < 2 ^ k := ⟨by have := Nat.div_add_mod x (2 ^ k); rw [Nat.mul_comm] at this; omega, Nat.mod_lt _ (Nat.two_pow_pos k)⟩
/-- carry into place k -/
def car (a b k : Nat) : Bool := decide (2 ^ k ≤ a % 2 ^ k + b % 2 ^ k)
theorem add_bit (a b k : Nat) : (a + b) / 2 ^ k = a / 2 ^ k + b / 2 ^ k + (if car a b k then 1 else 0) := by
  have ha := split_at a k; have hb := split_at b k
  have hp := Nat.two_pow_pos k
  unfold car
  have e : a + b = (a / 2 ^ k + b / 2 ^ k) * 2 ^ k + (a % 2 ^ k + b % 2 ^ k) := by rw [Nat.add_mul]; omega
  rw [e, Nat.add_comm, Nat.add_mul_div_right _ _ hp, Nat.add_comm]
  congr 1
  by_cases h : 2 ^ k ≤ a % 2 ^ k + b % 2 ^ k
  · have hd : (a % 2 ^ k + b % 2 ^ k) / 2 ^ k = 1 := Nat.div_eq_of_lt_le (by omega) (by omega)
    rw [decide_eq_true h, if_pos rfl, hd]
  · rw [decide_eq_false h, if_neg (by decide), Nat.div_eq_of_lt (by omega)]
theorem car_succ (a b k : Nat) : car a b (k + 1) = decide (2 ≤ a / 2 ^ k % 2 + b / 2 ^ k % 2 + (if car a b k then 1 else 0)) := by
  have h1 := Nat.mod_pow_succ (b := 2) (k := k) (x := a)
  have h2 := Nat.mod_pow_succ (b := 2) (k := k) (x := b)
  have ha := (split_at a k).2; have hb := (split_at b k).2
  unfold car
  rw [h1, h2, Nat.pow_succ]
  have c1 := Nat.mod_two_eq_zero_or_one (a / 2 ^ k)
  have c2 := Nat.mod_two_eq_zero_or_one (b / 2 ^ k)
  generalize a / 2 ^ k % 2 = x at *
  generalize b / 2 ^ k % 2 = y at *
  generalize a % 2 ^ k = p at *
  generalize b % 2 ^ k = q at *
  generalize 2 ^ k = P at *
  rw [Bool.eq_iff_iff]
  by_cases h : P ≤ p + q
  · rw [decide_eq_true h]
    rcases c1 with rfl | rfl <;> rcases c2 with rfl | rfl <;> simp <;> omega
  · rw [decide_eq_false h]
    rcases c1 with rfl | rfl <;> rcases c2 with rfl | rfl <;> simp <;> omega
/-- borrow from place k -/
def bor (a b k : Nat) : Bool := decide (a % 2 ^ k < b % 2 ^ k)
theorem sub_bit {a b : Nat} (h : b ≤ a) (k : Nat) : (a - b) / 2 ^ k + b / 2 ^ k + (if bor a b k then 1 else 0) = a / 2 ^ k := by
  have ha := split_at a k; have hb := split_at b k
  have hp := Nat.two_pow_pos k
  unfold bor
  by_cases hc : a % 2 ^ k < b % 2 ^ k
  · rw [decide_eq_true hc, if_pos rfl]
    have hlt : b / 2 ^ k + 1 ≤ a / 2 ^ k := by
      rcases Nat.lt_or_ge (b / 2 ^ k) (a / 2 ^ k) with h1 | h1
      · exact h1
      · have := Nat.mul_le_mul_right (2 ^ k) h1
        omega
    have e : a - b = (a / 2 ^ k - b / 2 ^ k - 1) * 2 ^ k + (a % 2 ^ k + 2 ^ k - b % 2 ^ k) := by
      have := Nat.mul_le_mul_right (2 ^ k) hlt
      rw [Nat.sub_mul, Nat.sub_mul, Nat.one_mul]
      rw [Nat.add_mul, Nat.one_mul] at this
      omega
    rw [e, Nat.add_comm ((a / 2 ^ k - b / 2 ^ k - 1) * 2 ^ k), Nat.add_mul_div_right _ _ hp, Nat.div_eq_of_lt (by omega)]
    omega
  · rw [decide_eq_false hc, if_neg (by decide)]
    have hle : b / 2 ^ k ≤ a / 2 ^ k := Nat.div_le_div_right h
    have e : a - b = (a / 2 ^ k - b / 2 ^ k) * 2 ^ k + (a % 2 ^ k - b % 2 ^ k) := by
      have := Nat.mul_le_mul_right (2 ^ k) hle
      rw [Nat.sub_mul]
      omega
    rw [e, Nat.add_comm ((a / 2 ^ k - b / 2 ^ k) * 2 ^ k), Nat.add_mul_div_right _ _ hp, Nat.div_eq_of_lt (by omega)]
    omega
theorem bor_succ (a b k : Nat) : bor a b (k + 1) = decide (a / 2 ^ k % 2 < b / 2 ^ k % 2 + (if bor a b k then 1 else 0)) := by
  have h1 := Nat.mod_pow_succ (b := 2) (k := k) (x := a)
  have h2 := Nat.mod_pow_succ (b := 2) (k := k) (x := b)
  have ha := (split_at a k).2; have hb := (split_at b k).2
  unfold bor
  rw [h1, h2]
  have c1 := Nat.mod_two_eq_zero_or_one (a / 2 ^ k)
  have c2 := Nat.mod_two_eq_zero_or_one (b / 2 ^ k)
  generalize a / 2 ^ k % 2 = x at *
  generalize b / 2 ^ k % 2 = y at *
  generalize a % 2 ^ k = p at *
  generalize b % 2 ^ k = q at *
  generalize 2 ^ k = P at *
  rw [Bool.eq_iff_iff]
  by_cases h : p < q
  · rw [decide_eq_true h]
    rcases c1 with rfl | rfl <;> rcases c2 with rfl | rfl <;> simp <;> omega
  · rw [decide_eq_false h]
    rcases c1 with rfl | rfl <;> rcases c2 with rfl | rfl <;> simp <;> omega
theorem add_tb (a b k : Nat) : (a + b).testBit k = ((a.testBit k ^^ b.testBit k) ^^ car a b k) := by
  rw [Nat.testBit_eq_decide_div_mod_eq, Nat.testBit_eq_decide_div_mod_eq, Nat.testBit_eq_decide_div_mod_eq, add_bit]
  have c1 := Nat.mod_two_eq_zero_or_one (a / 2 ^ k)
  have c2 := Nat.mod_two_eq_zero_or_one (b / 2 ^ k)
  generalize a / 2 ^ k = x at *
  generalize b / 2 ^ k = y at *
  rw [Bool.eq_iff_iff]
  cases car a b k <;> rcases c1 with c1 | c1 <;> rcases c2 with c2 | c2 <;> simp [c1, c2] <;> omega
theorem car_tb (a b k : Nat) : car a b (k + 1) = ((a.testBit k && b.testBit k) || (car a b k && (a.testBit k || b.testBit k))) := by
  rw [Nat.testBit_eq_decide_div_mod_eq, Nat.testBit_eq_decide_div_mod_eq, car_succ]
  have c1 := Nat.mod_two_eq_zero_or_one (a / 2 ^ k)
  have c2 := Nat.mod_two_eq_zero_or_one (b / 2 ^ k)
  cases car a b k <;> rcases c1 with c1 | c1 <;> rcases c2 with c2 | c2 <;> simp [c1, c2]
theorem sub_tb {a b : Nat} (h : b ≤ a) (k : Nat) : (a - b).testBit k = ((a.testBit k ^^ b.testBit k) ^^ bor a b k) := by
  rw [Nat.testBit_eq_decide_div_mod_eq, Nat.testBit_eq_decide_div_mod_eq, Nat.testBit_eq_decide_div_mod_eq]
  have e := sub_bit h k
  have c1 := Nat.mod_two_eq_zero_or_one (a / 2 ^ k)
  have c2 := Nat.mod_two_eq_zero_or_one (b / 2 ^ k)
  generalize a / 2 ^ k = x at *
  generalize b / 2 ^ k = y at *
  generalize (a - b) / 2 ^ k = z at *
  rw [Bool.eq_iff_iff]
  cases hb : bor a b k <;> rw [hb] at e <;> rcases c1 with c1 | c1 <;> rcases c2 with c2 | c2 <;> simp [c1, c2] at e ⊢ <;> omega
theorem bor_tb (a b k : Nat) : bor a b (k + 1) = ((!a.testBit k && b.testBit k) || (bor a b k && (!a.testBit k || b.testBit k))) := by
  rw [Nat.testBit_eq_decide_div_mod_eq, Nat.testBit_eq_decide_div_mod_eq, bor_succ]
  have c1 := Nat.mod_two_eq_zero_or_one (a / 2 ^ k)
  have c2 := Nat.mod_two_eq_zero_or_one (b / 2 ^ k)
  cases bor a b k <;> rcases c1 with c1 | c1 <;> rcases c2 with c2 | c2 <;> simp [c1, c2]
/-- What is known of the number that is filled from the lowest place on. -/
def Upto (V r k : Nat) : Prop := ∀ j, j < 136 → V.testBit j = if j < k then r.testBit j else false
theorem Upto.zero (r : Nat) : Upto 0 r 0 := fun j _ => by simp
theorem Upto.step {V r k : Nat} {b : Bool} (h : Upto V r k) (hb : r.testBit k = b) : Upto (setb V k b) r (k + 1) := by
  intro j hj
  rw [tb_setb, h j hj]
  by_cases e : j = k
  · subst e; rw [if_pos rfl, if_pos (by omega), hb]
  · rw [if_neg e]
    by_cases e2 : j < k
    · rw [if_pos e2, if_pos (by omega)]
    · rw [if_neg e2, if_neg (by omega)]
theorem Upto.done {V r k : Nat} {g : Bool} (h : Upto V r k) (hk : 136 ≤ k) : numC V g = numC r g := numC_congr fun j hj => by rw [h j hj, if_pos (by omega)]

theorem zcNum : Try.zeroCells137 = numC 0 false := by
  rw [← numZ]
  kernel_rfl
theorem sizeNum (m : Nat) (g : Bool) : (Try.prog.info? 137).map (·.size) = some (numC m g).size := by
  rw [numC_size]
  kernel_rfl
/-- the numbers of the call's own: block, bits, sign -/
abbrev NB := List (Nat × Nat × Bool)
def Own (w0 W : World) (l : NB) : Prop := Below w0.heap.size w0 W ∧ (∀ (i : Nat) (x : Nat × Nat × Bool), l[i]? = some x → w0.heap.size ≤ x.1 ∧ W.heap[x.1]? = some (.cells (numC x.2.1 x.2.2) 137 (0, 0))) ∧ ∀ (i j : Nat) (x y : Nat × Nat × Bool), l[i]? = some x → l[j]? = some y → i ≠ j → x.1 ≠ y.1
theorem num_setRow {B g : Nat} {w0 w : World} (hb : Below B w0 w) (hBg : B ≤ g) (cs : Array Value) : Below B w0 (w.setRow g cs) := hb.trans ⟨rfl, rfl, rfl, by simp [World.setRow], fun k hk => setRow_other w g k cs (by omega)⟩
theorem Own.start (w : World) : Own w w [] := ⟨Below.refl _ _, fun i x h => by simp at h, fun i j x y h => by simp at h⟩
theorem Own.below {w0 W : World} {l : NB} (h : Own w0 W l) : Below w0.heap.size w0 W := h.1
theorem Own.blk {w0 W : World} {l : NB} (h : Own w0 W l) (i : Nat) {g m : Nat} {s : Bool} (hi : l[i]? = some (g, m, s)) : W.heap[g]? = some (.cells (numC m s) 137 (0, 0)) := (h.2.1 i _ hi).2
theorem Own.call {w0 W W1 : World} {l : NB} (h : Own w0 W l) (hB : Below W.heap.size W W1) : Own w0 W1 l := ⟨below_step h.1 hB, fun i x hx => ⟨(h.2.1 i x hx).1, blk_below (h.2.1 i x hx).2 hB⟩, h.2.2⟩
theorem Own.alloc {w0 W W1 : World} {l : NB} (h : Own w0 W l) {g m : Nat} {s : Bool} (hg : g = W.heap.size) (hb : W1.heap[g]? = some (.cells (numC m s) 137 (0, 0))) (hB : Below W.heap.size W W1) : Own w0 W1 (l ++ [(g, m, s)]) := by
  have h1 := h.call hB
  have hlt : ∀ (i : Nat) (x : Nat × Nat × Bool), l[i]? = some x → x.1 < W.heap.size := fun i x hx => blk_lt (h.2.1 i x hx).2
  have hcase : ∀ (i : Nat) (x : Nat × Nat × Bool), (l ++ [(g, m, s)])[i]? = some x → (i < l.length ∧ l[i]? = some x) ∨ (i = l.length ∧ x = (g, m, s)) := fun i x hx => by
    by_cases hi : i < l.length
    · rw [List.getElem?_append_left hi] at hx; exact .inl ⟨hi, hx⟩
    · rw [List.getElem?_append_right (by omega)] at hx
      have h0 : i - l.length = 0 := by
        have := (List.getElem?_eq_some_iff.1 hx).1
        simp at this
        omega
      rw [h0] at hx
      simp at hx
      exact .inr ⟨by omega, hx.symm⟩
  refine ⟨h1.1, fun i x hx => ?_, fun i j x y hx hy hij => ?_⟩
  · rcases hcase i x hx with ⟨_, h2⟩ | ⟨_, rfl⟩
    · exact h1.2.1 i x h2
    · exact ⟨by rw [hg]; exact h.1.size, hb⟩
  · rcases hcase i x hx with ⟨_, h2⟩ | ⟨h2, rfl⟩ <;> rcases hcase j y hy with ⟨_, h3⟩ | ⟨h3, rfl⟩
    · exact h.2.2 i j x y h2 h3 hij
    · have := hlt i x h2; dsimp only; omega
    · have := hlt j y h3; dsimp only; omega
    · omega
theorem Own.put {w0 W W1 : World} {l : NB} (h : Own w0 W l) (i : Nat) {g m m' : Nat} {s s' : Bool} (hi : l[i]? = some (g, m, s)) (hb : W1.heap[g]? = some (.cells (numC m' s') 137 (0, 0))) (hB : Below w0.heap.size w0 W1) (ho : ∀ k, k ≠ g → W1.heap[k]? = W.heap[k]?) : Own w0 W1 (l.set i (g, m', s')) := by
  have hlt : i < l.length := (List.getElem?_eq_some_iff.1 hi).1
  refine ⟨hB, fun j x hx => ?_, fun j k x y hx hy hjk => ?_⟩
  · rw [List.getElem?_set] at hx
    by_cases e : i = j
    · rw [if_pos e, if_pos hlt] at hx
      cases hx
      exact ⟨(h.2.1 i _ hi).1, hb⟩
    · rw [if_neg e] at hx
      exact ⟨(h.2.1 j x hx).1, by rw [ho x.1 (h.2.2 j i x _ hx hi (Ne.symm e))]; exact (h.2.1 j x hx).2⟩
  · have hf : ∀ (j : Nat) (x : Nat × Nat × Bool), (l.set i (g, m', s'))[j]? = some x → ∃ y, l[j]? = some y ∧ y.1 = x.1 := fun j x hx => by
      rw [List.getElem?_set] at hx
      by_cases e : i = j
      · rw [if_pos e, if_pos hlt] at hx
        cases hx
        exact ⟨(g, m, s), e ▸ hi, rfl⟩
      · rw [if_neg e] at hx
        exact ⟨x, hx, rfl⟩
    obtain ⟨x', hx', e1⟩ := hf j x hx
    obtain ⟨y', hy', e2⟩ := hf k y hy
    rw [← e1, ← e2]
    exact h.2.2 j k x' y' hx' hy' hjk
theorem Own.bit {w0 W : World} {l : NB} (h : Own w0 W l) (i k : Nat) {g m : Nat} {s : Bool} (hi : l[i]? = some (g, m, s)) (hk : k < 136) (b : Bool) : Own w0 (W.setCell ⟨g, k, none⟩ (.bool b)) (l.set i (g, setb m k b, s)) :=
  h.put i hi (by rw [← numC_setb _ _ _ _ hk]; exact blk_set (h.blk i hi) k _) (below_set h.1 (h.2.1 i _ hi).1) (fun j hj => Below.heap_setCell W ⟨g, k, none⟩ _ j hj)
theorem Own.sign {w0 W : World} {l : NB} (h : Own w0 W l) (i : Nat) {g m : Nat} {s : Bool} (hi : l[i]? = some (g, m, s)) (b : Bool) : Own w0 (W.setCell ⟨g, 136, none⟩ (.bool b)) (l.set i (g, m, b)) :=
  h.put i hi (by rw [← numC_setNeg m s b]; exact blk_set (h.blk i hi) 136 _) (below_set h.1 (h.2.1 i _ hi).1) (fun j hj => Below.heap_setCell W ⟨g, 136, none⟩ _ j hj)
theorem Own.cell {w0 W : World} {l : NB} (h : Own w0 W l) (i k : Nat) {g m : Nat} {s : Bool} (hi : l[i]? = some (g, m, s)) (hk : k < 136) : W.cell? ⟨g, k, none⟩ = some (.bool (m.testBit k)) := (blk_cell (h.blk i hi) k).trans (numC_bit m s hk)
theorem Own.neg {w0 W : World} {l : NB} (h : Own w0 W l) (i : Nat) {g m : Nat} {s : Bool} (hi : l[i]? = some (g, m, s)) : W.cell? ⟨g, 136, none⟩ = some (.bool s) := (blk_cell (h.blk i hi) 136).trans (numC_neg m s)
theorem Own.free {w0 W : World} {l : NB} (h : Own w0 W l) (i k : Nat) {g m : Nat} {s : Bool} (hi : l[i]? = some (g, m, s)) : W.frozen? ⟨g, k, none⟩ = false := blk_frozen (h.blk i hi) k
section
variable {ops : Array Oper} {rest : List Oper} {o : Oper} {a : Act} {Q : Exit → Act → World → Prop} {w0 W : World} {l : NB}
/-- a number made -/
theorem num_new (hgd : o.guard = none) {N : Tmp} (_hd : o.dst = some N) {cs : Array Value} (hO : Own w0 W l) (m : Nat) (s : Bool) (hc : cs = numC m s)
    (hrun : (execOp a.eval o).run Try.prog W = .ok (.value (.pointer (some ⟨W.heap.size, 0, none⟩))) (W.alloc (.cells cs 137 (0, 0))))
    (h : ∀ g W1, Own w0 W1 (l ++ [(g, m, s)]) → wpList Try.prog ops Q rest (a.put o.dst (.pointer (some ⟨g, 0, none⟩))) W1) : wpList Try.prog ops Q (o :: rest) a W :=
  box_event hgd _hd hrun (fun g hg w1 hb hB => h g w1 (hO.alloc hg (by rw [← hc]; exact hb) hB))
/-- a number read whole -/
theorem num_load (hgd : o.guard = none) {N : Tmp} (_hd : o.dst = some N) (x : Operand) (ho : o.op = .load 137 x) (hO : Own w0 W l) (i : Nat) {g m : Nat} {s : Bool} (hi : l[i]? = some (g, m, s)) (hx : a.eval x = .pointer (some ⟨g, 0, none⟩))
    (h : wpList Try.prog ops Q rest (a.put o.dst (.agg (numC m s))) W) : wpList Try.prog ops Q (o :: rest) a W :=
  wpList_load_row hgd 137 x ho g hx 137 (numC m s) (0, 0) _ (hO.blk i hi) Try.underlying137 rfl (sizeNum _ _) h
/-- a number stored whole -/
theorem num_store (hgd : o.guard = none) (x y : Operand) (ho : o.op = .store 137 x y) (hO : Own w0 W l) (i : Nat) {g m m' : Nat} {s s' : Bool} (hi : l[i]? = some (g, m, s)) (hx : a.eval x = .pointer (some ⟨g, 0, none⟩)) (hy : a.eval y = .agg (numC m' s'))
    (h : ∀ W1, Own w0 W1 (l.set i (g, m', s')) → wpList Try.prog ops Q rest (a.put o.dst undef) W1) : wpList Try.prog ops Q (o :: rest) a W :=
  wpList_store_row hgd 137 x y ho g (numC m' s') hx hy 137 (numC m s) (hO.blk i hi) (sizeNum _ _) (by rw [numC_size, numC_size]) (numC_one _ _)
    (h _ (hO.put i hi (setRow_heap _ _ _ _ _ _ (hO.blk i hi)) (num_setRow hO.1 (hO.2.1 i _ hi).1 _) (fun k hk => setRow_other _ _ _ _ hk)))
end
theorem num_abs {c : Code} {Q : Exit → Act → World → Prop} {a : Act} {w0 W : World} {l : NB} (hO : Own w0 W l) (h : ∀ W1, Own w0 W1 l → c.wp Try.prog Q a W1) : c.wp Try.prog Q a W := h W hO
theorem num_load_run {o : Oper} {a : Act} {w0 W : World} {l : NB} (x : Operand) (ho : o.op = .load 137 x) (hO : Own w0 W l) (i : Nat) {g m : Nat} {s : Bool} (hi : l[i]? = some (g, m, s)) (hx : a.eval x = .pointer (some ⟨g, 0, none⟩)) :
    (execOp a.eval o).run Try.prog W = .ok (.value (.agg (numC m s))) W := by
  unfold execOp
  simp only [ho, hx, Instr.loadAt, Instr.sureAddr, Sem.run_bind, Sem.run_pure, Result.andThen_ok, run_loadVar_row W g 137 137 (numC m s) (0, 0) _ (hO.blk i hi) Try.underlying137 rfl (sizeNum _ _)]
theorem num_store_wp {o : Oper} {a : Act} {K : Act → World → Prop} {Q : Exit → Act → World → Prop} {w0 W : World} {l : NB} (x y : Operand) (ho : o.op = .store 137 x y) (hO : Own w0 W l) (i : Nat) {g m m' : Nat} {s s' : Bool} (hi : l[i]? = some (g, m, s)) (hx : a.eval x = .pointer (some ⟨g, 0, none⟩)) (hy : a.eval y = .agg (numC m' s'))
    (h : ∀ W1, Own w0 W1 (l.set i (g, m', s')) → K (a.put o.dst undef) W1) : o.wp Try.prog a W K Q :=
  wp_store_row 137 x y ho g (numC m' s') hx hy 137 (numC m s) (hO.blk i hi) (sizeNum _ _) (by rw [numC_size, numC_size]) (numC_one _ _)
    (h _ (hO.put i hi (setRow_heap _ _ _ _ _ _ (hO.blk i hi)) (num_setRow hO.1 (hO.2.1 i _ hi).1 _) (fun k hk => setRow_other _ _ _ _ hk)))
theorem Own.drew {w0 W : World} {l : NB} (h : Own w0 W l) : Own w0 W.drew l := h.call (below_drew (Below.refl _ _))
theorem num_result2 {fn : Func} {p q : Tmp} (hf : fn.results = #[.cell p 137, .cell q 137]) {w0 W : World} {l : NB} (hO : Own w0 W l) (i j : Nat) {g g' m m' : Nat} {s s' : Bool} (hi : l[i]? = some (g, m, s)) (hj : l[j]? = some (g', m', s')) (tmps : Array Value) (hp : tmps.getD p undef = .pointer (some ⟨g, 0, none⟩)) (hq : tmps.getD q undef = .pointer (some ⟨g', 0, none⟩)) :
    (results fn tmps).run Try.prog W = .ok (.tuple #[.agg (numC m s), .agg (numC m' s')]) W := by
  have hp' : tmps[p]?.getD undef = .pointer (some ⟨g, 0, none⟩) := by simpa using hp
  have hq' : tmps[q]?.getD undef = .pointer (some ⟨g', 0, none⟩) := by simpa using hq
  simp [results, hf, hp', hq', asAddr, run_loadVar_row W g 137 137 (numC m s) (0, 0) _ (hO.blk i hi) Try.underlying137 rfl (sizeNum _ _), run_loadVar_row W g' 137 137 (numC m' s') (0, 0) _ (hO.blk j hj) Try.underlying137 rfl (sizeNum _ _)]
theorem num_result {fn : Func} {p : Tmp} (hf : fn.results = #[.cell p 137]) {w0 W : World} {l : NB} (hO : Own w0 W l) (i : Nat) {g m : Nat} {s : Bool} (hi : l[i]? = some (g, m, s)) (tmps : Array Value) (hp : tmps.getD p undef = .pointer (some ⟨g, 0, none⟩)) :
    (results fn tmps).run Try.prog W = .ok (.agg (numC m s)) W := results_cell_row hf tmps W g 137 (numC m s) (0, 0) _ hp (hO.blk i hi) Try.underlying137 rfl (sizeNum _ _)
set_option maxHeartbeats 8000000 in
set_option maxRecDepth 100000 in
theorem num_nought (m : Nat) (g : Bool) (hm : m < 2 ^ 136) (w : World) :
    Calls Try.prog 108 #[.agg (numC m g)] w fun e w' => e = .returned (.bool (decide (m = 0))) ∧ Below w.heap.size w w' := by
  have HB := Aside0.mk (below_alloc (Below.refl w.heap.size w) (.cells (numC m g) 137))
  have BK := Aside0.mk (blk_new w (.cells (numC m g) 137))
  have HM := Aside0.mk hm
  clear hm
  go_enter Try.func108, Try.ntmps108
  go_wp2
  go_loopg [3] 136 (fun kq v3 wr => ∃ k : Nat, v3 = .int .i64 k ∧ Aside0 (k + kq = 136) ∧ Aside0 (m % 2 ^ k = 0) ∧ Aside0 (wr = w.alloc (.cells (numC m g) 137)))
  case atStart => exact ⟨0, rfl, ⟨rfl⟩, ⟨Nat.mod_one m⟩, ⟨rfl⟩⟩
  case round =>
    obtain ⟨k, rfl, HK, HA, HW⟩ := hrel
    obtain rfl := HW.out
    by_cases hk : k < 136
    · have hd : decide ((k : Int) < 136) = true := decide_eq_true (by omega)
      have hcell := (blk_cell BK.out k).trans (numC_bit m g hk)
      have h2 := Nat.mod_pow_succ (b := 2) (k := k) (x := m)
      cases hb : m.testBit k with
      | true =>
        rw [hb] at hcell
        have HN : Aside0 (decide (m = 0) = false) := ⟨decide_eq_false (fun e => by subst e; simp at hb)⟩
        clear hb h2
        go_wp2
        go_ret
        exact ⟨by rw [HN.out]; rfl, HB.out⟩
      | false =>
        rw [hb] at hcell
        have HN : Aside0 (m % 2 ^ (k + 1) = 0) := ⟨by
          rw [Nat.testBit_eq_decide_div_mod_eq] at hb
          have := HA.out
          have hb2 : m / 2 ^ k % 2 = 0 := by have := Nat.mod_two_eq_zero_or_one (m / 2 ^ k); simp at hb; omega
          rw [h2, this, hb2]; simp⟩
        clear hb h2
        go_wp2
        go_roundg (gk - 1)
        case measure => have := HK.out; omega
        case rel => exact ⟨k + 1, by go_num, ⟨by have := HK.out; omega⟩, HN, ⟨rfl⟩⟩
    · have hd : decide ((k : Int) < 136) = false := decide_eq_false (by omega)
      have HN : Aside0 (decide (m = 0) = true) := ⟨decide_eq_true (by
        have h1 := HA.out
        rwa [Nat.mod_eq_of_lt (Nat.lt_of_lt_of_le HM.out (Nat.pow_le_pow_right (by decide) (by omega)))] at h1)⟩
      go_wp2
      go_ret
      exact ⟨by rw [HN.out]; rfl, HB.out⟩

/-! ### jobberref01_Back: function 105 (by hand; for other hand texts alone) -/
def Fits (v : Int) : Prop := -9223372036854775808 ≤ v ∧ v ≤ 9223372036854775807
def BackR (m : Nat) (s : Bool) (x : Int) (ok : Bool) : Prop := (ok = true → x = sv m s) ∧ (ok = true ↔ Fits (sv m s))
theorem back_big {m : Nat} {s : Bool} {k : Nat} (hk : 64 ≤ k) (hb : m.testBit k = true) : BackR m s 0 false := by
  have h1 : 2 ^ k ≤ m := Nat.ge_two_pow_of_testBit hb
  have h2 : (2 : Nat) ^ 64 ≤ 2 ^ k := Nat.pow_le_pow_right (by decide) hk
  refine ⟨fun h => (by cases h), ⟨fun h => (by cases h), fun h => ?_⟩⟩
  unfold Fits sv at h
  cases s <;> simp at h <;> omega
theorem back_step {m k : Nat} : m / 2 ^ k = 2 * (m / 2 ^ (k + 1)) + (if m.testBit k then 1 else 0) := by
  rw [tb_div, Nat.pow_succ, ← Nat.div_div_eq_div_mul]
  have := Nat.div_add_mod (m / 2 ^ k) 2
  omega
set_option maxHeartbeats 8000000 in
set_option maxRecDepth 100000 in
theorem num_back (m : Nat) (s : Bool) (hm : m < 2 ^ 136) (w : World) :
    Calls Try.prog 105 #[.agg (numC m s)] w fun e w' => ∃ x ok, e = .returned (.tuple #[.int .i64 x, .bool ok]) ∧ BackR m s x ok ∧ Below w.heap.size w w' := by
  have HO : Aside0 (Own w w []) := ⟨Own.start w⟩
  have HM := Aside0.mk hm
  clear hm
  go_enter Try.func105, Try.ntmps105
  go_wp2_with (first | ((with_reducible refine gate_dst (N := 1) rfl ?_); refine num_new ?hg (N := 1) ?hd (cs := numC m s) HO.out m s ?hc ?hr ?_; (case hc => first | rfl | exact zcNum); (case hd => rfl); (case hg => rfl); (case hr => first | (go_simp; done) | (go_simp; rfl)); intro gA w1 hO_; have n0_ : Aside0 (Own w w1 [(gA, m, s)]) := ⟨hO_⟩; clear HO hO_; have HO := n0_; clear n0_))
  go_loopg [4] 72 (fun kq v4 wr => ∃ k : Nat, v4 = .int .i64 k ∧ Aside0 (k + kq = 136 ∧ 64 ≤ k) ∧ Aside0 (∀ j, 64 ≤ j → j < k → m.testBit j = false) ∧ Aside0 (Own w wr [(gA, m, s)]))
  case atStart => exact ⟨64, rfl, ⟨by omega⟩, ⟨fun j h1 h2 => by omega⟩, HO⟩
  case round =>
    clear HO
    obtain ⟨k, rfl, HK, HA, HO⟩ := hrel
    by_cases hk : k < 136
    · have hd : decide ((k : Int) < 136) = true := decide_eq_true (by omega)
      have z_ := HO.out.cell 0 k rfl hk
      have HBG := Aside0.mk (fun h => back_big (m := m) (s := s) HK.out.2 h)
      have HST := Aside0.mk (fun (h : m.testBit k = false) => (fun j h1 h2 => by
        by_cases e : j = k
        · rw [e]; exact h
        · exact HA.out j h1 (by omega) : ∀ j, 64 ≤ j → j < k + 1 → m.testBit j = false))
      cases hx : m.testBit k
      · rw [hx] at z_
        have HS2 := Aside0.mk (HST.out hx)
        clear hx HST
        go_wp2
        go_roundg (gk - 1)
        case measure => have := HK.out; omega
        case rel => exact ⟨k + 1, by go_num, ⟨by have := HK.out; omega⟩, HS2, HO⟩
      · rw [hx] at z_
        have HB2 := Aside0.mk (HBG.out hx)
        clear hx HST HBG
        go_wp2
        go_ret2
        exact ⟨_, _, rfl, HB2.out, HO.out.below⟩
    · have hd : decide ((k : Int) < 136) = false := decide_eq_false (by omega)
      have HM64 : Aside0 (m < 2 ^ 64) := ⟨Nat.lt_pow_two_of_testBit m fun i hi => by
        by_cases c : i < 136
        · exact HA.out i hi (by omega)
        · exact Nat.testBit_lt_two_pow (Nat.lt_of_lt_of_le HM.out (Nat.pow_le_pow_right (by decide) (by omega)))⟩
      clear HA HK hk
      go_wp2
      go_loopg [5, 6] 64 (fun kq v5 v6 w2 => ∃ (i : Int) (y : Nat), v6 = .int .i64 i ∧ v5 = .int .u64 (y : Int) ∧ Aside0 (y = m / 2 ^ kq) ∧ Aside0 (i + 1 = kq ∧ kq ≤ 64) ∧ Aside0 (Own w w2 [(gA, m, s)]))
      case atStart => exact ⟨63, 0, rfl, rfl, ⟨(Nat.div_eq_of_lt HM64.out).symm⟩, ⟨by omega⟩, HO⟩
      case round =>
        clear HO
        obtain ⟨i, y, rfl, rfl, HY, HI, HO⟩ := hrel
        cases gk with
        | zero =>
          obtain rfl : i = -1 := by have := HI.out; omega
          obtain rfl : y = m := by have := HY.out; simpa using this
          have z_ := HO.out.neg 0 rfl
          have e : ∀ z : Int, IntKind.u64.wrap z = z % 18446744073709551616 := fun _ => rfl
          have hlt := HM64.out
          cases s with
          | true =>
            by_cases c : y > 9223372036854775808
            · have d : decide ((9223372036854775808 : Int) < (y : Int)) = true := decide_eq_true (by omega)
              have HR : Aside0 (BackR y true 0 false) := ⟨⟨fun h => (by cases h), ⟨fun h => (by cases h), fun h => (by unfold Fits sv at h; simp at h; omega)⟩⟩⟩
              clear e hlt c
              go_wp2
              go_ret2
              exact ⟨_, _, rfl, HR.out, HO.out.below⟩
            · have d : decide ((9223372036854775808 : Int) < (y : Int)) = false := decide_eq_false (by omega)
              have HR : Aside0 (∀ x, x = wrap64 (IntKind.u64.wrap (IntKind.u64.wrap (18446744073709551615 - (y : Int)) + 1)) → BackR y true x true) := ⟨fun x hx => ⟨fun _ => (by rw [hx, e, e]; unfold wrap64 sv; simp; omega), ⟨fun _ => (by unfold Fits sv; simp; omega), fun _ => rfl⟩⟩⟩
              clear e hlt c
              go_wp2
              go_ret2
              exact ⟨_, _, rfl, HR.out _ rfl, HO.out.below⟩
          | false =>
            by_cases c : y < 9223372036854775808
            · have d : decide ((y : Int) < (9223372036854775808 : Int)) = true := decide_eq_true (by omega)
              have HR : Aside0 (∀ x, x = wrap64 (y : Int) → BackR y false x true) := ⟨fun x hx => ⟨fun _ => (by rw [hx]; unfold wrap64 sv; simp; omega), ⟨fun _ => (by unfold Fits sv; simp; omega), fun _ => rfl⟩⟩⟩
              clear e hlt c
              go_wp2
              go_ret2
              exact ⟨_, _, rfl, HR.out _ rfl, HO.out.below⟩
            · have d : decide ((y : Int) < (9223372036854775808 : Int)) = false := decide_eq_false (by omega)
              have HR : Aside0 (∀ x, BackR y false x false) := ⟨fun x => ⟨fun h => (by cases h), ⟨fun h => (by cases h), fun h => (by unfold Fits sv at h; simp at h; omega)⟩⟩⟩
              clear e hlt c
              go_wp2
              go_ret2
              exact ⟨_, _, rfl, HR.out _, HO.out.below⟩
        | succ k =>
          obtain rfl : i = (k : Int) := by have := HI.out; omega
          have hd : decide ((0 : Int) ≤ (k : Int)) = true := decide_eq_true (by omega)
          have hd2 : (0 : Int) ≤ (k : Int) := by omega
          have hd3 : (k : Int) < 136 := by have := HI.out; omega
          have z_ := HO.out.cell 0 k rfl (by have := HI.out; omega)
          have hb := back_step (m := m) (k := k)
          have hyb : m / 2 ^ k < 2 ^ 64 := Nat.lt_of_le_of_lt (Nat.div_le_self _ _) HM64.out
          rw [← HY.out] at hb
          have e : ∀ z : Int, IntKind.u64.wrap z = z % 18446744073709551616 := fun _ => rfl
          cases hx : m.testBit k
          · rw [hx] at z_ hb
            simp at hb
            have hw := Aside0.mk (show IntKind.u64.wrap (2 * (y : Int)) = ((2 * y : Nat) : Int) by rw [e]; omega)
            have HYY := Aside0.mk hb.symm
            clear hx e hb hyb
            go_wp2
            go_roundg k
            case measure => omega
            case rel => exact ⟨(k : Int) - 1, 2 * y, by first | rfl | go_num, by first | rfl | (rw [hw.out]) | (congr 1; omega), HYY, ⟨by have := HI.out; omega⟩, HO⟩
          · rw [hx] at z_ hb
            simp at hb
            have hw := Aside0.mk (show IntKind.u64.wrap (IntKind.u64.wrap (2 * (y : Int)) + 1) = ((2 * y + 1 : Nat) : Int) by rw [e, e]; omega)
            have HYY := Aside0.mk hb.symm
            clear hx e hb hyb
            go_wp2
            go_roundg k
            case measure => omega
            case rel => exact ⟨(k : Int) - 1, 2 * y + 1, by first | rfl | go_num, by first | rfl | (rw [hw.out]) | (congr 1; omega), HYY, ⟨by have := HI.out; omega⟩, HO⟩

/-! ### jobberref01_told: function 85 (by hand; for other hand texts alone) -/
theorem sv_abs (x : Int) : sv x.natAbs (decide (x < 0)) = x := by
  unfold sv
  by_cases h : x < 0 <;> simp [h] <;> omega
theorem sv_minus (a : Nat) (g : Bool) : sv a (!g && !decide (a = 0)) = - sv a g := by
  unfold sv
  by_cases h : a = 0 <;> cases g <;> simp [h]
theorem sv_times (a b : Nat) (ga gb : Bool) : sv (a * b) ((ga != gb) && !decide (a * b = 0)) = sv a ga * sv b gb := by
  have hz : ∀ n : Nat, sv n (!decide (n = 0)) = -(n : Int) := sv_nz
  have hf : ∀ n : Nat, sv n false = n := fun n => rfl
  have ht : ∀ n : Nat, sv n true = -(n : Int) := fun n => rfl
  cases ga <;> cases gb <;> simp only [bne_self_eq_false, Bool.false_and, Bool.true_bne, Bool.false_bne, Bool.not_false, Bool.true_and, hz, hf, ht, Int.natCast_mul, Int.neg_mul, Int.mul_neg, Int.neg_neg]
def toldV (v : Int) : Int × Int := if -9223372036854775808 ≤ v ∧ v ≤ 9223372036854775807 then (v, 0) else (0, 10)
theorem told_ok {m : Nat} {s : Bool} {x : Int} (h : BackR m s x true) : toldV (sv m s) = (x, 0) := by
  have hf : -9223372036854775808 ≤ sv m s ∧ sv m s ≤ 9223372036854775807 := h.2.1 rfl
  unfold toldV
  rw [if_pos hf, h.1 rfl]
theorem told_no {m : Nat} {s : Bool} {x : Int} (h : BackR m s x false) : toldV (sv m s) = (0, 10) := by
  unfold toldV
  rw [if_neg (fun c => by have := h.2.2 c; cases this)]
set_option maxHeartbeats 8000000 in
set_option maxRecDepth 100000 in
theorem num_told (m : Nat) (s : Bool) (hm : m < 2 ^ 136) (w : World) :
    Calls Try.prog 85 #[.agg (numC m s)] w fun e w' => e = .returned (.tuple #[.int .i64 (toldV (sv m s)).1, .int .i64 (toldV (sv m s)).2]) ∧ Below w.heap.size w w' := by
  have HO : Aside0 (Own w w []) := ⟨Own.start w⟩
  have HM := Aside0.mk (fun w => num_back m s hm w)
  have HOK := Aside0.mk (fun x h => told_ok (m := m) (s := s) (x := x) h)
  have HNO := Aside0.mk (fun x h => told_no (m := m) (s := s) (x := x) h)
  obtain ⟨r, hr⟩ : ∃ r, toldV (sv m s) = r := ⟨_, rfl⟩
  rw [hr] at HOK HNO
  rw [hr]
  clear hm hr
  go_enter Try.func85, Try.ntmps85
  go_wp2_with (first | ((with_reducible refine gate_dst (N := 1) rfl ?_); refine num_new ?hg (N := 1) ?hd (cs := numC m s) HO.out m s ?hc ?hr ?_; (case hc => first | rfl | exact zcNum); (case hd => rfl); (case hg => rfl); (case hr => first | (go_simp; done) | (go_simp; rfl)); intro gA w1 hO_; have n0_ : Aside0 (Own w w1 [(gA, m, s)]) := ⟨hO_⟩; clear HO hO_; have HO := n0_; clear n0_) | ((with_reducible refine gate_dst (N := 7) rfl ?_); refine num_load ?hg (N := 7) ?hd (.tmp 1) ?ho HO.out 0 (g := gA) (m := m) (s := s) ?hi ?hx ?_; (case hd => rfl); (case hg => rfl); (case ho => rfl); (case hi => rfl); (case hx => rfl)) | (go_at_call 105; (with_reducible refine (HM.out _).mono ?_); rintro e_ w2 ⟨x, ok, rfl, hk_, hb_⟩; have n0_ : Aside0 (Own w w2 [(gA, m, s)]) := ⟨HO.out.call hb_⟩; clear HO hb_; have HO := n0_; clear n0_; have HB := Aside0.mk hk_; clear hk_; cases ok))
  · have hr := HNO.out _ HB.out
    subst hr
    go_wp2
    go_ret2
    exact ⟨rfl, HO.out.below⟩
  · have hr := HOK.out _ HB.out
    subst hr
    go_wp2
    go_ret2
    exact ⟨rfl, HO.out.below⟩

/-! ### jobberref01_more: function 106 (by hand; for other hand texts alone) -/
set_option maxHeartbeats 8000000 in
set_option maxRecDepth 100000 in
theorem num_more (a b : Nat) (ga gb : Bool) (w : World) :
    Calls Try.prog 106 #[.agg (numC a ga), .agg (numC b gb)] w fun e w' => e = .returned (.agg (numC (a + b) false)) ∧ Below w.heap.size w w' := by
  have HO : Aside0 (Own w w []) := ⟨Own.start w⟩
  go_enter Try.func106, Try.ntmps106
  go_wp2_with (first | ((with_reducible refine gate_dst (N := 2) rfl ?_); refine num_new ?hg (N := 2) ?hd (cs := numC a ga) HO.out a ga ?hc ?hr ?_; (case hc => first | rfl | exact zcNum); (case hd => rfl); (case hg => rfl); (case hr => first | (go_simp; done) | (go_simp; rfl)); intro gA w1 hO_; have n0_ : Aside0 (Own w w1 [(gA, a, ga)]) := ⟨hO_⟩; clear HO hO_; have HO := n0_; clear n0_) | ((with_reducible refine gate_dst (N := 3) rfl ?_); refine num_new ?hg (N := 3) ?hd (cs := numC b gb) HO.out b gb ?hc ?hr ?_; (case hc => first | rfl | exact zcNum); (case hd => rfl); (case hg => rfl); (case hr => first | (go_simp; done) | (go_simp; rfl)); intro gB w2 hO_; have n0_ : Aside0 (Own w w2 [(gA, a, ga), (gB, b, gb)]) := ⟨hO_⟩; clear HO hO_; have HO := n0_; clear n0_) | ((with_reducible refine gate_dst (N := 4) rfl ?_); refine num_new ?hg (N := 4) ?hd (cs := Try.zeroCells137) HO.out 0 false ?hc ?hr ?_; (case hc => first | rfl | exact zcNum); (case hd => rfl); (case hg => rfl); (case hr => first | (go_simp; done) | (go_simp; rfl)); intro gR w3 hO_; have n0_ : Aside0 (Own w w3 [(gA, a, ga), (gB, b, gb), (gR, 0, false)]) := ⟨hO_⟩; clear HO hO_; have HO := n0_; clear n0_) | ((with_reducible refine gate_dst (N := 5) rfl ?_); refine num_new ?hg (N := 5) ?hd (cs := Try.zeroCells137) HO.out 0 false ?hc ?hr ?_; (case hc => first | rfl | exact zcNum); (case hd => rfl); (case hg => rfl); (case hr => first | (go_simp; done) | (go_simp; rfl)); intro gN w4 hO_; have n0_ : Aside0 (Own w w4 [(gA, a, ga), (gB, b, gb), (gR, 0, false), (gN, 0, false)]) := ⟨hO_⟩; clear HO hO_; have HO := n0_; clear n0_))
  go_loopg [6, 7] 136 (fun kq v6 v7 wr => ∃ (k : Nat) (c : Bool) (V : Nat), v7 = .int .i64 k ∧ v6 = .bool c ∧ Aside0 (k + kq = 136) ∧ Aside0 (c = car a b k) ∧ Aside0 (Upto V (a + b) k) ∧ Aside0 (Own w wr [(gA, a, ga), (gB, b, gb), (gR, 0, false), (gN, V, false)]))
  case atStart => exact ⟨0, false, 0, rfl, rfl, ⟨rfl⟩, ⟨by simp [car, Nat.mod_one]⟩, ⟨Upto.zero _⟩, HO⟩
  case round =>
    clear HO
    obtain ⟨k, c, V, rfl, rfl, HK, HC, HV, HO⟩ := hrel
    by_cases hk : k < 136
    · have hd : decide ((k : Int) < 136) = true := decide_eq_true (by omega)
      have hca := HO.out.cell 0 k rfl hk
      have hcb := HO.out.cell 1 k rfl hk
      have hcn := HO.out.cell 3 k rfl hk
      have hfn := HO.out.free 3 k rfl
      have HKK := Aside0.mk hk
      have hs := add_tb a b k
      have hc := car_tb a b k
      rw [← HC.out] at hs hc
      cases hxa : a.testBit k <;> cases hxb : b.testBit k <;> cases c <;> rw [hxa] at hca hs hc <;> rw [hxb] at hcb hs hc
      all_goals
        simp at hs hc
        have HS := Aside0.mk hs
        have HC' := Aside0.mk hc
        clear hs hc hxa hxb
        go_wp2
        go_roundg (gk - 1)
        case measure => have := HK.out; omega
        case rel => exact ⟨k + 1, _, _, by go_num, rfl, ⟨by have := HK.out; omega⟩, ⟨HC'.out.symm⟩, ⟨HV.out.step HS.out⟩, ⟨HO.out.bit 3 k rfl HKK.out _⟩⟩
    · have hd : decide ((k : Int) < 136) = false := decide_eq_false (by omega)
      have HEQ := Aside0.mk (HV.out.done (g := false) (by omega))
      go_wp2_with (first | ((with_reducible refine gate_dst (N := 36) rfl ?_); refine num_load ?hg (N := 36) ?hd (.tmp 5) ?ho HO.out 3 (g := gN) (m := V) (s := false) ?hi ?hx ?_; (case hd => rfl); (case hg => rfl); (case ho => rfl); (case hi => rfl); (case hx => rfl)) | ((with_reducible refine gate_store (t := 137) (p := 4) (v := .tmp 36) rfl ?_); refine num_store ?hg (.tmp 4) (.tmp 36) ?ho HO.out 2 (g := gR) (m := 0) (s := false) (m' := V) (s' := false) ?hi ?hx ?hy ?_; (case hg => rfl); (case ho => rfl); (case hi => rfl); (case hx => rfl); (case hy => rfl); intro w9 hO_; have n0_ : Aside0 (Own w w9 [(gA, a, ga), (gB, b, gb), (gR, V, false), (gN, V, false)]) := ⟨hO_⟩; clear HO hO_; have HO := n0_; clear n0_))
      exact bodyPost_ret (num_result rfl HO.out 2 rfl _ rfl) rfl ⟨by rw [HEQ.out], HO.out.below⟩

/-! ### jobberref01_twice: function 107 (by hand; for other hand texts alone) -/
theorem tw_bit (a j : Nat) : (2 * a).testBit (j + 1) = a.testBit j := by
  rw [Nat.testBit_succ]; congr 1; omega
theorem tw_zero (a : Nat) : (2 * a).testBit 0 = false := by simp
/-- filled from above: places above i are b's, the others a's -/
def Down (V a b i : Nat) : Prop := ∀ j, j < 136 → V.testBit j = if i < j then b.testBit j else a.testBit j
theorem Down.start (a b : Nat) : Down a a b 135 := fun j hj => by rw [if_neg (by omega)]
theorem Down.step {V a b i : Nat} {c : Bool} (h : Down V a b (i + 1)) (hb : b.testBit (i + 1) = c) : Down (setb V (i + 1) c) a b i := by
  intro j hj
  rw [tb_setb, h j hj]
  by_cases e : j = i + 1
  · subst e; rw [if_pos rfl, if_pos (by omega), hb]
  · rw [if_neg e]
    by_cases e2 : i + 1 < j
    · rw [if_pos e2, if_pos (by omega)]
    · rw [if_neg e2, if_neg (by omega)]
theorem Down.done {V a b : Nat} {g : Bool} (h : Down V a b 0) (hb : b.testBit 0 = false) : numC (setb V 0 false) g = numC b g := numC_congr fun j hj => by
  rw [tb_setb, h j hj]
  by_cases e : j = 0
  · subst e; rw [if_pos rfl, hb]
  · rw [if_neg e, if_pos (by omega)]
set_option maxHeartbeats 8000000 in
set_option maxRecDepth 100000 in
theorem num_twice (a : Nat) (ga : Bool) (w : World) :
    Calls Try.prog 107 #[.agg (numC a ga)] w fun e w' => e = .returned (.agg (numC (2 * a) ga)) ∧ Below w.heap.size w w' := by
  have HO : Aside0 (Own w w []) := ⟨Own.start w⟩
  go_enter Try.func107, Try.ntmps107
  go_wp2_with (first | ((with_reducible refine gate_dst (N := 1) rfl ?_); refine num_new ?hg (N := 1) ?hd (cs := numC a ga) HO.out a ga ?hc ?hr ?_; (case hc => first | rfl | exact zcNum); (case hd => rfl); (case hg => rfl); (case hr => first | (go_simp; done) | (go_simp; rfl)); intro gA w1 hO_; have n0_ : Aside0 (Own w w1 [(gA, a, ga)]) := ⟨hO_⟩; clear HO hO_; have HO := n0_; clear n0_) | ((with_reducible refine gate_dst (N := 2) rfl ?_); refine num_new ?hg (N := 2) ?hd (cs := Try.zeroCells137) HO.out 0 false ?hc ?hr ?_; (case hc => first | rfl | exact zcNum); (case hd => rfl); (case hg => rfl); (case hr => first | (go_simp; done) | (go_simp; rfl)); intro gR w2 hO_; have n0_ : Aside0 (Own w w2 [(gA, a, ga), (gR, 0, false)]) := ⟨hO_⟩; clear HO hO_; have HO := n0_; clear n0_) | ((with_reducible refine gate_dst (N := 5) rfl ?_); refine num_load ?hg (N := 5) ?hd (.tmp 1) ?ho HO.out 0 (g := gA) (m := a) (s := ga) ?hi ?hx ?_; (case hd => rfl); (case hg => rfl); (case ho => rfl); (case hi => rfl); (case hx => rfl)) | ((with_reducible refine gate_dst (N := 3) rfl ?_); refine num_new ?hg (N := 3) ?hd (cs := Try.zeroCells137) HO.out 0 false ?hc ?hr ?_; (case hc => first | rfl | exact zcNum); (case hd => rfl); (case hg => rfl); (case hr => first | (go_simp; done) | (go_simp; rfl)); intro gN w3 hO_; have n0_ : Aside0 (Own w w3 [(gA, a, ga), (gR, 0, false), (gN, 0, false)]) := ⟨hO_⟩; clear HO hO_; have HO := n0_; clear n0_) | ((with_reducible refine gate_store (t := 137) (p := 3) (v := .tmp 5) rfl ?_); refine num_store ?hg (.tmp 3) (.tmp 5) ?ho HO.out 2 (g := gN) (m := 0) (s := false) (m' := a) (s' := ga) ?hi ?hx ?hy ?_; (case hg => rfl); (case ho => rfl); (case hi => rfl); (case hx => rfl); (case hy => rfl); intro w4 hO_; have n0_ : Aside0 (Own w w4 [(gA, a, ga), (gR, 0, false), (gN, a, ga)]) := ⟨hO_⟩; clear HO hO_; have HO := n0_; clear n0_))
  go_loopg [4] 135 (fun kq v4 wr => ∃ (i : Int) (V : Nat), v4 = .int .i64 i ∧ Aside0 (i = kq) ∧ Aside0 (kq ≤ 135) ∧ Aside0 (Down V a (2 * a) kq) ∧ Aside0 (Own w wr [(gA, a, ga), (gR, 0, false), (gN, V, ga)]))
  case atStart => exact ⟨135, a, rfl, ⟨rfl⟩, ⟨Nat.le_refl _⟩, ⟨Down.start _ _⟩, HO⟩
  case round =>
    clear HO
    obtain ⟨i, V, rfl, HI, HK, HV, HO⟩ := hrel
    cases gk with
    | zero =>
      obtain rfl : i = 0 := HI.out
      have zc_ := HO.out.cell 2 0 rfl (by omega)
      have zf_ := HO.out.free 2 0 rfl
      have HEQ := Aside0.mk (HV.out.done (g := ga) (tw_zero a))
      go_upto_region 7 with (fail)
      refine num_abs (w0 := w) (l := [(gA, a, ga), (gR, 0, false), (gN, setb V 0 false, ga)]) (HO.out.bit 2 0 rfl (by omega) false) ?_
      intro w8 hO_
      clear HO
      have HO := Aside0.mk hO_
      clear hO_
      clear zc_ zf_
      go_wp2_with (first | ((with_reducible refine gate_dst (N := 20) rfl ?_); refine num_load ?hg (N := 20) ?hd (.tmp 3) ?ho HO.out 2 (g := gN) (m := setb V 0 false) (s := ga) ?hi ?hx ?_; (case hd => rfl); (case hg => rfl); (case ho => rfl); (case hi => rfl); (case hx => rfl)) | ((with_reducible refine gate_store (t := 137) (p := 2) (v := .tmp 20) rfl ?_); refine num_store ?hg (.tmp 2) (.tmp 20) ?ho HO.out 1 (g := gR) (m := 0) (s := false) (m' := (setb V 0 false)) (s' := ga) ?hi ?hx ?hy ?_; (case hg => rfl); (case ho => rfl); (case hi => rfl); (case hx => rfl); (case hy => rfl); intro w9 hO_; have n0_ : Aside0 (Own w w9 [(gA, a, ga), (gR, (setb V 0 false), ga), (gN, setb V 0 false, ga)]) := ⟨hO_⟩; clear HO hO_; have HO := n0_; clear n0_))
      exact bodyPost_ret (num_result rfl HO.out 1 rfl _ rfl) rfl ⟨by rw [HEQ.out], HO.out.below⟩
    | succ k =>
      have hi1 : 0 < i := by have := HI.out; omega
      have hd : decide (0 < i) = true := decide_eq_true hi1
      have hw : wrap64 (i - 1) = i - 1 := by have := HI.out; have := HK.out; unfold wrap64; omega
      have hi2 : i - 1 = (k : Int) := by have := HI.out; omega
      have hk3 : (0 : Int) ≤ (k : Int) ∧ (k : Int) < 136 := by have := HK.out; omega
      have hk4 : (0 : Int) ≤ i ∧ i < 136 := by have := HI.out; have := HK.out; omega
      have hk5 : i.toNat = k + 1 := by have := HI.out; omega
      have hk1 : k < 136 := by have := HK.out; omega
      have HKK : Aside0 (k + 1 < 136) := ⟨by have := HK.out; omega⟩
      have zA := HO.out.cell 0 k rfl hk1
      have zc_ := HO.out.cell 2 (k + 1) rfl HKK.out
      have zf_ := HO.out.free 2 (k + 1) rfl
      have HS := Aside0.mk (fun c h => HV.out.step (c := c) h)
      have hb := tw_bit a k
      cases hxa : a.testBit k
      all_goals
        rw [hxa] at zA hb
        have HSS := Aside0.mk (HS.out _ hb)
        clear hb hxa HS
        obtain ⟨p1, p2⟩ := hk3
        obtain ⟨p3, p4⟩ := hk4
        go_wp2
        go_roundg k
        case measure => omega
        case rel => exact ⟨(k : Int), _, rfl, ⟨rfl⟩, ⟨by have := HK.out; omega⟩, HSS, ⟨HO.out.bit 2 (k + 1) rfl HKK.out _⟩⟩

/-! ### jobberref01_Times: function 86 (by hand; for other hand texts alone) -/
set_option maxHeartbeats 8000000 in
set_option maxRecDepth 100000 in
theorem num_times (a b : Nat) (ga gb : Bool) (hb : b < 2 ^ 64) (hm : a * b < 2 ^ 136) (w : World) :
    Calls Try.prog 86 #[.agg (numC a ga), .agg (numC b gb)] w fun e w' => e = .returned (.agg (numC (a * b) ((ga != gb) && !decide (a * b = 0)))) ∧ Below w.heap.size w w' := by
  have HO : Aside0 (Own w w []) := ⟨Own.start w⟩
  have HB64 := Aside0.mk hb
  obtain ⟨P, hP⟩ : ∃ P, a * b = P := ⟨_, rfl⟩
  rw [hP] at hm ⊢
  have HP := Aside0.mk hP
  have HN := Aside0.mk (fun w => num_nought P false hm w)
  obtain ⟨z, hz⟩ : ∃ z, decide (P = 0) = z := ⟨_, rfl⟩
  rw [hz] at HN ⊢
  clear hb hm hP hz
  cases ga <;> cases gb
  case false.false =>
    go_enter Try.func86, Try.ntmps86
    go_wp2_with (first | ((with_reducible refine gate_dst (N := 2) rfl ?_); refine num_new ?hg (N := 2) ?hd (cs := numC a false) HO.out a false ?hc ?hr ?_; (case hc => first | rfl | exact zcNum); (case hd => rfl); (case hg => rfl); (case hr => first | (go_simp; done) | (go_simp; rfl)); intro gA w1 hO_; have n0_ : Aside0 (Own w w1 [(gA, a, false)]) := ⟨hO_⟩; clear HO hO_; have HO := n0_; clear n0_) | ((with_reducible refine gate_dst (N := 3) rfl ?_); refine num_new ?hg (N := 3) ?hd (cs := numC b false) HO.out b false ?hc ?hr ?_; (case hc => first | rfl | exact zcNum); (case hd => rfl); (case hg => rfl); (case hr => first | (go_simp; done) | (go_simp; rfl)); intro gB w2 hO_; have n0_ : Aside0 (Own w w2 [(gA, a, false), (gB, b, false)]) := ⟨hO_⟩; clear HO hO_; have HO := n0_; clear n0_) | ((with_reducible refine gate_dst (N := 4) rfl ?_); refine num_new ?hg (N := 4) ?hd (cs := Try.zeroCells137) HO.out 0 false ?hc ?hr ?_; (case hc => first | rfl | exact zcNum); (case hd => rfl); (case hg => rfl); (case hr => first | (go_simp; done) | (go_simp; rfl)); intro gR w3 hO_; have n0_ : Aside0 (Own w w3 [(gA, a, false), (gB, b, false), (gR, 0, false)]) := ⟨hO_⟩; clear HO hO_; have HO := n0_; clear n0_) | ((with_reducible refine gate_dst (N := 5) rfl ?_); refine num_new ?hg (N := 5) ?hd (cs := Try.zeroCells137) HO.out 0 false ?hc ?hr ?_; (case hc => first | rfl | exact zcNum); (case hd => rfl); (case hg => rfl); (case hr => first | (go_simp; done) | (go_simp; rfl)); intro gN w4 hO_; have n0_ : Aside0 (Own w w4 [(gA, a, false), (gB, b, false), (gR, 0, false), (gN, 0, false)]) := ⟨hO_⟩; clear HO hO_; have HO := n0_; clear n0_) | ((with_reducible refine gate_dst (N := 8) rfl ?_); refine num_load ?hg (N := 8) ?hd (.tmp 2) ?ho HO.out 0 (g := gA) (m := a) (s := false) ?hi ?hx ?_; (case hd => rfl); (case hg => rfl); (case ho => rfl); (case hi => rfl); (case hx => rfl)) | ((with_reducible refine gate_dst (N := 6) rfl ?_); refine num_new ?hg (N := 6) ?hd (cs := Try.zeroCells137) HO.out 0 false ?hc ?hr ?_; (case hc => first | rfl | exact zcNum); (case hd => rfl); (case hg => rfl); (case hr => first | (go_simp; done) | (go_simp; rfl)); intro gX w5 hO_; have n0_ : Aside0 (Own w w5 [(gA, a, false), (gB, b, false), (gR, 0, false), (gN, 0, false), (gX, 0, false)]) := ⟨hO_⟩; clear HO hO_; have HO := n0_; clear n0_) | ((with_reducible refine gate_store (t := 137) (p := 6) (v := .tmp 8) rfl ?_); refine num_store ?hg (.tmp 6) (.tmp 8) ?ho HO.out 4 (g := gX) (m := 0) (s := false) (m' := a) (s' := false) ?hi ?hx ?hy ?_; (case hg => rfl); (case ho => rfl); (case hi => rfl); (case hx => rfl); (case hy => rfl); intro w6 hO_; have n0_ : Aside0 (Own w w6 [(gA, a, false), (gB, b, false), (gR, 0, false), (gN, 0, false), (gX, a, false)]) := ⟨hO_⟩; clear HO hO_; have HO := n0_; clear n0_))
    go_loopg [7] 64 (fun kq v7 wr => ∃ k : Nat, v7 = .int .i64 k ∧ Aside0 (k + kq = 64) ∧ Aside0 (Own w wr [(gA, a, false), (gB, b, false), (gR, 0, false), (gN, (a * (b % 2 ^ k)), false), (gX, (a * 2 ^ k), false)]))
    case atStart => exact ⟨0, rfl, ⟨rfl⟩, ⟨by have h := HO.out; simp only [Nat.pow_zero, Nat.mod_one, Nat.mul_zero, Nat.mul_one]; exact h⟩⟩
    case round =>
      clear HO
      obtain ⟨k, rfl, HK, HO⟩ := hrel
      by_cases hk : k < 64
      · have hd : decide ((k : Int) < 64) = true := decide_eq_true (by omega)
        have zb_ := HO.out.cell 1 k rfl (by omega)
        have HE2 := Aside0.mk (show 2 * (a * 2 ^ k) = a * 2 ^ (k + 1) by rw [Nat.pow_succ, Nat.mul_left_comm, Nat.mul_comm 2])
        have hm := Nat.mod_pow_succ (b := 2) (k := k) (x := b)
        have ht := tb_div b k
        rw [← ht] at hm
        cases hxb : b.testBit k
        case true =>
          rw [hxb] at zb_ hm
          have HE1 := Aside0.mk (show a * (b % 2 ^ k) + a * 2 ^ k = a * (b % 2 ^ (k + 1)) by rw [hm, ← Nat.mul_add]; simp)
          clear hxb hm ht
          go_wp2_with (first | ((with_reducible refine gate_dst (N := 17) rfl ?_); refine num_load ?hg (N := 17) ?hd (.tmp 5) ?ho HO.out 3 (g := gN) (m := (a * (b % 2 ^ k))) (s := false) ?hi ?hx ?_; (case hd => rfl); (case hg => rfl); (case ho => rfl); (case hi => rfl); (case hx => rfl)) | ((with_reducible refine gate_dst (N := 18) rfl ?_); refine num_load ?hg (N := 18) ?hd (.tmp 6) ?ho HO.out 4 (g := gX) (m := (a * 2 ^ k)) (s := false) ?hi ?hx ?_; (case hd => rfl); (case hg => rfl); (case ho => rfl); (case hi => rfl); (case hx => rfl)) | (go_at_call 106; (with_reducible refine (num_more _ _ _ _ _).mono ?_); rintro e_ w7 ⟨rfl, hb_⟩; have n0_ : Aside0 (Own w w7 [(gA, a, false), (gB, b, false), (gR, 0, false), (gN, (a * (b % 2 ^ k)), false), (gX, (a * 2 ^ k), false)]) := ⟨HO.out.call hb_⟩; clear zb_ HO hb_; have HO := n0_; clear n0_) | ((with_reducible refine gate_store (t := 137) (p := 5) (v := .tmp 19) rfl ?_); refine num_store ?hg (.tmp 5) (.tmp 19) ?ho HO.out 3 (g := gN) (m := (a * (b % 2 ^ k))) (s := false) (m' := (a * (b % 2 ^ k) + a * 2 ^ k)) (s' := false) ?hi ?hx ?hy ?_; (case hg => rfl); (case ho => rfl); (case hi => rfl); (case hx => rfl); (case hy => rfl); intro w8 hO_; have n0_ : Aside0 (Own w w8 [(gA, a, false), (gB, b, false), (gR, 0, false), (gN, (a * (b % 2 ^ k) + a * 2 ^ k), false), (gX, (a * 2 ^ k), false)]) := ⟨hO_⟩; clear HO hO_; have HO := n0_; clear n0_) | ((with_reducible refine gate_dst (N := 20) rfl ?_); refine num_load ?hg (N := 20) ?hd (.tmp 6) ?ho HO.out 4 (g := gX) (m := (a * 2 ^ k)) (s := false) ?hi ?hx ?_; (case hd => rfl); (case hg => rfl); (case ho => rfl); (case hi => rfl); (case hx => rfl)) | (go_at_call 107; (with_reducible refine (num_twice _ _ _).mono ?_); rintro e_ w9 ⟨rfl, hb_⟩; have n0_ : Aside0 (Own w w9 [(gA, a, false), (gB, b, false), (gR, 0, false), (gN, (a * (b % 2 ^ k) + a * 2 ^ k), false), (gX, (a * 2 ^ k), false)]) := ⟨HO.out.call hb_⟩; clear HO hb_; have HO := n0_; clear n0_) | ((with_reducible refine gate_store (t := 137) (p := 6) (v := .tmp 21) rfl ?_); refine num_store ?hg (.tmp 6) (.tmp 21) ?ho HO.out 4 (g := gX) (m := (a * 2 ^ k)) (s := false) (m' := (2 * (a * 2 ^ k))) (s' := false) ?hi ?hx ?hy ?_; (case hg => rfl); (case ho => rfl); (case hi => rfl); (case hx => rfl); (case hy => rfl); intro w10 hO_; have n0_ : Aside0 (Own w w10 [(gA, a, false), (gB, b, false), (gR, 0, false), (gN, (a * (b % 2 ^ k) + a * 2 ^ k), false), (gX, (2 * (a * 2 ^ k)), false)]) := ⟨hO_⟩; clear HO hO_; have HO := n0_; clear n0_))
          go_roundg (gk - 1)
          case measure => have := HK.out; omega
          case rel => exact ⟨k + 1, by go_num, ⟨by have := HK.out; omega⟩, ⟨by have h := HO.out; rw [HE1.out, HE2.out] at h; exact h⟩⟩
        case false =>
          rw [hxb] at zb_ hm
          have HE1 := Aside0.mk (show a * (b % 2 ^ k) = a * (b % 2 ^ (k + 1)) by rw [hm]; simp)
          clear hxb hm ht
          go_wp2_with (first | ((with_reducible refine gate_dst (N := 20) rfl ?_); refine num_load ?hg (N := 20) ?hd (.tmp 6) ?ho HO.out 4 (g := gX) (m := (a * 2 ^ k)) (s := false) ?hi ?hx ?_; (case hd => rfl); (case hg => rfl); (case ho => rfl); (case hi => rfl); (case hx => rfl)) | (go_at_call 107; (with_reducible refine (num_twice _ _ _).mono ?_); rintro e_ w9 ⟨rfl, hb_⟩; have n0_ : Aside0 (Own w w9 [(gA, a, false), (gB, b, false), (gR, 0, false), (gN, (a * (b % 2 ^ k)), false), (gX, (a * 2 ^ k), false)]) := ⟨HO.out.call hb_⟩; clear HO hb_; have HO := n0_; clear n0_) | ((with_reducible refine gate_store (t := 137) (p := 6) (v := .tmp 21) rfl ?_); refine num_store ?hg (.tmp 6) (.tmp 21) ?ho HO.out 4 (g := gX) (m := (a * 2 ^ k)) (s := false) (m' := (2 * (a * 2 ^ k))) (s' := false) ?hi ?hx ?hy ?_; (case hg => rfl); (case ho => rfl); (case hi => rfl); (case hx => rfl); (case hy => rfl); intro w10 hO_; have n0_ : Aside0 (Own w w10 [(gA, a, false), (gB, b, false), (gR, 0, false), (gN, (a * (b % 2 ^ k)), false), (gX, (2 * (a * 2 ^ k)), false)]) := ⟨hO_⟩; clear HO hO_; have HO := n0_; clear n0_))
          go_roundg (gk - 1)
          case measure => have := HK.out; omega
          case rel => exact ⟨k + 1, by go_num, ⟨by have := HK.out; omega⟩, ⟨by have h := HO.out; rw [HE1.out, HE2.out] at h; exact h⟩⟩
      · have hd : decide ((k : Int) < 64) = false := decide_eq_false (by omega)
        have hk64 : k = 64 := by have := HK.out; omega
        have HE := Aside0.mk (show a * (b % 2 ^ k) = a * b by rw [hk64, Nat.mod_eq_of_lt HB64.out])
        clear hk64
        obtain ⟨X, hX⟩ : ∃ X, a * 2 ^ k = X := ⟨_, rfl⟩
        have n0_ : Aside0 (Own w wr [(gA, a, false), (gB, b, false), (gR, 0, false), (gN, P, false), (gX, X, false)]) := ⟨by have h := HO.out; rw [HE.out, hX, HP.out] at h; exact h⟩
        clear HO; have HO := n0_; clear n0_
        clear hX HE
        have z0_ := HO.out.neg 0 rfl
        have z1_ := HO.out.neg 1 rfl
        have zn_ := HO.out.neg 3 rfl
        have zf_ := HO.out.free 3 136 rfl
        go_upto_region 10 with (first | ((with_reducible refine gate_dst (N := 28) rfl ?_); (refine gate_guard (by rfl) ?_; dsimp only); refine num_load ?hg (N := 28) ?hd (.tmp 5) ?ho HO.out 3 (g := gN) (m := P) (s := false) ?hi ?hx ?_; (case hd => rfl); (case hg => rfl); (case ho => rfl); (case hi => rfl); (case hx => rfl)) | (go_at_call 108; (with_reducible refine (HN.out _).mono ?_); rintro e_ w11 ⟨rfl, hb_⟩; clear z0_ z1_ zn_ zf_; have n0_ : Aside0 (Own w w11 [(gA, a, false), (gB, b, false), (gR, 0, false), (gN, P, false), (gX, X, false)]) := ⟨HO.out.call hb_⟩; clear HO hb_; have HO := n0_; clear n0_; have z0_ := HO.out.neg 0 rfl; have z1_ := HO.out.neg 1 rfl; have zn_ := HO.out.neg 3 rfl; have zf_ := HO.out.free 3 136 rfl))
        refine num_abs (w0 := w) (l := [(gA, a, false), (gB, b, false), (gR, 0, false), (gN, P, false), (gX, X, false)]) (HO.out.sign 3 rfl _) ?_
        intro w12 hO_
        clear HO
        have HO := Aside0.mk hO_
        clear hO_
        clear z0_ z1_ zn_ zf_
        go_wp2_with (first | ((with_reducible refine gate_dst (N := 33) rfl ?_); refine num_load ?hg (N := 33) ?hd (.tmp 5) ?ho HO.out 3 (g := gN) (m := P) (s := false) ?hi ?hx ?_; (case hd => rfl); (case hg => rfl); (case ho => rfl); (case hi => rfl); (case hx => rfl)) | ((with_reducible refine gate_store (t := 137) (p := 4) (v := .tmp 33) rfl ?_); refine num_store ?hg (.tmp 4) (.tmp 33) ?ho HO.out 2 (g := gR) (m := 0) (s := false) (m' := P) (s' := false) ?hi ?hx ?hy ?_; (case hg => rfl); (case ho => rfl); (case hi => rfl); (case hx => rfl); (case hy => rfl); intro w13 hO_; have n0_ : Aside0 (Own w w13 [(gA, a, false), (gB, b, false), (gR, P, false), (gN, P, false), (gX, X, false)]) := ⟨hO_⟩; clear HO hO_; have HO := n0_; clear n0_))
        exact bodyPost_ret (num_result rfl HO.out 2 rfl _ rfl) rfl ⟨by first | rfl | simp, HO.out.below⟩
  case false.true =>
    go_enter Try.func86, Try.ntmps86
    go_wp2_with (first | ((with_reducible refine gate_dst (N := 2) rfl ?_); refine num_new ?hg (N := 2) ?hd (cs := numC a false) HO.out a false ?hc ?hr ?_; (case hc => first | rfl | exact zcNum); (case hd => rfl); (case hg => rfl); (case hr => first | (go_simp; done) | (go_simp; rfl)); intro gA w1 hO_; have n0_ : Aside0 (Own w w1 [(gA, a, false)]) := ⟨hO_⟩; clear HO hO_; have HO := n0_; clear n0_) | ((with_reducible refine gate_dst (N := 3) rfl ?_); refine num_new ?hg (N := 3) ?hd (cs := numC b true) HO.out b true ?hc ?hr ?_; (case hc => first | rfl | exact zcNum); (case hd => rfl); (case hg => rfl); (case hr => first | (go_simp; done) | (go_simp; rfl)); intro gB w2 hO_; have n0_ : Aside0 (Own w w2 [(gA, a, false), (gB, b, true)]) := ⟨hO_⟩; clear HO hO_; have HO := n0_; clear n0_) | ((with_reducible refine gate_dst (N := 4) rfl ?_); refine num_new ?hg (N := 4) ?hd (cs := Try.zeroCells137) HO.out 0 false ?hc ?hr ?_; (case hc => first | rfl | exact zcNum); (case hd => rfl); (case hg => rfl); (case hr => first | (go_simp; done) | (go_simp; rfl)); intro gR w3 hO_; have n0_ : Aside0 (Own w w3 [(gA, a, false), (gB, b, true), (gR, 0, false)]) := ⟨hO_⟩; clear HO hO_; have HO := n0_; clear n0_) | ((with_reducible refine gate_dst (N := 5) rfl ?_); refine num_new ?hg (N := 5) ?hd (cs := Try.zeroCells137) HO.out 0 false ?hc ?hr ?_; (case hc => first | rfl | exact zcNum); (case hd => rfl); (case hg => rfl); (case hr => first | (go_simp; done) | (go_simp; rfl)); intro gN w4 hO_; have n0_ : Aside0 (Own w w4 [(gA, a, false), (gB, b, true), (gR, 0, false), (gN, 0, false)]) := ⟨hO_⟩; clear HO hO_; have HO := n0_; clear n0_) | ((with_reducible refine gate_dst (N := 8) rfl ?_); refine num_load ?hg (N := 8) ?hd (.tmp 2) ?ho HO.out 0 (g := gA) (m := a) (s := false) ?hi ?hx ?_; (case hd => rfl); (case hg => rfl); (case ho => rfl); (case hi => rfl); (case hx => rfl)) | ((with_reducible refine gate_dst (N := 6) rfl ?_); refine num_new ?hg (N := 6) ?hd (cs := Try.zeroCells137) HO.out 0 false ?hc ?hr ?_; (case hc => first | rfl | exact zcNum); (case hd => rfl); (case hg => rfl); (case hr => first | (go_simp; done) | (go_simp; rfl)); intro gX w5 hO_; have n0_ : Aside0 (Own w w5 [(gA, a, false), (gB, b, true), (gR, 0, false), (gN, 0, false), (gX, 0, false)]) := ⟨hO_⟩; clear HO hO_; have HO := n0_; clear n0_) | ((with_reducible refine gate_store (t := 137) (p := 6) (v := .tmp 8) rfl ?_); refine num_store ?hg (.tmp 6) (.tmp 8) ?ho HO.out 4 (g := gX) (m := 0) (s := false) (m' := a) (s' := false) ?hi ?hx ?hy ?_; (case hg => rfl); (case ho => rfl); (case hi => rfl); (case hx => rfl); (case hy => rfl); intro w6 hO_; have n0_ : Aside0 (Own w w6 [(gA, a, false), (gB, b, true), (gR, 0, false), (gN, 0, false), (gX, a, false)]) := ⟨hO_⟩; clear HO hO_; have HO := n0_; clear n0_))
    go_loopg [7] 64 (fun kq v7 wr => ∃ k : Nat, v7 = .int .i64 k ∧ Aside0 (k + kq = 64) ∧ Aside0 (Own w wr [(gA, a, false), (gB, b, true), (gR, 0, false), (gN, (a * (b % 2 ^ k)), false), (gX, (a * 2 ^ k), false)]))
    case atStart => exact ⟨0, rfl, ⟨rfl⟩, ⟨by have h := HO.out; simp only [Nat.pow_zero, Nat.mod_one, Nat.mul_zero, Nat.mul_one]; exact h⟩⟩
    case round =>
      clear HO
      obtain ⟨k, rfl, HK, HO⟩ := hrel
      by_cases hk : k < 64
      · have hd : decide ((k : Int) < 64) = true := decide_eq_true (by omega)
        have zb_ := HO.out.cell 1 k rfl (by omega)
        have HE2 := Aside0.mk (show 2 * (a * 2 ^ k) = a * 2 ^ (k + 1) by rw [Nat.pow_succ, Nat.mul_left_comm, Nat.mul_comm 2])
        have hm := Nat.mod_pow_succ (b := 2) (k := k) (x := b)
        have ht := tb_div b k
        rw [← ht] at hm
        cases hxb : b.testBit k
        case true =>
          rw [hxb] at zb_ hm
          have HE1 := Aside0.mk (show a * (b % 2 ^ k) + a * 2 ^ k = a * (b % 2 ^ (k + 1)) by rw [hm, ← Nat.mul_add]; simp)
          clear hxb hm ht
          go_wp2_with (first | ((with_reducible refine gate_dst (N := 17) rfl ?_); refine num_load ?hg (N := 17) ?hd (.tmp 5) ?ho HO.out 3 (g := gN) (m := (a * (b % 2 ^ k))) (s := false) ?hi ?hx ?_; (case hd => rfl); (case hg => rfl); (case ho => rfl); (case hi => rfl); (case hx => rfl)) | ((with_reducible refine gate_dst (N := 18) rfl ?_); refine num_load ?hg (N := 18) ?hd (.tmp 6) ?ho HO.out 4 (g := gX) (m := (a * 2 ^ k)) (s := false) ?hi ?hx ?_; (case hd => rfl); (case hg => rfl); (case ho => rfl); (case hi => rfl); (case hx => rfl)) | (go_at_call 106; (with_reducible refine (num_more _ _ _ _ _).mono ?_); rintro e_ w7 ⟨rfl, hb_⟩; have n0_ : Aside0 (Own w w7 [(gA, a, false), (gB, b, true), (gR, 0, false), (gN, (a * (b % 2 ^ k)), false), (gX, (a * 2 ^ k), false)]) := ⟨HO.out.call hb_⟩; clear zb_ HO hb_; have HO := n0_; clear n0_) | ((with_reducible refine gate_store (t := 137) (p := 5) (v := .tmp 19) rfl ?_); refine num_store ?hg (.tmp 5) (.tmp 19) ?ho HO.out 3 (g := gN) (m := (a * (b % 2 ^ k))) (s := false) (m' := (a * (b % 2 ^ k) + a * 2 ^ k)) (s' := false) ?hi ?hx ?hy ?_; (case hg => rfl); (case ho => rfl); (case hi => rfl); (case hx => rfl); (case hy => rfl); intro w8 hO_; have n0_ : Aside0 (Own w w8 [(gA, a, false), (gB, b, true), (gR, 0, false), (gN, (a * (b % 2 ^ k) + a * 2 ^ k), false), (gX, (a * 2 ^ k), false)]) := ⟨hO_⟩; clear HO hO_; have HO := n0_; clear n0_) | ((with_reducible refine gate_dst (N := 20) rfl ?_); refine num_load ?hg (N := 20) ?hd (.tmp 6) ?ho HO.out 4 (g := gX) (m := (a * 2 ^ k)) (s := false) ?hi ?hx ?_; (case hd => rfl); (case hg => rfl); (case ho => rfl); (case hi => rfl); (case hx => rfl)) | (go_at_call 107; (with_reducible refine (num_twice _ _ _).mono ?_); rintro e_ w9 ⟨rfl, hb_⟩; have n0_ : Aside0 (Own w w9 [(gA, a, false), (gB, b, true), (gR, 0, false), (gN, (a * (b % 2 ^ k) + a * 2 ^ k), false), (gX, (a * 2 ^ k), false)]) := ⟨HO.out.call hb_⟩; clear HO hb_; have HO := n0_; clear n0_) | ((with_reducible refine gate_store (t := 137) (p := 6) (v := .tmp 21) rfl ?_); refine num_store ?hg (.tmp 6) (.tmp 21) ?ho HO.out 4 (g := gX) (m := (a * 2 ^ k)) (s := false) (m' := (2 * (a * 2 ^ k))) (s' := false) ?hi ?hx ?hy ?_; (case hg => rfl); (case ho => rfl); (case hi => rfl); (case hx => rfl); (case hy => rfl); intro w10 hO_; have n0_ : Aside0 (Own w w10 [(gA, a, false), (gB, b, true), (gR, 0, false), (gN, (a * (b % 2 ^ k) + a * 2 ^ k), false), (gX, (2 * (a * 2 ^ k)), false)]) := ⟨hO_⟩; clear HO hO_; have HO := n0_; clear n0_))
          go_roundg (gk - 1)
          case measure => have := HK.out; omega
          case rel => exact ⟨k + 1, by go_num, ⟨by have := HK.out; omega⟩, ⟨by have h := HO.out; rw [HE1.out, HE2.out] at h; exact h⟩⟩
        case false =>
          rw [hxb] at zb_ hm
          have HE1 := Aside0.mk (show a * (b % 2 ^ k) = a * (b % 2 ^ (k + 1)) by rw [hm]; simp)
          clear hxb hm ht
          go_wp2_with (first | ((with_reducible refine gate_dst (N := 20) rfl ?_); refine num_load ?hg (N := 20) ?hd (.tmp 6) ?ho HO.out 4 (g := gX) (m := (a * 2 ^ k)) (s := false) ?hi ?hx ?_; (case hd => rfl); (case hg => rfl); (case ho => rfl); (case hi => rfl); (case hx => rfl)) | (go_at_call 107; (with_reducible refine (num_twice _ _ _).mono ?_); rintro e_ w9 ⟨rfl, hb_⟩; have n0_ : Aside0 (Own w w9 [(gA, a, false), (gB, b, true), (gR, 0, false), (gN, (a * (b % 2 ^ k)), false), (gX, (a * 2 ^ k), false)]) := ⟨HO.out.call hb_⟩; clear HO hb_; have HO := n0_; clear n0_) | ((with_reducible refine gate_store (t := 137) (p := 6) (v := .tmp 21) rfl ?_); refine num_store ?hg (.tmp 6) (.tmp 21) ?ho HO.out 4 (g := gX) (m := (a * 2 ^ k)) (s := false) (m' := (2 * (a * 2 ^ k))) (s' := false) ?hi ?hx ?hy ?_; (case hg => rfl); (case ho => rfl); (case hi => rfl); (case hx => rfl); (case hy => rfl); intro w10 hO_; have n0_ : Aside0 (Own w w10 [(gA, a, false), (gB, b, true), (gR, 0, false), (gN, (a * (b % 2 ^ k)), false), (gX, (2 * (a * 2 ^ k)), false)]) := ⟨hO_⟩; clear HO hO_; have HO := n0_; clear n0_))
          go_roundg (gk - 1)
          case measure => have := HK.out; omega
          case rel => exact ⟨k + 1, by go_num, ⟨by have := HK.out; omega⟩, ⟨by have h := HO.out; rw [HE1.out, HE2.out] at h; exact h⟩⟩
      · have hd : decide ((k : Int) < 64) = false := decide_eq_false (by omega)
        have hk64 : k = 64 := by have := HK.out; omega
        have HE := Aside0.mk (show a * (b % 2 ^ k) = a * b by rw [hk64, Nat.mod_eq_of_lt HB64.out])
        clear hk64
        obtain ⟨X, hX⟩ : ∃ X, a * 2 ^ k = X := ⟨_, rfl⟩
        have n0_ : Aside0 (Own w wr [(gA, a, false), (gB, b, true), (gR, 0, false), (gN, P, false), (gX, X, false)]) := ⟨by have h := HO.out; rw [HE.out, hX, HP.out] at h; exact h⟩
        clear HO; have HO := n0_; clear n0_
        clear hX HE
        have z0_ := HO.out.neg 0 rfl
        have z1_ := HO.out.neg 1 rfl
        have zn_ := HO.out.neg 3 rfl
        have zf_ := HO.out.free 3 136 rfl
        go_upto_region 10 with (first | ((with_reducible refine gate_dst (N := 28) rfl ?_); (refine gate_guard (by rfl) ?_; dsimp only); refine num_load ?hg (N := 28) ?hd (.tmp 5) ?ho HO.out 3 (g := gN) (m := P) (s := false) ?hi ?hx ?_; (case hd => rfl); (case hg => rfl); (case ho => rfl); (case hi => rfl); (case hx => rfl)) | (go_at_call 108; (with_reducible refine (HN.out _).mono ?_); rintro e_ w11 ⟨rfl, hb_⟩; clear z0_ z1_ zn_ zf_; have n0_ : Aside0 (Own w w11 [(gA, a, false), (gB, b, true), (gR, 0, false), (gN, P, false), (gX, X, false)]) := ⟨HO.out.call hb_⟩; clear HO hb_; have HO := n0_; clear n0_; have z0_ := HO.out.neg 0 rfl; have z1_ := HO.out.neg 1 rfl; have zn_ := HO.out.neg 3 rfl; have zf_ := HO.out.free 3 136 rfl))
        refine num_abs (w0 := w) (l := [(gA, a, false), (gB, b, true), (gR, 0, false), (gN, P, (!z)), (gX, X, false)]) (HO.out.sign 3 rfl _) ?_
        intro w12 hO_
        clear HO
        have HO := Aside0.mk hO_
        clear hO_
        clear z0_ z1_ zn_ zf_
        go_wp2_with (first | ((with_reducible refine gate_dst (N := 33) rfl ?_); refine num_load ?hg (N := 33) ?hd (.tmp 5) ?ho HO.out 3 (g := gN) (m := P) (s := (!z)) ?hi ?hx ?_; (case hd => rfl); (case hg => rfl); (case ho => rfl); (case hi => rfl); (case hx => rfl)) | ((with_reducible refine gate_store (t := 137) (p := 4) (v := .tmp 33) rfl ?_); refine num_store ?hg (.tmp 4) (.tmp 33) ?ho HO.out 2 (g := gR) (m := 0) (s := false) (m' := P) (s' := (!z)) ?hi ?hx ?hy ?_; (case hg => rfl); (case ho => rfl); (case hi => rfl); (case hx => rfl); (case hy => rfl); intro w13 hO_; have n0_ : Aside0 (Own w w13 [(gA, a, false), (gB, b, true), (gR, P, (!z)), (gN, P, (!z)), (gX, X, false)]) := ⟨hO_⟩; clear HO hO_; have HO := n0_; clear n0_))
        exact bodyPost_ret (num_result rfl HO.out 2 rfl _ rfl) rfl ⟨by first | rfl | simp, HO.out.below⟩
  case true.false =>
    go_enter Try.func86, Try.ntmps86
    go_wp2_with (first | ((with_reducible refine gate_dst (N := 2) rfl ?_); refine num_new ?hg (N := 2) ?hd (cs := numC a true) HO.out a true ?hc ?hr ?_; (case hc => first | rfl | exact zcNum); (case hd => rfl); (case hg => rfl); (case hr => first | (go_simp; done) | (go_simp; rfl)); intro gA w1 hO_; have n0_ : Aside0 (Own w w1 [(gA, a, true)]) := ⟨hO_⟩; clear HO hO_; have HO := n0_; clear n0_) | ((with_reducible refine gate_dst (N := 3) rfl ?_); refine num_new ?hg (N := 3) ?hd (cs := numC b false) HO.out b false ?hc ?hr ?_; (case hc => first | rfl | exact zcNum); (case hd => rfl); (case hg => rfl); (case hr => first | (go_simp; done) | (go_simp; rfl)); intro gB w2 hO_; have n0_ : Aside0 (Own w w2 [(gA, a, true), (gB, b, false)]) := ⟨hO_⟩; clear HO hO_; have HO := n0_; clear n0_) | ((with_reducible refine gate_dst (N := 4) rfl ?_); refine num_new ?hg (N := 4) ?hd (cs := Try.zeroCells137) HO.out 0 false ?hc ?hr ?_; (case hc => first | rfl | exact zcNum); (case hd => rfl); (case hg => rfl); (case hr => first | (go_simp; done) | (go_simp; rfl)); intro gR w3 hO_; have n0_ : Aside0 (Own w w3 [(gA, a, true), (gB, b, false), (gR, 0, false)]) := ⟨hO_⟩; clear HO hO_; have HO := n0_; clear n0_) | ((with_reducible refine gate_dst (N := 5) rfl ?_); refine num_new ?hg (N := 5) ?hd (cs := Try.zeroCells137) HO.out 0 false ?hc ?hr ?_; (case hc => first | rfl | exact zcNum); (case hd => rfl); (case hg => rfl); (case hr => first | (go_simp; done) | (go_simp; rfl)); intro gN w4 hO_; have n0_ : Aside0 (Own w w4 [(gA, a, true), (gB, b, false), (gR, 0, false), (gN, 0, false)]) := ⟨hO_⟩; clear HO hO_; have HO := n0_; clear n0_) | ((with_reducible refine gate_dst (N := 8) rfl ?_); refine num_load ?hg (N := 8) ?hd (.tmp 2) ?ho HO.out 0 (g := gA) (m := a) (s := true) ?hi ?hx ?_; (case hd => rfl); (case hg => rfl); (case ho => rfl); (case hi => rfl); (case hx => rfl)) | ((with_reducible refine gate_dst (N := 6) rfl ?_); refine num_new ?hg (N := 6) ?hd (cs := Try.zeroCells137) HO.out 0 false ?hc ?hr ?_; (case hc => first | rfl | exact zcNum); (case hd => rfl); (case hg => rfl); (case hr => first | (go_simp; done) | (go_simp; rfl)); intro gX w5 hO_; have n0_ : Aside0 (Own w w5 [(gA, a, true), (gB, b, false), (gR, 0, false), (gN, 0, false), (gX, 0, false)]) := ⟨hO_⟩; clear HO hO_; have HO := n0_; clear n0_) | ((with_reducible refine gate_store (t := 137) (p := 6) (v := .tmp 8) rfl ?_); refine num_store ?hg (.tmp 6) (.tmp 8) ?ho HO.out 4 (g := gX) (m := 0) (s := false) (m' := a) (s' := true) ?hi ?hx ?hy ?_; (case hg => rfl); (case ho => rfl); (case hi => rfl); (case hx => rfl); (case hy => rfl); intro w6 hO_; have n0_ : Aside0 (Own w w6 [(gA, a, true), (gB, b, false), (gR, 0, false), (gN, 0, false), (gX, a, true)]) := ⟨hO_⟩; clear HO hO_; have HO := n0_; clear n0_))
    go_loopg [7] 64 (fun kq v7 wr => ∃ k : Nat, v7 = .int .i64 k ∧ Aside0 (k + kq = 64) ∧ Aside0 (Own w wr [(gA, a, true), (gB, b, false), (gR, 0, false), (gN, (a * (b % 2 ^ k)), false), (gX, (a * 2 ^ k), true)]))
    case atStart => exact ⟨0, rfl, ⟨rfl⟩, ⟨by have h := HO.out; simp only [Nat.pow_zero, Nat.mod_one, Nat.mul_zero, Nat.mul_one]; exact h⟩⟩
    case round =>
      clear HO
      obtain ⟨k, rfl, HK, HO⟩ := hrel
      by_cases hk : k < 64
      · have hd : decide ((k : Int) < 64) = true := decide_eq_true (by omega)
        have zb_ := HO.out.cell 1 k rfl (by omega)
        have HE2 := Aside0.mk (show 2 * (a * 2 ^ k) = a * 2 ^ (k + 1) by rw [Nat.pow_succ, Nat.mul_left_comm, Nat.mul_comm 2])
        have hm := Nat.mod_pow_succ (b := 2) (k := k) (x := b)
        have ht := tb_div b k
        rw [← ht] at hm
        cases hxb : b.testBit k
        case true =>
          rw [hxb] at zb_ hm
          have HE1 := Aside0.mk (show a * (b % 2 ^ k) + a * 2 ^ k = a * (b % 2 ^ (k + 1)) by rw [hm, ← Nat.mul_add]; simp)
          clear hxb hm ht
          go_wp2_with (first | ((with_reducible refine gate_dst (N := 17) rfl ?_); refine num_load ?hg (N := 17) ?hd (.tmp 5) ?ho HO.out 3 (g := gN) (m := (a * (b % 2 ^ k))) (s := false) ?hi ?hx ?_; (case hd => rfl); (case hg => rfl); (case ho => rfl); (case hi => rfl); (case hx => rfl)) | ((with_reducible refine gate_dst (N := 18) rfl ?_); refine num_load ?hg (N := 18) ?hd (.tmp 6) ?ho HO.out 4 (g := gX) (m := (a * 2 ^ k)) (s := true) ?hi ?hx ?_; (case hd => rfl); (case hg => rfl); (case ho => rfl); (case hi => rfl); (case hx => rfl)) | (go_at_call 106; (with_reducible refine (num_more _ _ _ _ _).mono ?_); rintro e_ w7 ⟨rfl, hb_⟩; have n0_ : Aside0 (Own w w7 [(gA, a, true), (gB, b, false), (gR, 0, false), (gN, (a * (b % 2 ^ k)), false), (gX, (a * 2 ^ k), true)]) := ⟨HO.out.call hb_⟩; clear zb_ HO hb_; have HO := n0_; clear n0_) | ((with_reducible refine gate_store (t := 137) (p := 5) (v := .tmp 19) rfl ?_); refine num_store ?hg (.tmp 5) (.tmp 19) ?ho HO.out 3 (g := gN) (m := (a * (b % 2 ^ k))) (s := false) (m' := (a * (b % 2 ^ k) + a * 2 ^ k)) (s' := false) ?hi ?hx ?hy ?_; (case hg => rfl); (case ho => rfl); (case hi => rfl); (case hx => rfl); (case hy => rfl); intro w8 hO_; have n0_ : Aside0 (Own w w8 [(gA, a, true), (gB, b, false), (gR, 0, false), (gN, (a * (b % 2 ^ k) + a * 2 ^ k), false), (gX, (a * 2 ^ k), true)]) := ⟨hO_⟩; clear HO hO_; have HO := n0_; clear n0_) | ((with_reducible refine gate_dst (N := 20) rfl ?_); refine num_load ?hg (N := 20) ?hd (.tmp 6) ?ho HO.out 4 (g := gX) (m := (a * 2 ^ k)) (s := true) ?hi ?hx ?_; (case hd => rfl); (case hg => rfl); (case ho => rfl); (case hi => rfl); (case hx => rfl)) | (go_at_call 107; (with_reducible refine (num_twice _ _ _).mono ?_); rintro e_ w9 ⟨rfl, hb_⟩; have n0_ : Aside0 (Own w w9 [(gA, a, true), (gB, b, false), (gR, 0, false), (gN, (a * (b % 2 ^ k) + a * 2 ^ k), false), (gX, (a * 2 ^ k), true)]) := ⟨HO.out.call hb_⟩; clear HO hb_; have HO := n0_; clear n0_) | ((with_reducible refine gate_store (t := 137) (p := 6) (v := .tmp 21) rfl ?_); refine num_store ?hg (.tmp 6) (.tmp 21) ?ho HO.out 4 (g := gX) (m := (a * 2 ^ k)) (s := true) (m' := (2 * (a * 2 ^ k))) (s' := true) ?hi ?hx ?hy ?_; (case hg => rfl); (case ho => rfl); (case hi => rfl); (case hx => rfl); (case hy => rfl); intro w10 hO_; have n0_ : Aside0 (Own w w10 [(gA, a, true), (gB, b, false), (gR, 0, false), (gN, (a * (b % 2 ^ k) + a * 2 ^ k), false), (gX, (2 * (a * 2 ^ k)), true)]) := ⟨hO_⟩; clear HO hO_; have HO := n0_; clear n0_))
          go_roundg (gk - 1)
          case measure => have := HK.out; omega
          case rel => exact ⟨k + 1, by go_num, ⟨by have := HK.out; omega⟩, ⟨by have h := HO.out; rw [HE1.out, HE2.out] at h; exact h⟩⟩
        case false =>
          rw [hxb] at zb_ hm
          have HE1 := Aside0.mk (show a * (b % 2 ^ k) = a * (b % 2 ^ (k + 1)) by rw [hm]; simp)
          clear hxb hm ht
          go_wp2_with (first | ((with_reducible refine gate_dst (N := 20) rfl ?_); refine num_load ?hg (N := 20) ?hd (.tmp 6) ?ho HO.out 4 (g := gX) (m := (a * 2 ^ k)) (s := true) ?hi ?hx ?_; (case hd => rfl); (case hg => rfl); (case ho => rfl); (case hi => rfl); (case hx => rfl)) | (go_at_call 107; (with_reducible refine (num_twice _ _ _).mono ?_); rintro e_ w9 ⟨rfl, hb_⟩; have n0_ : Aside0 (Own w w9 [(gA, a, true), (gB, b, false), (gR, 0, false), (gN, (a * (b % 2 ^ k)), false), (gX, (a * 2 ^ k), true)]) := ⟨HO.out.call hb_⟩; clear HO hb_; have HO := n0_; clear n0_) | ((with_reducible refine gate_store (t := 137) (p := 6) (v := .tmp 21) rfl ?_); refine num_store ?hg (.tmp 6) (.tmp 21) ?ho HO.out 4 (g := gX) (m := (a * 2 ^ k)) (s := true) (m' := (2 * (a * 2 ^ k))) (s' := true) ?hi ?hx ?hy ?_; (case hg => rfl); (case ho => rfl); (case hi => rfl); (case hx => rfl); (case hy => rfl); intro w10 hO_; have n0_ : Aside0 (Own w w10 [(gA, a, true), (gB, b, false), (gR, 0, false), (gN, (a * (b % 2 ^ k)), false), (gX, (2 * (a * 2 ^ k)), true)]) := ⟨hO_⟩; clear HO hO_; have HO := n0_; clear n0_))
          go_roundg (gk - 1)
          case measure => have := HK.out; omega
          case rel => exact ⟨k + 1, by go_num, ⟨by have := HK.out; omega⟩, ⟨by have h := HO.out; rw [HE1.out, HE2.out] at h; exact h⟩⟩
      · have hd : decide ((k : Int) < 64) = false := decide_eq_false (by omega)
        have hk64 : k = 64 := by have := HK.out; omega
        have HE := Aside0.mk (show a * (b % 2 ^ k) = a * b by rw [hk64, Nat.mod_eq_of_lt HB64.out])
        clear hk64
        obtain ⟨X, hX⟩ : ∃ X, a * 2 ^ k = X := ⟨_, rfl⟩
        have n0_ : Aside0 (Own w wr [(gA, a, true), (gB, b, false), (gR, 0, false), (gN, P, false), (gX, X, true)]) := ⟨by have h := HO.out; rw [HE.out, hX, HP.out] at h; exact h⟩
        clear HO; have HO := n0_; clear n0_
        clear hX HE
        have z0_ := HO.out.neg 0 rfl
        have z1_ := HO.out.neg 1 rfl
        have zn_ := HO.out.neg 3 rfl
        have zf_ := HO.out.free 3 136 rfl
        go_upto_region 10 with (first | ((with_reducible refine gate_dst (N := 28) rfl ?_); (refine gate_guard (by rfl) ?_; dsimp only); refine num_load ?hg (N := 28) ?hd (.tmp 5) ?ho HO.out 3 (g := gN) (m := P) (s := false) ?hi ?hx ?_; (case hd => rfl); (case hg => rfl); (case ho => rfl); (case hi => rfl); (case hx => rfl)) | (go_at_call 108; (with_reducible refine (HN.out _).mono ?_); rintro e_ w11 ⟨rfl, hb_⟩; clear z0_ z1_ zn_ zf_; have n0_ : Aside0 (Own w w11 [(gA, a, true), (gB, b, false), (gR, 0, false), (gN, P, false), (gX, X, true)]) := ⟨HO.out.call hb_⟩; clear HO hb_; have HO := n0_; clear n0_; have z0_ := HO.out.neg 0 rfl; have z1_ := HO.out.neg 1 rfl; have zn_ := HO.out.neg 3 rfl; have zf_ := HO.out.free 3 136 rfl))
        refine num_abs (w0 := w) (l := [(gA, a, true), (gB, b, false), (gR, 0, false), (gN, P, (!z)), (gX, X, true)]) (HO.out.sign 3 rfl _) ?_
        intro w12 hO_
        clear HO
        have HO := Aside0.mk hO_
        clear hO_
        clear z0_ z1_ zn_ zf_
        go_wp2_with (first | ((with_reducible refine gate_dst (N := 33) rfl ?_); refine num_load ?hg (N := 33) ?hd (.tmp 5) ?ho HO.out 3 (g := gN) (m := P) (s := (!z)) ?hi ?hx ?_; (case hd => rfl); (case hg => rfl); (case ho => rfl); (case hi => rfl); (case hx => rfl)) | ((with_reducible refine gate_store (t := 137) (p := 4) (v := .tmp 33) rfl ?_); refine num_store ?hg (.tmp 4) (.tmp 33) ?ho HO.out 2 (g := gR) (m := 0) (s := false) (m' := P) (s' := (!z)) ?hi ?hx ?hy ?_; (case hg => rfl); (case ho => rfl); (case hi => rfl); (case hx => rfl); (case hy => rfl); intro w13 hO_; have n0_ : Aside0 (Own w w13 [(gA, a, true), (gB, b, false), (gR, P, (!z)), (gN, P, (!z)), (gX, X, true)]) := ⟨hO_⟩; clear HO hO_; have HO := n0_; clear n0_))
        exact bodyPost_ret (num_result rfl HO.out 2 rfl _ rfl) rfl ⟨by first | rfl | simp, HO.out.below⟩
  case true.true =>
    go_enter Try.func86, Try.ntmps86
    go_wp2_with (first | ((with_reducible refine gate_dst (N := 2) rfl ?_); refine num_new ?hg (N := 2) ?hd (cs := numC a true) HO.out a true ?hc ?hr ?_; (case hc => first | rfl | exact zcNum); (case hd => rfl); (case hg => rfl); (case hr => first | (go_simp; done) | (go_simp; rfl)); intro gA w1 hO_; have n0_ : Aside0 (Own w w1 [(gA, a, true)]) := ⟨hO_⟩; clear HO hO_; have HO := n0_; clear n0_) | ((with_reducible refine gate_dst (N := 3) rfl ?_); refine num_new ?hg (N := 3) ?hd (cs := numC b true) HO.out b true ?hc ?hr ?_; (case hc => first | rfl | exact zcNum); (case hd => rfl); (case hg => rfl); (case hr => first | (go_simp; done) | (go_simp; rfl)); intro gB w2 hO_; have n0_ : Aside0 (Own w w2 [(gA, a, true), (gB, b, true)]) := ⟨hO_⟩; clear HO hO_; have HO := n0_; clear n0_) | ((with_reducible refine gate_dst (N := 4) rfl ?_); refine num_new ?hg (N := 4) ?hd (cs := Try.zeroCells137) HO.out 0 false ?hc ?hr ?_; (case hc => first | rfl | exact zcNum); (case hd => rfl); (case hg => rfl); (case hr => first | (go_simp; done) | (go_simp; rfl)); intro gR w3 hO_; have n0_ : Aside0 (Own w w3 [(gA, a, true), (gB, b, true), (gR, 0, false)]) := ⟨hO_⟩; clear HO hO_; have HO := n0_; clear n0_) | ((with_reducible refine gate_dst (N := 5) rfl ?_); refine num_new ?hg (N := 5) ?hd (cs := Try.zeroCells137) HO.out 0 false ?hc ?hr ?_; (case hc => first | rfl | exact zcNum); (case hd => rfl); (case hg => rfl); (case hr => first | (go_simp; done) | (go_simp; rfl)); intro gN w4 hO_; have n0_ : Aside0 (Own w w4 [(gA, a, true), (gB, b, true), (gR, 0, false), (gN, 0, false)]) := ⟨hO_⟩; clear HO hO_; have HO := n0_; clear n0_) | ((with_reducible refine gate_dst (N := 8) rfl ?_); refine num_load ?hg (N := 8) ?hd (.tmp 2) ?ho HO.out 0 (g := gA) (m := a) (s := true) ?hi ?hx ?_; (case hd => rfl); (case hg => rfl); (case ho => rfl); (case hi => rfl); (case hx => rfl)) | ((with_reducible refine gate_dst (N := 6) rfl ?_); refine num_new ?hg (N := 6) ?hd (cs := Try.zeroCells137) HO.out 0 false ?hc ?hr ?_; (case hc => first | rfl | exact zcNum); (case hd => rfl); (case hg => rfl); (case hr => first | (go_simp; done) | (go_simp; rfl)); intro gX w5 hO_; have n0_ : Aside0 (Own w w5 [(gA, a, true), (gB, b, true), (gR, 0, false), (gN, 0, false), (gX, 0, false)]) := ⟨hO_⟩; clear HO hO_; have HO := n0_; clear n0_) | ((with_reducible refine gate_store (t := 137) (p := 6) (v := .tmp 8) rfl ?_); refine num_store ?hg (.tmp 6) (.tmp 8) ?ho HO.out 4 (g := gX) (m := 0) (s := false) (m' := a) (s' := true) ?hi ?hx ?hy ?_; (case hg => rfl); (case ho => rfl); (case hi => rfl); (case hx => rfl); (case hy => rfl); intro w6 hO_; have n0_ : Aside0 (Own w w6 [(gA, a, true), (gB, b, true), (gR, 0, false), (gN, 0, false), (gX, a, true)]) := ⟨hO_⟩; clear HO hO_; have HO := n0_; clear n0_))
    go_loopg [7] 64 (fun kq v7 wr => ∃ k : Nat, v7 = .int .i64 k ∧ Aside0 (k + kq = 64) ∧ Aside0 (Own w wr [(gA, a, true), (gB, b, true), (gR, 0, false), (gN, (a * (b % 2 ^ k)), false), (gX, (a * 2 ^ k), true)]))
    case atStart => exact ⟨0, rfl, ⟨rfl⟩, ⟨by have h := HO.out; simp only [Nat.pow_zero, Nat.mod_one, Nat.mul_zero, Nat.mul_one]; exact h⟩⟩
    case round =>
      clear HO
      obtain ⟨k, rfl, HK, HO⟩ := hrel
      by_cases hk : k < 64
      · have hd : decide ((k : Int) < 64) = true := decide_eq_true (by omega)
        have zb_ := HO.out.cell 1 k rfl (by omega)
        have HE2 := Aside0.mk (show 2 * (a * 2 ^ k) = a * 2 ^ (k + 1) by rw [Nat.pow_succ, Nat.mul_left_comm, Nat.mul_comm 2])
        have hm := Nat.mod_pow_succ (b := 2) (k := k) (x := b)
        have ht := tb_div b k
        rw [← ht] at hm
        cases hxb : b.testBit k
        case true =>
          rw [hxb] at zb_ hm
          have HE1 := Aside0.mk (show a * (b % 2 ^ k) + a * 2 ^ k = a * (b % 2 ^ (k + 1)) by rw [hm, ← Nat.mul_add]; simp)
          clear hxb hm ht
          go_wp2_with (first | ((with_reducible refine gate_dst (N := 17) rfl ?_); refine num_load ?hg (N := 17) ?hd (.tmp 5) ?ho HO.out 3 (g := gN) (m := (a * (b % 2 ^ k))) (s := false) ?hi ?hx ?_; (case hd => rfl); (case hg => rfl); (case ho => rfl); (case hi => rfl); (case hx => rfl)) | ((with_reducible refine gate_dst (N := 18) rfl ?_); refine num_load ?hg (N := 18) ?hd (.tmp 6) ?ho HO.out 4 (g := gX) (m := (a * 2 ^ k)) (s := true) ?hi ?hx ?_; (case hd => rfl); (case hg => rfl); (case ho => rfl); (case hi => rfl); (case hx => rfl)) | (go_at_call 106; (with_reducible refine (num_more _ _ _ _ _).mono ?_); rintro e_ w7 ⟨rfl, hb_⟩; have n0_ : Aside0 (Own w w7 [(gA, a, true), (gB, b, true), (gR, 0, false), (gN, (a * (b % 2 ^ k)), false), (gX, (a * 2 ^ k), true)]) := ⟨HO.out.call hb_⟩; clear zb_ HO hb_; have HO := n0_; clear n0_) | ((with_reducible refine gate_store (t := 137) (p := 5) (v := .tmp 19) rfl ?_); refine num_store ?hg (.tmp 5) (.tmp 19) ?ho HO.out 3 (g := gN) (m := (a * (b % 2 ^ k))) (s := false) (m' := (a * (b % 2 ^ k) + a * 2 ^ k)) (s' := false) ?hi ?hx ?hy ?_; (case hg => rfl); (case ho => rfl); (case hi => rfl); (case hx => rfl); (case hy => rfl); intro w8 hO_; have n0_ : Aside0 (Own w w8 [(gA, a, true), (gB, b, true), (gR, 0, false), (gN, (a * (b % 2 ^ k) + a * 2 ^ k), false), (gX, (a * 2 ^ k), true)]) := ⟨hO_⟩; clear HO hO_; have HO := n0_; clear n0_) | ((with_reducible refine gate_dst (N := 20) rfl ?_); refine num_load ?hg (N := 20) ?hd (.tmp 6) ?ho HO.out 4 (g := gX) (m := (a * 2 ^ k)) (s := true) ?hi ?hx ?_; (case hd => rfl); (case hg => rfl); (case ho => rfl); (case hi => rfl); (case hx => rfl)) | (go_at_call 107; (with_reducible refine (num_twice _ _ _).mono ?_); rintro e_ w9 ⟨rfl, hb_⟩; have n0_ : Aside0 (Own w w9 [(gA, a, true), (gB, b, true), (gR, 0, false), (gN, (a * (b % 2 ^ k) + a * 2 ^ k), false), (gX, (a * 2 ^ k), true)]) := ⟨HO.out.call hb_⟩; clear HO hb_; have HO := n0_; clear n0_) | ((with_reducible refine gate_store (t := 137) (p := 6) (v := .tmp 21) rfl ?_); refine num_store ?hg (.tmp 6) (.tmp 21) ?ho HO.out 4 (g := gX) (m := (a * 2 ^ k)) (s := true) (m' := (2 * (a * 2 ^ k))) (s' := true) ?hi ?hx ?hy ?_; (case hg => rfl); (case ho => rfl); (case hi => rfl); (case hx => rfl); (case hy => rfl); intro w10 hO_; have n0_ : Aside0 (Own w w10 [(gA, a, true), (gB, b, true), (gR, 0, false), (gN, (a * (b % 2 ^ k) + a * 2 ^ k), false), (gX, (2 * (a * 2 ^ k)), true)]) := ⟨hO_⟩; clear HO hO_; have HO := n0_; clear n0_))
          go_roundg (gk - 1)
          case measure => have := HK.out; omega
          case rel => exact ⟨k + 1, by go_num, ⟨by have := HK.out; omega⟩, ⟨by have h := HO.out; rw [HE1.out, HE2.out] at h; exact h⟩⟩
        case false =>
          rw [hxb] at zb_ hm
          have HE1 := Aside0.mk (show a * (b % 2 ^ k) = a * (b % 2 ^ (k + 1)) by rw [hm]; simp)
          clear hxb hm ht
          go_wp2_with (first | ((with_reducible refine gate_dst (N := 20) rfl ?_); refine num_load ?hg (N := 20) ?hd (.tmp 6) ?ho HO.out 4 (g := gX) (m := (a * 2 ^ k)) (s := true) ?hi ?hx ?_; (case hd => rfl); (case hg => rfl); (case ho => rfl); (case hi => rfl); (case hx => rfl)) | (go_at_call 107; (with_reducible refine (num_twice _ _ _).mono ?_); rintro e_ w9 ⟨rfl, hb_⟩; have n0_ : Aside0 (Own w w9 [(gA, a, true), (gB, b, true), (gR, 0, false), (gN, (a * (b % 2 ^ k)), false), (gX, (a * 2 ^ k), true)]) := ⟨HO.out.call hb_⟩; clear HO hb_; have HO := n0_; clear n0_) | ((with_reducible refine gate_store (t := 137) (p := 6) (v := .tmp 21) rfl ?_); refine num_store ?hg (.tmp 6) (.tmp 21) ?ho HO.out 4 (g := gX) (m := (a * 2 ^ k)) (s := true) (m' := (2 * (a * 2 ^ k))) (s' := true) ?hi ?hx ?hy ?_; (case hg => rfl); (case ho => rfl); (case hi => rfl); (case hx => rfl); (case hy => rfl); intro w10 hO_; have n0_ : Aside0 (Own w w10 [(gA, a, true), (gB, b, true), (gR, 0, false), (gN, (a * (b % 2 ^ k)), false), (gX, (2 * (a * 2 ^ k)), true)]) := ⟨hO_⟩; clear HO hO_; have HO := n0_; clear n0_))
          go_roundg (gk - 1)
          case measure => have := HK.out; omega
          case rel => exact ⟨k + 1, by go_num, ⟨by have := HK.out; omega⟩, ⟨by have h := HO.out; rw [HE1.out, HE2.out] at h; exact h⟩⟩
      · have hd : decide ((k : Int) < 64) = false := decide_eq_false (by omega)
        have hk64 : k = 64 := by have := HK.out; omega
        have HE := Aside0.mk (show a * (b % 2 ^ k) = a * b by rw [hk64, Nat.mod_eq_of_lt HB64.out])
        clear hk64
        obtain ⟨X, hX⟩ : ∃ X, a * 2 ^ k = X := ⟨_, rfl⟩
        have n0_ : Aside0 (Own w wr [(gA, a, true), (gB, b, true), (gR, 0, false), (gN, P, false), (gX, X, true)]) := ⟨by have h := HO.out; rw [HE.out, hX, HP.out] at h; exact h⟩
        clear HO; have HO := n0_; clear n0_
        clear hX HE
        have z0_ := HO.out.neg 0 rfl
        have z1_ := HO.out.neg 1 rfl
        have zn_ := HO.out.neg 3 rfl
        have zf_ := HO.out.free 3 136 rfl
        go_upto_region 10 with (first | ((with_reducible refine gate_dst (N := 28) rfl ?_); (refine gate_guard (by rfl) ?_; dsimp only); refine num_load ?hg (N := 28) ?hd (.tmp 5) ?ho HO.out 3 (g := gN) (m := P) (s := false) ?hi ?hx ?_; (case hd => rfl); (case hg => rfl); (case ho => rfl); (case hi => rfl); (case hx => rfl)) | (go_at_call 108; (with_reducible refine (HN.out _).mono ?_); rintro e_ w11 ⟨rfl, hb_⟩; clear z0_ z1_ zn_ zf_; have n0_ : Aside0 (Own w w11 [(gA, a, true), (gB, b, true), (gR, 0, false), (gN, P, false), (gX, X, true)]) := ⟨HO.out.call hb_⟩; clear HO hb_; have HO := n0_; clear n0_; have z0_ := HO.out.neg 0 rfl; have z1_ := HO.out.neg 1 rfl; have zn_ := HO.out.neg 3 rfl; have zf_ := HO.out.free 3 136 rfl))
        refine num_abs (w0 := w) (l := [(gA, a, true), (gB, b, true), (gR, 0, false), (gN, P, false), (gX, X, true)]) (HO.out.sign 3 rfl _) ?_
        intro w12 hO_
        clear HO
        have HO := Aside0.mk hO_
        clear hO_
        clear z0_ z1_ zn_ zf_
        go_wp2_with (first | ((with_reducible refine gate_dst (N := 33) rfl ?_); refine num_load ?hg (N := 33) ?hd (.tmp 5) ?ho HO.out 3 (g := gN) (m := P) (s := false) ?hi ?hx ?_; (case hd => rfl); (case hg => rfl); (case ho => rfl); (case hi => rfl); (case hx => rfl)) | ((with_reducible refine gate_store (t := 137) (p := 4) (v := .tmp 33) rfl ?_); refine num_store ?hg (.tmp 4) (.tmp 33) ?ho HO.out 2 (g := gR) (m := 0) (s := false) (m' := P) (s' := false) ?hi ?hx ?hy ?_; (case hg => rfl); (case ho => rfl); (case hi => rfl); (case hx => rfl); (case hy => rfl); intro w13 hO_; have n0_ : Aside0 (Own w w13 [(gA, a, true), (gB, b, true), (gR, P, false), (gN, P, false), (gX, X, true)]) := ⟨hO_⟩; clear HO hO_; have HO := n0_; clear n0_))
        exact bodyPost_ret (num_result rfl HO.out 2 rfl _ rfl) rfl ⟨by first | rfl | simp, HO.out.below⟩

end Go.Proofs.Ytlihfiajbhpokaa.Ort
