/- All deals, by their orders; no condition. -/
import Derived.Test.YtjjnbcaemognhaaZClrMathU
namespace Go.Proofs.Ytjjnbcaemognhaa.Clr.M
open Go.RowKit Go.Proofs.Ytjjnbcaemognhaa.Clr Go.Proofs.YtjjnbcaemognhaaW.PrintWords Go.Proofs.YtjjnbcaemognhaaW.PrintLast Go.Proofs.YtjjnbcaemognhaaW.PrintMore
set_option linter.unusedVariables false
set_option linter.unusedSimpArgs false
def tk0 (o : SO) : List S44 → Int
  | [] => 0
  | x :: D => (if x.f0 = o then x.f2 else 0) + tk0 o D
def tk1 (o : SO) : List S44 → Int
  | [] => 0
  | x :: D => (if x.f1 = o then x.f2 else 0) + tk1 o D
def sq : List S44 → Int
  | [] => 0
  | x :: D => x.f2 + sq D
structure DealOk (l : List SO) (B C : List Int) (D : List S44) : Prop where
  mem : ∀ x ∈ D, ∃ i j : Int, (0 ≤ i ∧ i < l.length) ∧ (0 ≤ j ∧ j < l.length) ∧ x.f0 = rd_T42 l i ∧ x.f1 = rd_T42 l j ∧ 1 ≤ x.f2 ∧ 0 < rd B i ∧ 0 < rd C j
  buy : ∀ i : Int, 0 ≤ i → i < l.length → tk0 (rd_T42 l i) D = rd B i
  sell : ∀ i : Int, 0 ≤ i → i < l.length → tk1 (rd_T42 l i) D = rd C i
  all : sq D = S (rd B) 0 l.length
def Uniq (l : List SO) : Prop := ∀ i j : Int, 0 ≤ i → i < l.length → 0 ≤ j → j < l.length → rd_T42 l i = rd_T42 l j → i = j
theorem S_upd {f g : Int → Int} : ∀ (n : Nat) (a i : Int), a ≤ i → i < a + n → (∀ x, a ≤ x → x < a + n → x ≠ i → f x = g x) → S f a n = S g a n + (f i - g i)
  | 0, a, i, h0, h1, h => by omega
  | n + 1, a, i, h0, h1, h => by
    rw [S, S]
    by_cases e : i = a
    · subst e
      have := S_congr (f := f) (g := g) (n := n) (i := i + 1) (fun x p q => h x (by omega) (by omega) (by omega))
      omega
    · have := S_upd n (a + 1) i (by omega) (by omega) (fun x p q r => h x (by omega) (by omega) r)
      have := h a (by omega) (by omega) (by omega)
      omega
theorem deal_cons {l : List SO} (U : Uniq l) {B C : List Int} {D : List S44} {i j q : Int} (hB : B.length = l.length) (hC : C.length = l.length) (i0 : 0 ≤ i) (i1 : i < l.length) (j0 : 0 ≤ j) (j1 : j < l.length) (q1 : 1 ≤ q) (qb : q ≤ rd B i) (qc : q ≤ rd C j)
    (h : DealOk l (B.set i.toNat (rd B i - q)) (C.set j.toNat (rd C j - q)) D) : DealOk l B C (⟨rd_T42 l i, rd_T42 l j, q⟩ :: D) := by
  have b1 : rd (B.set i.toNat (rd B i - q)) i = rd B i - q := rd_set_eq i0 (by omega)
  have b2 : ∀ x : Int, 0 ≤ x → x ≠ i → rd (B.set i.toNat (rd B i - q)) x = rd B x := fun x a b => rd_set_ne i0 a b
  have c1 : rd (C.set j.toNat (rd C j - q)) j = rd C j - q := rd_set_eq j0 (by omega)
  have c2 : ∀ x : Int, 0 ≤ x → x ≠ j → rd (C.set j.toNat (rd C j - q)) x = rd C x := fun x a b => rd_set_ne j0 a b
  refine ⟨fun x hx => ?_, fun a a0 a1 => ?_, fun a a0 a1 => ?_, ?_⟩
  · rcases List.mem_cons.1 hx with rfl | hx
    · exact ⟨i, j, ⟨i0, i1⟩, ⟨j0, j1⟩, rfl, rfl, q1, by omega, by omega⟩
    · obtain ⟨a, b, ha, hb, e1, e2, e3, e4, e5⟩ := h.mem x hx
      refine ⟨a, b, ha, hb, e1, e2, e3, ?_, ?_⟩
      · by_cases e : a = i
        · subst e; omega
        · rw [b2 a ha.1 e] at e4; exact e4
      · by_cases e : b = j
        · subst e; omega
        · rw [c2 b hb.1 e] at e5; exact e5
  · rw [tk0, h.buy a a0 a1]
    show (if rd_T42 l i = rd_T42 l a then q else 0) + _ = _
    by_cases e : a = i
    · subst e; rw [if_pos rfl, b1]; omega
    · rw [if_neg (fun u => e (U i a i0 i1 a0 a1 u).symm), b2 a a0 e]; omega
  · rw [tk1, h.sell a a0 a1]
    show (if rd_T42 l j = rd_T42 l a then q else 0) + _ = _
    by_cases e : a = j
    · subst e; rw [if_pos rfl, c1]; omega
    · rw [if_neg (fun u => e (U j a j0 j1 a0 a1 u).symm), c2 a a0 e]; omega
  · rw [sq, h.all]
    have := S_upd (f := rd (B.set i.toNat (rd B i - q))) (g := rd B) l.length 0 i i0 (by omega) (fun x p _ r => b2 x p r)
    rw [this, b1]
    show q + _ = _
    omega
theorem dstep1 (l : List SO) (out : List S44) (B C : List Int) (i j : Int) (k : Nat) (i0 : 0 ≤ i) (i1 : i < B.length) (j0 : 0 ≤ j) (j1 : j < C.length) (hb : rd B i = 0) (hn : B.length ≤ 1000) : call_Deals.l0 (k + 2) l out B C i j = call_Deals.l0 k l out B C (i + 1) j := by
  rw [call_Deals.l0, if_pos i1, decide_eq_true j1, call_Deals.j1, if_pos rfl, if_pos i0, if_pos i1, if_pos j0, if_pos j1, if_pos hb, wid (x := i + 1) (by omega) (by omega)]
theorem dstep2 (l : List SO) (out : List S44) (B C : List Int) (i j : Int) (k : Nat) (i0 : 0 ≤ i) (i1 : i < B.length) (j0 : 0 ≤ j) (j1 : j < C.length) (hb : ¬ rd B i = 0) (hc : rd C j = 0) (hn : C.length ≤ 1000) : call_Deals.l0 (k + 2) l out B C i j = call_Deals.l0 k l out B C i (j + 1) := by
  rw [call_Deals.l0, if_pos i1, decide_eq_true j1, call_Deals.j1, if_pos rfl, if_pos i0, if_pos i1, if_pos j0, if_pos j1, if_neg hb, if_pos hc, wid (x := j + 1) (by omega) (by omega)]
theorem dstep3 (l : List SO) (out : List S44) (B C : List Int) (i j : Int) (k : Nat) (i0 : 0 ≤ i) (i1 : i < B.length) (j0 : 0 ≤ j) (j1 : j < C.length) (hb : 1 ≤ rd B i) (hc : 1 ≤ rd C j) (hb2 : rd B i ≤ 1099511627776) (hc2 : rd C j ≤ 1099511627776) (hB : B.length = l.length) (hC : C.length = l.length) (ho : out.length ≤ 1000) :
    call_Deals.l0 (k + 2) l out B C i j = call_Deals.l0 k l (out ++ [⟨rd_T42 l i, rd_T42 l j, mn (rd B i) (rd C j)⟩]) (B.set i.toNat (rd B i - mn (rd B i) (rd C j))) (C.set j.toNat (rd C j - mn (rd B i) (rd C j))) i j := by
  have hm := mn_le (rd B i) (rd C j)
  rw [call_Deals.l0, if_pos i1, decide_eq_true j1, call_Deals.j1, if_pos rfl, if_pos i0, if_pos i1, if_pos j0, if_pos j1, if_neg (by omega), if_neg (by omega), if_pos (by omega), if_pos (by omega), if_pos (by omega), wid (x := rd B i - mn (rd B i) (rd C j)) (by omega) (by omega), wid (x := rd C j - mn (rd B i) (rd C j)) (by omega) (by omega)]
def Lo (l : List SO) (i : Int) (B : List Int) : Prop := B.length = l.length ∧ (∀ x : Int, 0 ≤ x → x < l.length → 0 ≤ rd B x ∧ rd B x ≤ 1099511627776) ∧ ∀ x : Int, 0 ≤ x → x < i → rd B x = 0
theorem Lo.next {l : List SO} {i : Int} {B : List Int} (h : Lo l i B) (hz : rd B i = 0) : Lo l (i + 1) B := ⟨h.1, h.2.1, fun x a b => by
  by_cases e : x = i
  · rw [e]; exact hz
  · exact h.2.2 x a (by omega)⟩
theorem Lo.set {l : List SO} {i q : Int} {B : List Int} (h : Lo l i B) (i0 : 0 ≤ i) (i1 : i < l.length) (q0 : 0 ≤ q) (q1 : q ≤ rd B i) : Lo l i (B.set i.toNat (rd B i - q)) := by
  have hl := h.1
  refine ⟨by simp [hl], fun x a b => ?_, fun x a b => ?_⟩
  · by_cases e : x = i
    · rw [e, rd_set_eq i0 (by omega)]
      have := h.2.1 i i0 i1
      omega
    · rw [rd_set_ne i0 a e]; exact h.2.1 x a b
  · rw [rd_set_ne i0 a (by omega)]; exact h.2.2 x a b
theorem Lo.zero {l : List SO} {i : Int} {B : List Int} (h : Lo l i B) (hz : S (rd B) 0 l.length = 0) : ∀ x : Int, 0 ≤ x → x < l.length → rd B x = 0 := by
  intro x a b
  have := S_ge (f := rd B) l.length 0 x (fun y p q => (h.2.1 y p (by omega)).1) a (by omega)
  have := (h.2.1 x a b).1
  omega
theorem deal_nil {l : List SO} {i j : Int} {B C : List Int} (hB : Lo l i B) (hC : Lo l j C) (hs : S (rd B) 0 l.length = S (rd C) 0 l.length) (h : (l.length : Int) ≤ i ∨ (l.length : Int) ≤ j) : DealOk l B C [] := by
  have hz : S (rd B) 0 l.length = 0 := by
    rcases h with h | h
    · exact S_zero fun x a b => hB.2.2 x a (by omega)
    · rw [hs]; exact S_zero fun x a b => hC.2.2 x a (by omega)
  have b := hB.zero hz
  have c := hC.zero (hs ▸ hz)
  exact ⟨fun x hx => (nomatch hx), fun x p q => (b x p q).symm, fun x p q => (c x p q).symm, hz.symm⟩
theorem deals_go {l : List SO} (U : Uniq l) (hn : l.length ≤ 64) : ∀ (m : Nat) (i j : Int) (B C : List Int) (out : List S44), 0 ≤ i → i ≤ l.length → 0 ≤ j → j ≤ l.length → (l.length - i) + (l.length - j) ≤ m → out.length + m ≤ 900 → Lo l i B → Lo l j C → S (rd B) 0 l.length = S (rd C) 0 l.length →
    ∃ D, (∀ k, 4 * m + 2 ≤ k → call_Deals.l0 k l out B C i j = some (out ++ D)) ∧ DealOk l B C D ∧ D.length ≤ m
  | m, i, j, B, C, out, i0, i1, j0, j1, hm, ho, hB, hC, hs => by
    have lb := hB.1
    have lc := hC.1
    by_cases c : i < l.length ∧ j < l.length
    · obtain ⟨m, rfl⟩ : ∃ m', m = m' + 1 := ⟨m - 1, by omega⟩
      by_cases c1 : rd B i = 0
      · obtain ⟨D, hD, ok, hdl⟩ := deals_go U hn m (i + 1) j B C out (by omega) (by omega) j0 j1 (by omega) (by omega) (hB.next c1) hC hs
        refine ⟨D, fun k hk => ?_, ok, by omega⟩
        obtain ⟨k, rfl⟩ : ∃ k', k = k' + 2 := ⟨k - 2, by omega⟩
        rw [dstep1 l out B C i j k i0 (by omega) j0 (by omega) c1 (by omega)]
        exact hD k (by omega)
      · by_cases c2 : rd C j = 0
        · obtain ⟨D, hD, ok, hdl⟩ := deals_go U hn m i (j + 1) B C out i0 i1 (by omega) (by omega) (by omega) (by omega) hB (hC.next c2) hs
          refine ⟨D, fun k hk => ?_, ok, by omega⟩
          obtain ⟨k, rfl⟩ : ∃ k', k = k' + 2 := ⟨k - 2, by omega⟩
          rw [dstep2 l out B C i j k i0 (by omega) j0 (by omega) c1 c2 (by omega)]
          exact hD k (by omega)
        · have b1 := hB.2.1 i i0 c.1
          have b2 := hC.2.1 j j0 c.2
          have hq := mn_le (rd B i) (rd C j)
          obtain ⟨q, hqe⟩ : ∃ q, mn (rd B i) (rd C j) = q := ⟨_, rfl⟩
          rw [hqe] at hq
          have hB' := hB.set (q := q) i0 c.1 (by omega) (by omega)
          have hC' := hC.set (q := q) j0 c.2 (by omega) (by omega)
          have e1 : rd (B.set i.toNat (rd B i - q)) i = rd B i - q := rd_set_eq i0 (by omega)
          have e2 : rd (C.set j.toNat (rd C j - q)) j = rd C j - q := rd_set_eq j0 (by omega)
          have s1 := S_upd (f := rd (B.set i.toNat (rd B i - q))) (g := rd B) l.length 0 i i0 (by omega) (fun x p _ r => rd_set_ne i0 p r)
          have s2 := S_upd (f := rd (C.set j.toNat (rd C j - q))) (g := rd C) l.length 0 j j0 (by omega) (fun x p _ r => rd_set_ne j0 p r)
          have hs' : S (rd (B.set i.toNat (rd B i - q))) 0 l.length = S (rd (C.set j.toNat (rd C j - q))) 0 l.length := by rw [s1, s2, e1, e2]; omega
          have hst : ∀ k, call_Deals.l0 (k + 2) l out B C i j = call_Deals.l0 k l (out ++ [⟨rd_T42 l i, rd_T42 l j, q⟩]) (B.set i.toNat (rd B i - q)) (C.set j.toNat (rd C j - q)) i j := fun k => by
            have := dstep3 l out B C i j k i0 (by omega) j0 (by omega) (by omega) (by omega) b1.2 b2.2 lb lc (by omega)
            rw [hqe] at this
            exact this
          have hlen : (out ++ [(⟨rd_T42 l i, rd_T42 l j, q⟩ : S44)]).length = out.length + 1 := by simp
          by_cases c3 : rd B i - q = 0
          · obtain ⟨D, hD, ok, hdl⟩ := deals_go U hn m (i + 1) j _ _ (out ++ [⟨rd_T42 l i, rd_T42 l j, q⟩]) (by omega) (by omega) j0 j1 (by omega) (by omega) (hB'.next (by rw [e1]; exact c3)) hC' hs'
            refine ⟨⟨rd_T42 l i, rd_T42 l j, q⟩ :: D, fun k hk => ?_, deal_cons U lb lc i0 c.1 j0 c.2 (by omega) (by omega) (by omega) ok, by simp; omega⟩
            obtain ⟨k, rfl⟩ : ∃ k', k = k' + 2 + 2 := ⟨k - 4, by omega⟩
            rw [hst, dstep1 l _ _ _ i j k i0 (by rw [hB'.1]; exact c.1) j0 (by rw [hC'.1]; exact c.2) (by rw [e1]; exact c3) (by rw [hB'.1]; omega), hD k (by omega)]
            simp
          · have c4 : rd C j - q = 0 := by omega
            obtain ⟨D, hD, ok, hdl⟩ := deals_go U hn m i (j + 1) _ _ (out ++ [⟨rd_T42 l i, rd_T42 l j, q⟩]) i0 i1 (by omega) (by omega) (by omega) (by omega) hB' (hC'.next (by rw [e2]; exact c4)) hs'
            refine ⟨⟨rd_T42 l i, rd_T42 l j, q⟩ :: D, fun k hk => ?_, deal_cons U lb lc i0 c.1 j0 c.2 (by omega) (by omega) (by omega) ok, by simp; omega⟩
            obtain ⟨k, rfl⟩ : ∃ k', k = k' + 2 + 2 := ⟨k - 4, by omega⟩
            rw [hst, dstep2 l _ _ _ i j k i0 (by rw [hB'.1]; exact c.1) j0 (by rw [hC'.1]; exact c.2) (by rw [e1]; exact c3) (by rw [e2]; exact c4) (by rw [hC'.1]; omega), hD k (by omega)]
            simp
    · refine ⟨[], fun k hk => ?_, deal_nil hB hC hs (by omega), by simp⟩
      obtain ⟨k, rfl⟩ : ∃ k', k = k' + 2 := ⟨k - 2, by omega⟩
      rw [List.append_nil, call_Deals.l0]
      by_cases c1 : i < B.length
      · rw [if_pos c1, decide_eq_false (by omega), call_Deals.j1, if_neg (by decide)]
      · rw [if_neg c1, call_Deals.j1, if_neg (by decide)]
end Go.Proofs.Ytjjnbcaemognhaa.Clr.M
