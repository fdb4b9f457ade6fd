/- What a side gets of a volume, by its orders; no condition. -/
import Derived.Test.YtjjnbcaemognhaaZClrMathS
namespace Go.Proofs.Ytjjnbcaemognhaa.Clr.M
open Go.RowKit Go.Proofs.Ytjjnbcaemognhaa.Clr Go.Proofs.YtjjnbcaemognhaaW.PrintWords Go.Proofs.YtjjnbcaemognhaaW.PrintLast Go.Proofs.YtjjnbcaemognhaaW.PrintMore
set_option linter.unusedVariables false
set_option linter.unusedSimpArgs false
theorem rdO {l : List SO} {j : Nat} (h : j < l.length) : rd_T42 l (j : Int) = l[j] := by simp [rd_T42, List.getD, h]
theorem rdN {l : List Int} {j : Nat} (h : j < l.length) : rd l (j : Int) = l[j] := by simp [rd, List.getD, h]
theorem S_add {f : Int → Int} : ∀ (a b : Nat) (i : Int), S f i (a + b) = S f i a + S f (i + a) b
  | 0, b, i => by simp only [S, Nat.zero_add]; rw [show i + ((0 : Nat) : Int) = i by omega]; omega
  | a + 1, b, i => by
    rw [show a + 1 + b = (a + b) + 1 by omega, S, S, S_add a b (i + 1), show i + ((a + 1 : Nat) : Int) = i + 1 + a by omega]
    omega
theorem S_ge {f : Int → Int} : ∀ (n : Nat) (i : Int) (j : Int), (∀ x, i ≤ x → x < i + n → 0 ≤ f x) → i ≤ j → j < i + n → f j ≤ S f i n
  | 0, i, j, h, a, b => by omega
  | n + 1, i, j, h, a, b => by
    rw [S]
    have h0 := h i (by omega) (by omega)
    by_cases e : j = i
    · have := S_nonneg (f := f) (n := n) (i := i + 1) (fun x p q => h x (by omega) (by omega))
      rw [e]; omega
    · have := S_ge n (i + 1) j (fun x p q => h x (by omega) (by omega)) (by omega) (by omega)
      omega
theorem S_lt {f g : Int → Int} : ∀ (n : Nat) (i : Int) (j : Int), (∀ x, i ≤ x → x < i + n → f x ≤ g x) → i ≤ j → j < i + n → f j < g j → S f i n < S g i n
  | 0, i, j, h, a, b, c => by omega
  | n + 1, i, j, h, a, b, c => by
    rw [S, S]
    have h0 := h i (by omega) (by omega)
    by_cases e : j = i
    · have := S_mono (f := f) (g := g) (n := n) (i := i + 1) (fun x p q => h x (by omega) (by omega))
      rw [e] at c; omega
    · have := S_lt n (i + 1) j (fun x p q => h x (by omega) (by omega)) (by omega) (by omega) c
      omega
theorem S_mod {f : Int → Int} {lot : Int} : ∀ (n : Nat) (i : Int), (∀ x, i ≤ x → x < i + n → f x % lot = 0) → S f i n % lot = 0
  | 0, i, h => by simp [S]
  | n + 1, i, h => by
    rw [S]
    exact mod_add (h i (by omega) (by omega)) (S_mod n (i + 1) fun x p q => h x (by omega) (by omega))
theorem S_zero {f : Int → Int} {n : Nat} {i : Int} (h : ∀ x, i ≤ x → x < i + n → f x = 0) : S f i n = 0 := by
  have a := S_nonneg (f := f) (n := n) (i := i) (fun x p q => by rw [h x p q]; omega)
  have b := S_le (f := f) (B := 0) (n := n) (i := i) (fun x p q => by rw [h x p q]; omega)
  omega
theorem S_drop {o : List Int} : ∀ (m fr : Nat), fr + m ≤ o.length → S (rd o) fr m = sm ((o.drop fr).take m)
  | 0, fr, h => by simp [S, sm]
  | m + 1, fr, h => by
    have hf : fr < o.length := by omega
    rw [S, List.drop_eq_getElem_cons hf, List.take_succ_cons, sm, rdN hf]
    have := S_drop (o := o) m (fr + 1) (by omega)
    rw [← this]
    rfl
theorem subAll_eq : ∀ (xs : List Int) (v : Int), (∀ x ∈ xs, 0 ≤ x) → sm xs ≤ v → v ≤ 4611686018427387904 → subAll v xs = v - sm xs
  | [], v, _, _, _ => by simp [subAll, sm]
  | x :: xs, v, h, h1, h2 => by
    have h0 := h x (List.mem_cons_self ..)
    have hs : 0 ≤ sm xs := by
      have : ∀ ys : List Int, (∀ y ∈ ys, 0 ≤ y) → 0 ≤ sm ys := by
        intro ys
        induction ys with
        | nil => intro _; exact Int.le_refl _
        | cons y ys ih => intro q; rw [sm]; have := ih (fun z hz => q z (List.mem_cons_of_mem _ hz)); have := q y (List.mem_cons_self ..); omega
      exact this xs fun y hy => h y (List.mem_cons_of_mem _ hy)
    rw [sm] at h1
    rw [subAll, wid (x := v - x) (by omega) (by omega), subAll_eq xs (v - x) (fun y hy => h y (List.mem_cons_of_mem _ hy)) (by omega) (by omega), sm]
    omega
def wt (l : List SO) (side price j : Int) : Prop := (rd_T42 l j).f2 = side ∧ cr (rd_T42 l j) price = true
def ahd (s a b : Int) : Prop := (s = 1 → b ≤ a) ∧ (s = 2 → a ≤ b)
structure SInv (l : List SO) (side price lot V : Int) (fr : Nat) (vol : Int) (out : List Int) : Prop where
  len : out.length = l.length
  zero : ∀ j : Int, fr ≤ j → j < l.length → rd out j = 0
  bd : ∀ j : Int, 0 ≤ j → j < l.length → 0 ≤ rd out j ∧ rd out j ≤ qt l j
  cs : ∀ j : Int, 0 ≤ j → j < l.length → 0 < rd out j → wt l side price j
  ve : vol = V - S (rd out) 0 fr
  v0 : 0 ≤ vol
  vm : vol % lot = 0
  full : ∀ j : Int, 0 ≤ j → j < fr → wt l side price j → rd out j < qt l j → vol = 0
  pri : ∀ i j : Int, 0 ≤ i → i < fr → 0 ≤ j → j < fr → wt l side price i → rd out i < qt l i → 0 < rd out j → ahd side (rd_T42 l j).f3 (rd_T42 l i).f3
def Srtd (l : List SO) : Prop := ∀ i j : Int, 0 ≤ i → i ≤ j → j < l.length → ∀ s, (rd_T42 l i).f2 = s → (rd_T42 l j).f2 = s → ahd s (rd_T42 l i).f3 (rd_T42 l j).f3
theorem inv_of {l : List SO} {side price lot V vol : Int} {fr tt : Nat} {out o : List Int} {g : Int} (hV : V ≤ 4611686018427387904) (hso : Srtd l) (h : SInv l side price lot V fr vol out) (h1 : fr ≤ tt) (h2 : tt ≤ l.length) (hlen : o.length = l.length)
    (hsame : ∀ j : Int, fr ≤ j → j < tt → (rd_T42 l j).f3 = (rd_T42 l fr).f3)
    (hout : ∀ j : Int, 0 ≤ j → j < l.length → (j < fr ∨ tt ≤ j) → rd o j = rd out j)
    (hbd : ∀ j : Int, fr ≤ j → j < tt → 0 ≤ rd o j ∧ rd o j ≤ qt l j)
    (hcr : ∀ j : Int, fr ≤ j → j < tt → 0 < rd o j → wt l side price j)
    (hg : S (rd o) fr (tt - fr) = g) (hgv : g ≤ vol) (hgm : g % lot = 0)
    (hfull : ∀ j : Int, fr ≤ j → j < tt → wt l side price j → rd o j < qt l j → g = vol) : SInv l side price lot V tt (subAll vol ((o.drop fr).take (tt - fr))) o := by
  have hS0 : 0 ≤ S (rd out) 0 fr := S_nonneg fun j a b => (h.bd j a (by omega)).1
  have hv := h.ve
  have hSo : S (rd o) 0 fr = S (rd out) 0 fr := S_congr fun j a b => hout j a (by omega) (.inl (by omega))
  have hsum : S (rd o) 0 tt = S (rd out) 0 fr + g := by
    have := S_add (f := rd o) fr (tt - fr) 0
    rw [show fr + (tt - fr) = tt by omega, show (0 : Int) + fr = fr by omega, hg, hSo] at this
    exact this
  have hnn : ∀ x ∈ (o.drop fr).take (tt - fr), 0 ≤ x := by
    intro x hx
    obtain ⟨i, hi, e⟩ := List.getElem_of_mem hx
    simp only [List.length_take, List.length_drop] at hi
    have : x = rd o ((fr + i : Nat) : Int) := by
      rw [rdN (by omega), ← e]
      simp
    rw [this]
    exact (hbd _ (by omega) (by omega)).1
  have hsub : subAll vol ((o.drop fr).take (tt - fr)) = vol - g := by
    rw [subAll_eq _ _ hnn (by rw [← S_drop _ _ (by omega), hg]; exact hgv) (by omega), ← S_drop _ _ (by omega), hg]
  rw [hsub]
  refine ⟨hlen, ?_, ?_, ?_, ?_, by omega, mod_sub h.vm hgm, ?_, ?_⟩
  · intro j a b
    rw [hout j (by omega) b (.inr a)]
    exact h.zero j (by omega) b
  · intro j a b
    by_cases c : j < fr ∨ tt ≤ j
    · rw [hout j a b c]; exact h.bd j a b
    · exact hbd j (by omega) (by omega)
  · intro j a b p
    by_cases c : j < fr ∨ tt ≤ j
    · rw [hout j a b c] at p; exact h.cs j a b p
    · exact hcr j (by omega) (by omega) p
  · omega
  · intro j a b p q
    by_cases c : j < fr
    · rw [hout j a (by omega) (.inl c)] at q
      have := h.full j a c p q
      have g0 : 0 ≤ g := by rw [← hg]; exact S_nonneg fun x p q => (hbd x (by omega) (by omega)).1
      omega
    · have := hfull j (by omega) b p q
      omega
  · intro i j a b a' b' p q r
    by_cases c : i < fr
    · rw [hout i a (by omega) (.inl c)] at q
      by_cases c' : j < fr
      · rw [hout j a' (by omega) (.inl c')] at r
        exact h.pri i j a c a' c' p q r
      · have := h.full i a c p q
        have := S_ge (f := rd o) (tt - fr) fr j (fun x p q => (hbd x (by omega) (by omega)).1) (by omega) (by omega)
        omega
    · by_cases c' : j < fr
      · have hw : wt l side price j := by rw [hout j a' (by omega) (.inl c')] at r; exact h.cs j a' (by omega) r
        exact hso j i a' (by omega) (by omega) side hw.1 p.1
      · have e1 := hsame i (by omega) b
        have e2 := hsame j (by omega) b'
        rw [e1, e2]
        exact ⟨fun _ => Int.le_refl _, fun _ => Int.le_refl _⟩
theorem levN_same (l : List SO) (x : SO) : ∀ (k t j : Nat), t ≤ j → j < levN l x k t → ∃ h : j < l.length, sameL l[j] x = true
  | 0, t, j, a, b => by rw [levN] at b; omega
  | k + 1, t, j, a, b => by
    rw [levN] at b
    split at b
    · rename_i h
      split at b
      · rename_i hs
        by_cases e : j = t
        · subst e; exact ⟨h, hs⟩
        · exact levN_same l x k (t + 1) j (by omega) b
      · omega
    · omega
theorem total_ok {lot : Int} {l : List SO} (hg : Gd lot l) : ∀ (n : Nat) (i acc : Int), 0 ≤ i → i + n = l.length → 0 ≤ acc → acc ≤ 1099511627776 * i → ∀ k, n < k → share_Total.l0 k lot acc l (l.length : Int) i = some (acc + S (fun j => tr lot (qt l j)) i n)
  | 0, i, acc, h0, h1, h2, h3, k, hk => by
    obtain ⟨k, rfl⟩ : ∃ m, k = m + 1 := ⟨k - 1, by omega⟩
    rw [share_Total.l0, if_neg (by omega), S, Int.add_zero]
  | n + 1, i, acc, h0, h1, h2, h3, k, hk => by
    obtain ⟨k, rfl⟩ : ∃ m, k = m + 1 := ⟨k - 1, by omega⟩
    have hq := hg.2.2.2 i h0 (by omega)
    have ht := tr_range hg.1 hq.1
    have hn := hg.2.2.1
    have hf : (rd_T42 l i).f4 = qt l i := rfl
    rw [share_Total.l0, if_pos (by omega), if_pos h0, if_pos (by omega), hf, if_neg (by omega), if_neg (by omega), trim hg.1 hq.1 (by omega), Option.bind_some, wid (x := acc + tr lot (qt l i)) (by omega) (by omega), wid (x := i + 1) (by omega) (by omega),
      total_ok hg n (i + 1) (acc + tr lot (qt l i)) (by omega) (by omega) (by omega) (by omega) k (by omega), S, Int.add_assoc]
theorem total_is {lot : Int} {l : List SO} (hg : Gd lot l) {k : Nat} (hk : 80 ≤ k) : share_Total.f k l lot = some (S (fun j => tr lot (qt l j)) 0 l.length) := by
  obtain ⟨k, rfl⟩ : ∃ m, k = m + 1 := ⟨k - 1, by omega⟩
  have hn := hg.2.2.1
  have h1 := hg.1
  have h2 := hg.2.1
  rw [share_Total.f, if_neg (by omega), if_neg (by omega), decide_eq_false (by omega), share_Total.j0, if_neg (by decide), total_ok hg l.length 0 0 (by omega) (by omega) (by omega) (by omega) k (by omega), Int.zero_add]
theorem rd_app1 {a b : List Int} {j : Int} (h0 : 0 ≤ j) (h : j < a.length) : rd (a ++ b) j = rd a j := by
  have : j.toNat < a.length := by omega
  simp [rd, List.getD, List.getElem?_append_left this]
theorem rd_app2 {a b : List Int} {j : Int} (h : a.length ≤ j) : rd (a ++ b) j = rd b (j - a.length) := by
  have : a.length ≤ j.toNat := by omega
  have e : (j - a.length).toNat = j.toNat - a.length := by omega
  simp [rd, List.getD, List.getElem?_append_right this, e]
theorem rd_take {a : List Int} {n : Nat} {j : Int} (h0 : 0 ≤ j) (h : j < n) : rd (a.take n) j = rd a j := by
  have : j.toNat < n := by omega
  simp [rd, List.getD, List.getElem?_take, this]
theorem rd_drop {a : List Int} {n : Nat} {j : Int} (h0 : 0 ≤ j) : rd (a.drop n) j = rd a (j + n) := by
  have e : (j + n).toNat = n + j.toNat := by omega
  simp [rd, List.getD, List.getElem?_drop, e]
theorem rdT_mid {l : List SO} {fr tt : Nat} {j : Int} (h0 : 0 ≤ j) (h : j < (tt - fr : Nat)) (ht : tt ≤ l.length) : rd_T42 ((l.take tt).drop fr) j = rd_T42 l (j + fr) := by
  have e : (j + fr).toNat = fr + j.toNat := by omega
  have : fr + j.toNat < tt := by omega
  simp [rd_T42, List.getD, List.getElem?_drop, List.getElem?_take, e, this]
structure Nrm (l : List SO) (lot : Int) : Prop where
  n : l.length ≤ 64
  g : ∀ x ∈ l, gdO x
  so : Srtd l
  l0 : 1 ≤ lot
  l1 : lot ≤ 1099511627776
  lt : ∀ x ∈ l, x.f4 % lot = 0
theorem Nrm.at {l : List SO} {lot : Int} (h : Nrm l lot) {j : Int} (a : 0 ≤ j) (b : j < l.length) : gdO (rd_T42 l j) ∧ qt l j % lot = 0 ∧ rd_T42 l j ∈ l := by
  obtain ⟨i, rfl⟩ := Int.eq_ofNat_of_zero_le a
  have hi : i < l.length := by omega
  have e : rd_T42 l (i : Int) = l[i] := rdO hi
  have hm : rd_T42 l (i : Int) ∈ l := by rw [e]; exact List.getElem_mem hi
  exact ⟨h.g _ hm, h.lt _ hm, hm⟩
theorem tr_of {lot q : Int} (h : q % lot = 0) : tr lot q = q := by unfold tr; omega
theorem step {l : List SO} {lot : Int} (N : Nrm l lot) {side price V vol mode : Int} {fr tt : Nat} {out : List Int} (hV : V ≤ 4611686018427387904) (hmo : mode = 1 ∨ mode = 2) (h : SInv l side price lot V fr vol out) (hf : fr < l.length) (h1 : fr < tt) (h2 : tt ≤ l.length)
    (hsame : ∀ j : Int, fr ≤ j → j < tt → (rd_T42 l j).f2 = (rd_T42 l fr).f2 ∧ (rd_T42 l j).f3 = (rd_T42 l fr).f3) :
    ∃ o, (∀ k, 100 ≤ k → sideOut k l side price mode lot vol fr tt l[fr] out = some o) ∧ SInv l side price lot V tt (subAll vol ((o.drop fr).take (tt - fr))) o := by
  have hS0 : 0 ≤ S (rd out) 0 fr := S_nonneg fun j a b => (h.bd j a (by omega)).1
  have hv := h.ve
  have v0 := h.v0
  have vm := h.vm
  have e0 : rd_T42 l (fr : Int) = l[fr] := rdO hf
  have hsm : ∀ j : Int, fr ≤ j → j < tt → (rd_T42 l j).f3 = (rd_T42 l fr).f3 := fun j a b => (hsame j a b).2
  have hcrs : ∀ j : Int, fr ≤ j → j < tt → cr (rd_T42 l j) price = cr (rd_T42 l fr) price := by
    intro j a b
    have := hsame j a b
    unfold cr
    rw [this.1, this.2]
  have z : ∀ j : Int, fr ≤ j → j < tt → rd out j = 0 := fun j a b => h.zero j a (by omega)
  have hq : ∀ j : Int, 0 ≤ j → j < l.length → 1 ≤ qt l j ∧ qt l j ≤ 1099511627776 := by
    intro j a b
    have := (N.at a b).1
    unfold gdO at this
    exact ⟨this.2.2.2.1, this.2.2.2.2⟩
  by_cases c : l[fr].f2 = side ∧ cr l[fr] price = true
  · have hw : ∀ j : Int, fr ≤ j → j < tt → wt l side price j := by
      intro j a b
      refine ⟨by rw [(hsame j a b).1, e0]; exact c.1, by rw [hcrs j a b, e0]; exact c.2⟩
    obtain ⟨lev, hlev⟩ : ∃ lev, (l.take tt).drop fr = lev := ⟨_, rfl⟩
    have hll : lev.length = tt - fr := by rw [← hlev]; simp; omega
    have hql : ∀ j : Int, 0 ≤ j → j < lev.length → qt lev j = qt l (j + fr) := by
      intro j a b
      unfold qt
      rw [← hlev, rdT_mid a (by omega) h2]
    have hn := N.n
    have hG : Gd lot lev := ⟨N.l0, N.l1, by omega, fun j a b => by rw [hql j a b]; have := hq (j + fr) (by omega) (by omega); omega⟩
    obtain ⟨tot, r, hk, ht0, _, hs⟩ := share mode lev vol lot (by omega)
    have hshare : ∀ k, 100 ≤ k → sideOut k l side price mode lot vol fr tt l[fr] out = some (out.take fr ++ r.take (tt - fr) ++ out.drop (fr + Nat.min r.length (tt - fr))) := by
      intro k hk'
      rw [sideOut, if_pos c, hlev, (hk k hk').2]
      rfl
    have htt : tot = S (fun j => tr lot (qt lev j)) 0 lev.length := by
      have := total_is hG (k := 100) (by omega)
      rw [(hk 100 (by omega)).1] at this
      exact Option.some.inj this
    have htq : ∀ j : Int, 0 ≤ j → j < lev.length → tr lot (qt lev j) = qt lev j := fun j a b => tr_of (by rw [hql j a b]; exact (N.at (by omega) (by omega)).2.1)
    have htt2 : tot = S (qt lev) 0 lev.length := by rw [htt]; exact S_congr fun j a b => htq j a (by omega)
    rcases hs with ⟨hr, hz⟩ | ok
    · 
      have tp : 0 < tot := by
        rw [htt2]
        have a := S_ge (f := qt lev) lev.length 0 0 (fun x p q => by rw [hql x p (by omega)]; have := hq (x + fr) (by omega) (by omega); omega) (by omega) (by omega)
        have b := hq fr (by omega) (by omega)
        rw [hql 0 (by omega) (by omega), Int.zero_add] at a
        omega
      have vz : vol = 0 := by omega
      refine ⟨out, fun k hk' => ?_, ?_⟩
      · rw [hshare k hk', hr]
        refine congrArg some ?_
        show out.take fr ++ [].take (tt - fr) ++ out.drop (fr + Nat.min 0 (tt - fr)) = out
        rw [show Nat.min 0 (tt - fr) = 0 from Nat.zero_min _]
        simp
      · exact inv_of hV N.so h (by omega) h2 h.len hsm (fun _ _ _ _ => rfl) (fun j a b => h.bd j (by omega) (by omega)) (fun j a b p => h.cs j (by omega) (by omega) p) (g := 0) (S_zero fun x a b => z x a (by omega)) (by omega) (by simp) (fun j a b p q => by omega)
    · have hrl : r.length = tt - fr := by rw [ok.len, hll]
      have hlo := h.len
      have ho : out.take fr ++ r.take (tt - fr) ++ out.drop (fr + Nat.min r.length (tt - fr)) = out.take fr ++ r ++ out.drop tt := by
        rw [List.take_of_length_le (show r.length ≤ tt - fr by omega), hrl, show Nat.min (tt - fr) (tt - fr) = tt - fr from Nat.min_self _, show fr + (tt - fr) = tt by omega]
      obtain ⟨o, hoo⟩ : ∃ o, out.take fr ++ r ++ out.drop tt = o := ⟨_, rfl⟩
      have hol : o.length = l.length := by rw [← hoo]; simp; omega
      have r1 : ∀ j : Int, 0 ≤ j → j < fr → rd o j = rd out j := by
        intro j a b
        rw [← hoo, rd_app1 a (by simp; omega), rd_app1 a (by simp; omega), rd_take a b]
      have r2 : ∀ j : Int, fr ≤ j → j < tt → rd o j = rd r (j - fr) := by
        intro j a b
        have e1 : (out.take fr).length = fr := by simp; omega
        rw [← hoo, rd_app1 (by omega) (by simp; omega), rd_app2 (by rw [e1]; exact a), e1]
      have r3 : ∀ j : Int, tt ≤ j → rd o j = rd out j := by
        intro j a
        have e1 : (out.take fr ++ r).length = tt := by simp; omega
        rw [← hoo, rd_app2 (by rw [e1]; exact a), e1, rd_drop (by omega)]
        congr 1; omega
      have hsum : S (rd o) fr (tt - fr) = mn vol tot := by
        have e1 : ∀ (n : Nat) (i : Int), 0 ≤ i → i + n ≤ (tt - fr : Nat) → S (rd o) (fr + i) n = S (rd r) i n := by
          intro n
          induction n with
          | zero => intro i _ _; rfl
          | succ n ih =>
            intro i a b
            rw [S, S, r2 (fr + i) (by omega) (by omega), show (fr : Int) + i - fr = i by omega, show (fr : Int) + i + 1 = fr + (i + 1) by omega, ih (i + 1) (by omega) (by omega)]
        have e2 := e1 (tt - fr) 0 (by omega) (by omega)
        have e3 := ok.sum
        rw [hll, tr_of vm] at e3
        rw [Int.add_zero] at e2
        rw [e2, e3]
      have hb : ∀ j : Int, fr ≤ j → j < tt → 0 ≤ rd o j ∧ rd o j ≤ qt l j ∧ rd o j % lot = 0 := by
        intro j a b
        have := ok.bd (j - fr) (by omega) (by omega)
        rw [htq (j - fr) (by omega) (by omega), hql (j - fr) (by omega) (by omega), show j - fr + fr = j by omega] at this
        rw [r2 j a b]
        exact this
      refine ⟨o, fun k hk' => by rw [hshare k hk', ho, hoo], ?_⟩
      have hmn : mn vol tot ≤ vol := by unfold mn; split <;> omega
      refine inv_of hV N.so h (by omega) h2 hol hsm (fun j a b d => ?_) (fun j a b => ⟨(hb j a b).1, (hb j a b).2.1⟩) (fun j a b p => hw j a b) hsum hmn ?_ ?_
      · rcases d with d | d
        · exact r1 j a d
        · exact r3 j d
      · rw [← hsum]; exact S_mod _ _ fun x a b => (hb x a (by omega)).2.2
      · intro j a b _ q
        have : S (rd o) fr (tt - fr) < tot := by
          rw [htt2, hll]
          have e1 : ∀ (n : Nat) (i : Int), 0 ≤ i → i + n ≤ (tt - fr : Nat) → S (qt l) (fr + i) n = S (qt lev) i n := by
            intro n
            induction n with
            | zero => intro i _ _; rfl
            | succ n ih =>
              intro i a b
              rw [S, S, hql i a (by omega), show i + (fr : Int) = fr + i by omega, show (fr : Int) + i + 1 = fr + (i + 1) by omega, ih (i + 1) (by omega) (by omega)]
          have e2 := e1 (tt - fr) 0 (by omega) (by omega)
          rw [Int.add_zero] at e2
          rw [← e2]
          exact S_lt (tt - fr) fr j (fun x p q => (hb x p (by omega)).2.1) a (by omega) q
        rw [hsum] at this
        unfold mn at this ⊢
        split at this
        · omega
        · rename_i c'; rw [if_neg c']
  · refine ⟨out, fun k hk => by rw [sideOut, if_neg c], ?_⟩
    have hnw : ∀ j : Int, fr ≤ j → j < tt → ¬ wt l side price j := by
      intro j a b q
      refine c ⟨?_, ?_⟩
      · rw [← e0, ← (hsame j a b).1]; exact q.1
      · rw [← e0, ← hcrs j a b]; exact q.2
    exact inv_of hV N.so h (by omega) h2 h.len hsm (fun _ _ _ _ => rfl) (fun j a b => h.bd j (by omega) (by omega)) (fun j a b p => h.cs j (by omega) (by omega) p) (g := 0) (S_zero fun x a b => z x a (by omega)) v0 (by simp) (fun j a b p q => absurd p (hnw j a b))
theorem go {l : List SO} {lot : Int} (N : Nrm l lot) {side price V mode : Int} (hV : V ≤ 4611686018427387904) (hmo : mode = 1 ∨ mode = 2) : ∀ (m fr : Nat) (vol : Int) (out : List Int), l.length < fr + m → fr ≤ l.length → SInv l side price lot V fr vol out →
    ∃ r vol', (∀ k, 100 ≤ k → sideGo k l side price mode lot m fr vol out = some r) ∧ SInv l side price lot V l.length vol' r
  | 0, fr, vol, out, h, hf, I => by omega
  | m + 1, fr, vol, out, h, hf, I => by
    by_cases c : fr < l.length
    · have h1 := levN_gt l fr c
      have h2 := (levN_range l l[fr] l.length fr).2 hf
      obtain ⟨tt, ht⟩ : ∃ t, levN l l[fr] l.length fr = t := ⟨_, rfl⟩
      have hs := levN_same l l[fr] l.length fr
      rw [ht] at h1 h2 hs
      obtain ⟨o, ho, I'⟩ := step N hV hmo I c h1 h2 (fun j a b => by
        obtain ⟨i, rfl⟩ := Int.eq_ofNat_of_zero_le (show 0 ≤ j by omega)
        obtain ⟨hi, e⟩ := hs i (by omega) (by omega)
        rw [rdO hi, rdO c]
        exact of_decide_eq_true e)
      obtain ⟨r, vol', hr, I''⟩ := go N hV hmo m tt _ o (by omega) h2 I'
      refine ⟨r, vol', fun k hk => ?_, I''⟩
      rw [sideGo, dif_pos c, ht, ho k hk, Option.bind_some]
      exact hr k hk
    · obtain rfl : fr = l.length := by omega
      exact ⟨out, vol, fun k hk => by rw [sideGo, dif_neg c], I⟩
theorem sumP_S (s p : Int) : ∀ (R A : List SO), sumP s p R = S (fun j => if (rd_T42 (A ++ R) j).f2 = s ∧ cr (rd_T42 (A ++ R) j) p = true then qt (A ++ R) j else 0) A.length R.length
  | [], A => rfl
  | x :: R, A => by
    have e : rd_T42 (A ++ x :: R) (A.length : Int) = x := by simp [rd_T42]
    have ih := sumP_S s p R (A ++ [x])
    rw [List.append_assoc, List.singleton_append] at ih
    rw [sumP, List.length_cons, S]
    simp only [qt] at ih ⊢
    rw [e, ih, List.length_append, List.length_singleton]
    rfl
structure SideOk (l : List SO) (side price V : Int) (r : List Int) : Prop where
  len : r.length = l.length
  bd : ∀ j : Int, 0 ≤ j → j < l.length → 0 ≤ rd r j ∧ rd r j ≤ qt l j
  cs : ∀ j : Int, 0 ≤ j → j < l.length → 0 < rd r j → wt l side price j
  sum : S (rd r) 0 l.length = V
  pri : ∀ i j : Int, 0 ≤ i → i < l.length → 0 ≤ j → j < l.length → (rd_T42 l i).f2 = side → rd r i < qt l i → 0 < rd r j → ahd side (rd_T42 l j).f3 (rd_T42 l i).f3
theorem side_ok {l : List SO} {lot : Int} (N : Nrm l lot) {side price V mode : Int} (hs : side = 1 ∨ side = 2) (hV0 : 1 ≤ V) (hV : V ≤ 4611686018427387904) (hmo : mode = 1 ∨ mode = 2) (hlo : V % lot = 0) (hle : V ≤ sumP side price l) (hbk : order_Book.f l = some true) :
    ∃ r, (∀ k, 100 ≤ k → call_Side.f k l side price V mode lot = some r) ∧ SideOk l side price V r := by
  have hz : ∀ j : Int, rd (List.replicate l.length 0) j = 0 := fun j => rd_rep
  have hq : ∀ j : Int, 0 ≤ j → j < l.length → 1 ≤ qt l j := by
    intro j a b
    have := (N.at a b).1
    unfold gdO at this
    exact this.2.2.2.1
  have I0 : SInv l side price lot V 0 V (List.replicate l.length 0) := ⟨by simp, fun j _ _ => hz j, fun j a b => by rw [hz]; have := hq j a b; omega, fun j a b p => by rw [hz] at p; omega, by simp [S], by omega, hlo, fun j a b => by omega, fun i j a b => by omega⟩
  obtain ⟨r, vol, hr, I⟩ := go N hV hmo (l.length + 1) 0 V _ (by omega) (by omega) I0
  have l0 := N.l0
  have l1 := N.l1
  refine ⟨r, fun k hk => ?_, ?_⟩
  · rw [call_Side.f, hbk, Option.bind_some, if_pos ⟨rfl, ⟨hV0, hV⟩, ⟨l0, l1⟩, hmo⟩]
    exact hr k hk
  · have hv := I.ve
    have v0 := I.v0
    have hvz : vol = 0 := by
      refine Classical.byContradiction fun hne => ?_
      have e : S (rd r) 0 l.length = sumP side price l := by
        have := sumP_S side price l []
        rw [this]
        refine S_congr fun j a b => ?_
        show rd r j = if (rd_T42 l j).f2 = side ∧ cr (rd_T42 l j) price = true then qt l j else 0
        have hb := I.bd j a (by omega)
        by_cases w : (rd_T42 l j).f2 = side ∧ cr (rd_T42 l j) price = true
        · rw [if_pos w]
          have := I.full j a (by omega) w
          refine Classical.byContradiction fun q => hne (this (by omega))
        · rw [if_neg w]
          refine Classical.byContradiction fun q => w (I.cs j a (by omega) (by omega))
      omega
    refine ⟨I.len, I.bd, I.cs, by omega, ?_⟩
    intro i j a b a' b' p q r'
    have wj := I.cs j a' b' r'
    by_cases w : wt l side price i
    · exact I.pri i j a b a' b' w q r'
    · have c1 : ¬ cr (rd_T42 l i) price = true := fun c => w ⟨p, c⟩
      have c2 := wj.2
      have c3 := wj.1
      unfold cr at c1 c2
      rw [decide_eq_true_eq] at c1 c2
      refine ⟨fun e => ?_, fun e => ?_⟩ <;> omega
end Go.Proofs.Ytjjnbcaemognhaa.Clr.M
