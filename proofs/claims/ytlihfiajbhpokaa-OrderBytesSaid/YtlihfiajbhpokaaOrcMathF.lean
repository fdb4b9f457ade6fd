/- What is written is read as it was. -/
import Derived.Test.YtlihfiajbhpokaaOrcx
import Derived.Test.YtlihfiajbhpokaaOrcMathE
namespace Go.Proofs.Ytlihfiajbhpokaa.Orc.M
open Go.RowKit Go.Proofs.Ytlihfiajbhpokaa.Orc Go.Proofs.YtlihfiajbhpokaaW.PrintWords Go.Proofs.YtlihfiajbhpokaaW.PrintLast
set_option linter.unusedVariables false
set_option linter.unusedSimpArgs false
theorem bit_ge (y : Int) (h0 : 1 ≤ y) (h1 : y < 128) : 1 ≤ Lib.bitLen y.toNat ∧ (2 : Int) ^ (Lib.bitLen y.toNat - 1) ≤ y := by
  have h : ∀ n : Fin 128, 1 ≤ (n : Nat) → 1 ≤ Lib.bitLen (n : Nat) ∧ 2 ^ (Lib.bitLen (n : Nat) - 1) ≤ (n : Nat) := by decide +kernel
  have := h ⟨y.toNat, by omega⟩ (by show 1 ≤ y.toNat; omega)
  refine ⟨this.1, ?_⟩
  have h2 : 2 ^ (Lib.bitLen y.toNat - 1) ≤ y.toNat := this.2
  have e : ((2 ^ (Lib.bitLen y.toNat - 1) : Nat) : Int) = 2 ^ (Lib.bitLen y.toNat - 1) := by simp
  rw [← e]; omega
theorem pow7 (i : Nat) : (2 : Int) ^ (7 * (i + 1)) = 2 ^ (7 * i) * 128 := by rw [Nat.mul_add, Int.pow_add]; rfl
theorem len_ok (g : Int) (i : Nat) (h0 : 0 ≤ g) (h1 : g < 128) (h : g * 2 ^ (7 * i) < 18446744073709551616) (hi : g = 0 → i = 0) : ¬ 64 < 7 * i + Lib.bitLen g.toNat := by
  intro hc
  rcases Int.lt_or_le 0 g with q | q
  · obtain ⟨b1, b2⟩ := bit_ge g (by omega) h1
    have h2 : (2 : Int) ^ (Lib.bitLen g.toNat - 1) * 2 ^ (7 * i) ≤ g * 2 ^ (7 * i) := Int.mul_le_mul_of_nonneg_right b2 (Int.le_of_lt (Int.pow_pos (by decide)))
    rw [← Int.pow_add] at h2
    have h3 : (2 : Nat) ^ 64 ≤ 2 ^ (Lib.bitLen g.toNat - 1 + 7 * i) := Nat.pow_le_pow_right (by decide) (by omega)
    have h4 : (2 : Int) ^ 64 ≤ 2 ^ (Lib.bitLen g.toNat - 1 + 7 * i) := by exact_mod_cast h3
    have h5 : (2 : Int) ^ 64 = 18446744073709551616 := by decide
    omega
  · obtain rfl : g = 0 := by omega
    rw [hi rfl] at hc
    simp [Lib.bitLen, Lib.bitLenAux] at hc
theorem nat_round (most : Int) (rest : List Int) : ∀ (k : Nat) (n : Int) (i : Nat) (x : Int), 0 ≤ n → n < 128 ^ (k + 1) → (0 < i → 1 ≤ n) → 0 ≤ x → x + n * 2 ^ (7 * i) < 18446744073709551616 →
    cGo most (natB (k + 1) n ++ rest) i x = if most < x + n * 2 ^ (7 * i) then none else some (x + n * 2 ^ (7 * i), rest)
  | k, n, i, x, h0, h1, hi, hx, hs => by
    have hP : (0 : Int) < 2 ^ (7 * i) := Int.pow_pos (by decide)
    rw [natB]
    by_cases c : n < 128
    · rw [if_pos c]
      show cGo most (n :: rest) i x = _
      have e : n % 128 = n := by omega
      rw [cGo, e, if_neg (len_ok n i h0 c (by omega) (fun q => by rcases Nat.eq_zero_or_pos i with z | z; exact z; have := hi z; omega)), if_neg (by omega)]
      have : ¬ (n = 0 ∧ 0 < i) := fun q => by have := hi q.2; omega
      by_cases m : most < x + n * 2 ^ (7 * i)
      · rw [if_pos (.inr m), if_pos m]
      · rw [if_neg (fun q => q.elim this m), if_neg m]
    · rw [if_neg c]
      have e : (n % 128 + 128) % 128 = n % 128 := by omega
      have hd : n = 128 * (n / 128) + n % 128 := by omega
      have hg : n % 128 * 2 ^ (7 * i) ≤ n * 2 ^ (7 * i) := Int.mul_le_mul_of_nonneg_right (by omega) (by omega)
      have hmul : n * 2 ^ (7 * i) = n / 128 * 2 ^ (7 * (i + 1)) + n % 128 * 2 ^ (7 * i) := by
        rw [pow7]
        have : n * 2 ^ (7 * i) = (128 * (n / 128) + n % 128) * 2 ^ (7 * i) := by rw [← hd]
        rw [this, Int.add_mul, Int.mul_comm 128 (n / 128), Int.mul_assoc, Int.mul_comm 128]
      have hl : ¬ 64 < 7 * i + Lib.bitLen (n % 128).toNat := by
        have h7 := len_7 (n % 128) (by omega) (by omega)
        intro hc
        have h3 : (2 : Nat) ^ 58 ≤ 2 ^ (7 * i) := Nat.pow_le_pow_right (by decide) (by omega)
        have h4 : (2 : Int) ^ 58 ≤ 2 ^ (7 * i) := by exact_mod_cast h3
        have h5 : (2 : Int) ^ 58 = 288230376151711744 := by decide
        have h6 : 128 * 2 ^ (7 * i) ≤ n * 2 ^ (7 * i) := Int.mul_le_mul_of_nonneg_right (by omega) (by omega)
        omega
      have hq0 : 0 ≤ n % 128 * 2 ^ (7 * i) := Int.mul_nonneg (by omega) (by omega)
      show cGo most ((n % 128 + 128) :: (natB k (n / 128) ++ rest)) i x = _
      rw [cGo, e, if_neg hl, if_pos (by omega)]
      cases k with
      | zero => exfalso; simp at h1; omega
      | succ k =>
        have ih := nat_round most rest k (n / 128) (i + 1) (x + n % 128 * 2 ^ (7 * i)) (by omega) (by rw [Int.pow_succ] at h1; omega) (fun _ => by omega) (by omega) (by omega)
        rw [ih, show x + n % 128 * 2 ^ (7 * i) + n / 128 * 2 ^ (7 * (i + 1)) = x + n * 2 ^ (7 * i) by omega]
theorem cNat_nat (most n : Int) (rest : List Int) (b : Bool) (h0 : 0 ≤ n) (h1 : n < 18446744073709551616) : cNat most (natB 10 n ++ rest, b) = if most < n then (0, [], true) else (n, rest, b) := by
  have := nat_round most rest 9 n 0 0 h0 (by rw [show (128 : Int) ^ (9 + 1) = 1180591620717411303424 by decide]; omega) (fun h => absurd h (by decide)) (Int.le_refl _) (by simpa using h1)
  simp only [Nat.mul_zero, Int.pow_zero, Int.mul_one, Int.zero_add] at this
  by_cases c : most < n
  · rw [if_pos c] at this ⊢
    exact cNat_none this
  · rw [if_neg c] at this ⊢
    exact cNat_some this
theorem cInt_zig (n : Int) (rest : List Int) (b : Bool) (h0 : -9223372036854775808 ≤ n) (h1 : n ≤ 9223372036854775807) : cInt (natB 10 (zig n) ++ rest, b) = (n, rest, b) := by
  have hz := zig_range h0 h1
  rw [cInt, cNat_nat _ _ _ _ hz.1 hz.2, if_neg (by omega)]
  show (cIv (zig n), rest, b) = (n, rest, b)
  have : cIv (zig n) = n := by
    unfold cIv zig
    split <;> split <;> omega
  rw [this]
theorem one_round (x : SO) (rest : List Int) (b : Bool) (h : okO x = true) : rOne (oneB x ++ rest, b) = (x, rest, b) := by
  have hx := of_decide_eq_true h
  obtain ⟨x0, x1, x2, x3, x4, x5⟩ := x
  obtain ⟨g0, g0', g1, g2, g3, g4, g5, g5'⟩ := hx
  dsimp only at g0 g0' g1 g2 g3 g4 g5 g5'
  have e : oneB ⟨x0, x1, x2, x3, x4, x5⟩ ++ rest = natB 10 x0 ++ (natB 10 (zig x1) ++ (natB 10 (zig x2) ++ (natB 10 (zig x3) ++ (natB 10 (zig x4) ++ (natB 10 x5 ++ rest))))) := by
    simp [oneB, zigB]
  rw [e]
  have c0 : ∀ r, cNat M64 (natB 10 x0 ++ r, b) = (x0, r, b) := fun r => by rw [cNat_nat _ _ _ _ g0 g0', if_neg (by show ¬ 18446744073709551615 < x0; omega)]
  have c5 : ∀ r, cNat M64 (natB 10 x5 ++ r, b) = (x5, r, b) := fun r => by rw [cNat_nat _ _ _ _ g5 g5', if_neg (by show ¬ 18446744073709551615 < x5; omega)]
  simp only [rOne, c0, cInt_zig _ _ _ g1.1 g1.2, cInt_zig _ _ _ g2.1 g2.2, cInt_zig _ _ _ g3.1 g3.2, cInt_zig _ _ _ g4.1 g4.2, c5]
theorem many_round (rest : List Int) (b : Bool) : ∀ (l acc : List SO), l.all okO = true → rMany l.length (bodyB l ++ rest, b) acc = (acc ++ l, rest, b)
  | [], acc, _ => by rw [List.append_nil]; rfl
  | x :: l, acc, h => by
    rw [List.all_cons, Bool.and_eq_true] at h
    rw [List.length_cons, rMany, bodyB, List.append_assoc, one_round x _ b h.1, many_round rest b l _ h.2]
    simp
theorem all_round (l : List SO) (rest : List Int) (h : l.all okO = true) (hl : l.length ≤ 100) : rAll (bytesO l ++ rest, false) = if l.length ≤ 64 then (l, rest, false) else ([], [], true) := by
  rw [rAll, bytesO, List.append_assoc, cNat_nat _ _ _ _ (by omega) (by omega)]
  by_cases c : l.length ≤ 64
  · rw [if_neg (by omega), if_pos c]
    show rMany (l.length : Int).toNat (bodyB l ++ rest, false) [] = _
    rw [Int.toNat_natCast, many_round rest false l [] h]; rfl
  · rw [if_pos (by omega), if_neg c]
    rfl
/-! The reference's bytes -/
theorem ref_nat_eq : ∀ (j : Nat) (n : Int) (m : Nat), j ≤ 20 → 0 ≤ n → n < 18446744073709551616 → n < 128 ^ (j + 1) → j < m → jobberref02_Nat.f m n = some (natB (j + 1) n)
  | j, n, 0, _, _, _, _, h => by omega
  | j, n, m + 1, hj, h0, h1, h2, h => by
    rw [jobberref02_Nat.f, natB]
    by_cases c : n < 128
    · rw [if_pos c, if_pos c, show n % 256 = n by omega]
    · rw [if_neg c, if_neg c]
      have e1 : Int.tmod n 128 = n % 128 := Int.tmod_eq_emod_of_nonneg h0
      have e2 : Int.tdiv n 128 = n / 128 := Int.tdiv_eq_ediv_of_nonneg h0
      have e3 : IntKind.u64.wrap (n % 128 + 128) % 256 = n % 128 + 128 := by rw [IntKind.wrap_u64]; omega
      have e4 : IntKind.u64.wrap (n / 128) = n / 128 := by rw [IntKind.wrap_u64]; omega
      simp only [e1, e2, e3, e4, Option.bind_some]
      cases j with
      | zero => exfalso; simp at h2; omega
      | succ j =>
        rw [ref_nat_eq j (n / 128) m (by omega) (by omega) (by omega) (by rw [Int.pow_succ] at h2; omega) (by omega), Option.bind_some, if_pos]
        · rfl
        · have := natB_len (j + 1) (n / 128)
          simp only [List.length_cons, List.length_nil]
          omega
theorem ref_nat10 (n : Int) (m : Nat) (h0 : 0 ≤ n) (h1 : n < 18446744073709551616) (hm : 9 < m) : jobberref02_Nat.f m n = some (natB 10 n) :=
  ref_nat_eq 9 n m (by omega) h0 h1 (by rw [show (128 : Int) ^ (9 + 1) = 1180591620717411303424 by decide]; omega) hm
theorem ref_int10 (n : Int) (m : Nat) (h0 : -9223372036854775808 ≤ n) (h1 : n ≤ 9223372036854775807) (hm : 9 < m) : jobberref02_Int.f m n = some (natB 10 (zig n)) := by
  have hz := zig_range h0 h1
  rw [jobberref02_Int.f]
  by_cases c : n ≥ 0
  · have e : IntKind.u64.wrap (IntKind.u64.wrap n * 2) = zig n := by rw [zig, if_pos c, IntKind.wrap_u64, IntKind.wrap_u64]; omega
    rw [if_pos c, e, ref_nat10 _ _ hz.1 hz.2 hm]; rfl
  · have e : IntKind.u64.wrap (IntKind.u64.wrap (IntKind.u64.wrap (wrap64 (-(wrap64 (n + 1)))) * 2) + 1) = zig n := by
      have e1 : wrap64 (n + 1) = n + 1 := by unfold wrap64; omega
      have e2 : wrap64 (-(n + 1)) = -(n + 1) := by unfold wrap64; omega
      rw [e1, e2, zig, if_neg (by omega), IntKind.wrap_u64, IntKind.wrap_u64, IntKind.wrap_u64]; omega
    rw [if_neg c, e, ref_nat10 _ _ hz.1 hz.2 hm]; rfl
theorem ref_bytes_l0 (l : List SO) (hn : l.length ≤ 100) (hok : l.all okO = true) : ∀ (R A : List SO) (acc : List Int) (k : Nat), l = A ++ R → R.length + 11 ≤ k → acc.length + 60 * R.length ≤ 100000 → jobberref12_Bytes.l0 k (l.map tor) acc (A.length : Int) = some (acc ++ bodyB R)
  | [], A, acc, k, h, hk, ha => by
    obtain ⟨k, rfl⟩ : ∃ k', k = k' + 1 := ⟨k - 1, by simp at hk; omega⟩
    rw [jobberref12_Bytes.l0, if_neg (by rw [h]; simp), bodyB, List.append_nil]
  | x :: R, A, acc, k, h, hk, ha => by
    obtain ⟨k, rfl⟩ : ∃ k', k = k' + 1 := ⟨k - 1, by simp at hk; omega⟩
    have hr := rd41 l A R x A.length h rfl
    have hlen : l.length = A.length + R.length + 1 := by rw [h]; simp; omega
    have hx := of_decide_eq_true (List.all_eq_true.1 hok x (by rw [h]; simp))
    simp only [List.length_cons] at hk ha
    have ih := ref_bytes_l0 l hn hok R (A ++ [x]) (acc ++ oneB x) k (by rw [h]; simp) (by omega) (by rw [List.length_append]; have := oneB_len x; omega)
    rw [List.length_append, List.length_singleton] at ih
    have a0 := natB_len 10 x.f0
    have a1 := natB_len 10 (zig x.f1)
    have a2 := natB_len 10 (zig x.f2)
    have a3 := natB_len 10 (zig x.f3)
    have a4 := natB_len 10 (zig x.f4)
    have a5 := natB_len 10 x.f5
    rw [jobberref12_Bytes.l0, if_pos (by simp; omega), if_pos (by omega), hr]
    show ((jobberref02_Nat.f k x.f0).bind _) = _
    rw [ref_nat10 x.f0 k hx.1 hx.2.1 (by omega), Option.bind_some, if_pos (by omega), Option.bind_some]
    show ((jobberref02_Int.f k x.f1).bind _) = _
    rw [ref_int10 x.f1 k hx.2.2.1.1 hx.2.2.1.2 (by omega), Option.bind_some, if_pos (by rw [List.length_append]; omega), Option.bind_some]
    show ((jobberref02_Int.f k x.f2).bind _) = _
    rw [ref_int10 x.f2 k hx.2.2.2.1.1 hx.2.2.2.1.2 (by omega), Option.bind_some, if_pos (by simp only [List.length_append]; omega), Option.bind_some]
    show ((jobberref02_Int.f k x.f3).bind _) = _
    rw [ref_int10 x.f3 k hx.2.2.2.2.1.1 hx.2.2.2.2.1.2 (by omega), Option.bind_some, if_pos (by simp only [List.length_append]; omega), Option.bind_some]
    show ((jobberref02_Int.f k x.f4).bind _) = _
    rw [ref_int10 x.f4 k hx.2.2.2.2.2.1.1 hx.2.2.2.2.2.1.2 (by omega), Option.bind_some, if_pos (by simp only [List.length_append]; omega), Option.bind_some]
    show ((jobberref02_Nat.f k x.f5).bind _) = _
    rw [ref_nat10 x.f5 k hx.2.2.2.2.2.2.1 hx.2.2.2.2.2.2.2 (by omega), Option.bind_some, if_pos (by simp only [List.length_append]; omega), wn (by omega)]
    have e : acc ++ natB 10 x.f0 ++ natB 10 (zig x.f1) ++ natB 10 (zig x.f2) ++ natB 10 (zig x.f3) ++ natB 10 (zig x.f4) ++ natB 10 x.f5 = acc ++ oneB x := by simp [oneB, zigB]
    rw [e, ih, bodyB, List.append_assoc]
theorem ref_bytes (l : List SO) (k : Nat) (hn : l.length ≤ 100) (hok : l.all okO = true) (hk : l.length + 11 ≤ k) : jobberref12_Bytes.f k (l.map tor) = some (bytesO l) := by
  have e : IntKind.u64.wrap (((l.map tor).length : Int)) = (l.length : Int) := by rw [List.length_map, IntKind.wrap_u64]; omega
  rw [jobberref12_Bytes.f, e, ref_nat10 _ _ (by omega) (by omega) (by omega), Option.bind_some]
  have := natB_len 10 l.length
  exact ref_bytes_l0 l hn hok l [] (natB 10 l.length) k rfl hk (by omega)
end Go.Proofs.Ytlihfiajbhpokaa.Orc.M
