/- Printed by this session's wip/drive.py over the translation; some functions by hand. -/
import Derived.Test.YtdfkbdcdgbjgcaaNumx0
import Derived.Test.YtdfkbdcdgbjgcaaNumx2
import Derived.Test.YtdfkbdcdgbjgcaaNumx3
namespace Go.Proofs.Ytdfkbdcdgbjgcaa.Num
open Go.RowKit Go.Proofs.YtdfkbdcdgbjgcaaW.PrintWords Go.Proofs.YtdfkbdcdgbjgcaaW.PrintLast Go.Proofs.YtdfkbdcdgbjgcaaW.PrintMore
attribute [local go_sem] max2_int min2_int max_two min_two max_three min_three max_four min_four   -- for this text's walks alone
set_option linter.unusedVariables false
set_option linter.unusedSimpArgs false

/-! ### jobberref01_Times: function 89 (by hand; for other hand texts alone) -/
set_option maxHeartbeats 8000000 in
set_option maxRecDepth 100000 in
theorem num_times (a b : Nat) (ga gb : Bool) (hb : b < 2 ^ 64) (hm : a * b < 2 ^ 136) (w : World) :
    Calls Try.prog 89 #[.agg (numC a ga), .agg (numC b gb)] w fun e w' => e = .returned (.agg (numC (a * b) ((ga != gb) && !decide (a * b = 0)))) ∧ Below w.heap.size w w' := by
  have HO : Aside0 (Own w w []) := ⟨Own.start w⟩
  have HB64 := Aside0.mk hb
  obtain ⟨P, hP⟩ : ∃ P, a * b = P := ⟨_, rfl⟩
  rw [hP] at hm ⊢
  have HP := Aside0.mk hP
  have HN := Aside0.mk (fun w => num_nought P false hm w)
  obtain ⟨z, hz⟩ : ∃ z, decide (P = 0) = z := ⟨_, rfl⟩
  rw [hz] at HN ⊢
  clear hb hm hP hz
  cases ga <;> cases gb
  case false.false =>
    go_enter Try.func89, Try.ntmps89
    go_wp2_with (first | ((with_reducible refine gate_dst (N := 2) rfl ?_); refine num_new ?hg (N := 2) ?hd (cs := numC a false) HO.out a false ?hc ?hr ?_; (case hc => first | rfl | exact zcNum); (case hd => rfl); (case hg => rfl); (case hr => first | (go_simp; done) | (go_simp; rfl)); intro gA w1 hO_; have n0_ : Aside0 (Own w w1 [(gA, a, false)]) := ⟨hO_⟩; clear HO hO_; have HO := n0_; clear n0_) | ((with_reducible refine gate_dst (N := 3) rfl ?_); refine num_new ?hg (N := 3) ?hd (cs := numC b false) HO.out b false ?hc ?hr ?_; (case hc => first | rfl | exact zcNum); (case hd => rfl); (case hg => rfl); (case hr => first | (go_simp; done) | (go_simp; rfl)); intro gB w2 hO_; have n0_ : Aside0 (Own w w2 [(gA, a, false), (gB, b, false)]) := ⟨hO_⟩; clear HO hO_; have HO := n0_; clear n0_) | ((with_reducible refine gate_dst (N := 4) rfl ?_); refine num_new ?hg (N := 4) ?hd (cs := Try.zeroCells113) HO.out 0 false ?hc ?hr ?_; (case hc => first | rfl | exact zcNum); (case hd => rfl); (case hg => rfl); (case hr => first | (go_simp; done) | (go_simp; rfl)); intro gR w3 hO_; have n0_ : Aside0 (Own w w3 [(gA, a, false), (gB, b, false), (gR, 0, false)]) := ⟨hO_⟩; clear HO hO_; have HO := n0_; clear n0_) | ((with_reducible refine gate_dst (N := 5) rfl ?_); refine num_new ?hg (N := 5) ?hd (cs := Try.zeroCells113) HO.out 0 false ?hc ?hr ?_; (case hc => first | rfl | exact zcNum); (case hd => rfl); (case hg => rfl); (case hr => first | (go_simp; done) | (go_simp; rfl)); intro gN w4 hO_; have n0_ : Aside0 (Own w w4 [(gA, a, false), (gB, b, false), (gR, 0, false), (gN, 0, false)]) := ⟨hO_⟩; clear HO hO_; have HO := n0_; clear n0_) | ((with_reducible refine gate_dst (N := 8) rfl ?_); refine num_load ?hg (N := 8) ?hd (.tmp 2) ?ho HO.out 0 (g := gA) (m := a) (s := false) ?hi ?hx ?_; (case hd => rfl); (case hg => rfl); (case ho => rfl); (case hi => rfl); (case hx => rfl)) | ((with_reducible refine gate_dst (N := 6) rfl ?_); refine num_new ?hg (N := 6) ?hd (cs := Try.zeroCells113) HO.out 0 false ?hc ?hr ?_; (case hc => first | rfl | exact zcNum); (case hd => rfl); (case hg => rfl); (case hr => first | (go_simp; done) | (go_simp; rfl)); intro gX w5 hO_; have n0_ : Aside0 (Own w w5 [(gA, a, false), (gB, b, false), (gR, 0, false), (gN, 0, false), (gX, 0, false)]) := ⟨hO_⟩; clear HO hO_; have HO := n0_; clear n0_) | ((with_reducible refine gate_store (t := 113) (p := 6) (v := .tmp 8) rfl ?_); refine num_store ?hg (.tmp 6) (.tmp 8) ?ho HO.out 4 (g := gX) (m := 0) (s := false) (m' := a) (s' := false) ?hi ?hx ?hy ?_; (case hg => rfl); (case ho => rfl); (case hi => rfl); (case hx => rfl); (case hy => rfl); intro w6 hO_; have n0_ : Aside0 (Own w w6 [(gA, a, false), (gB, b, false), (gR, 0, false), (gN, 0, false), (gX, a, false)]) := ⟨hO_⟩; clear HO hO_; have HO := n0_; clear n0_))
    go_loopg [7] 64 (fun kq v7 wr => ∃ k : Nat, v7 = .int .i64 k ∧ Aside0 (k + kq = 64) ∧ Aside0 (Own w wr [(gA, a, false), (gB, b, false), (gR, 0, false), (gN, (a * (b % 2 ^ k)), false), (gX, (a * 2 ^ k), false)]))
    case atStart => exact ⟨0, rfl, ⟨rfl⟩, ⟨by have h := HO.out; simp only [Nat.pow_zero, Nat.mod_one, Nat.mul_zero, Nat.mul_one]; exact h⟩⟩
    case round =>
      clear HO
      obtain ⟨k, rfl, HK, HO⟩ := hrel
      by_cases hk : k < 64
      · have hd : decide ((k : Int) < 64) = true := decide_eq_true (by omega)
        have zb_ := HO.out.cell 1 k rfl (by omega)
        have HE2 := Aside0.mk (show 2 * (a * 2 ^ k) = a * 2 ^ (k + 1) by rw [Nat.pow_succ, Nat.mul_left_comm, Nat.mul_comm 2])
        have hm := Nat.mod_pow_succ (b := 2) (k := k) (x := b)
        have ht := tb_div b k
        rw [← ht] at hm
        cases hxb : b.testBit k
        case true =>
          rw [hxb] at zb_ hm
          have HE1 := Aside0.mk (show a * (b % 2 ^ k) + a * 2 ^ k = a * (b % 2 ^ (k + 1)) by rw [hm, ← Nat.mul_add]; simp)
          clear hxb hm ht
          go_wp2_with (first | ((with_reducible refine gate_dst (N := 17) rfl ?_); refine num_load ?hg (N := 17) ?hd (.tmp 5) ?ho HO.out 3 (g := gN) (m := (a * (b % 2 ^ k))) (s := false) ?hi ?hx ?_; (case hd => rfl); (case hg => rfl); (case ho => rfl); (case hi => rfl); (case hx => rfl)) | ((with_reducible refine gate_dst (N := 18) rfl ?_); refine num_load ?hg (N := 18) ?hd (.tmp 6) ?ho HO.out 4 (g := gX) (m := (a * 2 ^ k)) (s := false) ?hi ?hx ?_; (case hd => rfl); (case hg => rfl); (case ho => rfl); (case hi => rfl); (case hx => rfl)) | (go_at_call 95; (with_reducible refine (num_more _ _ _ _ _).mono ?_); rintro e_ w7 ⟨rfl, hb_⟩; have n0_ : Aside0 (Own w w7 [(gA, a, false), (gB, b, false), (gR, 0, false), (gN, (a * (b % 2 ^ k)), false), (gX, (a * 2 ^ k), false)]) := ⟨HO.out.call hb_⟩; clear zb_ HO hb_; have HO := n0_; clear n0_) | ((with_reducible refine gate_store (t := 113) (p := 5) (v := .tmp 19) rfl ?_); refine num_store ?hg (.tmp 5) (.tmp 19) ?ho HO.out 3 (g := gN) (m := (a * (b % 2 ^ k))) (s := false) (m' := (a * (b % 2 ^ k) + a * 2 ^ k)) (s' := false) ?hi ?hx ?hy ?_; (case hg => rfl); (case ho => rfl); (case hi => rfl); (case hx => rfl); (case hy => rfl); intro w8 hO_; have n0_ : Aside0 (Own w w8 [(gA, a, false), (gB, b, false), (gR, 0, false), (gN, (a * (b % 2 ^ k) + a * 2 ^ k), false), (gX, (a * 2 ^ k), false)]) := ⟨hO_⟩; clear HO hO_; have HO := n0_; clear n0_) | ((with_reducible refine gate_dst (N := 20) rfl ?_); refine num_load ?hg (N := 20) ?hd (.tmp 6) ?ho HO.out 4 (g := gX) (m := (a * 2 ^ k)) (s := false) ?hi ?hx ?_; (case hd => rfl); (case hg => rfl); (case ho => rfl); (case hi => rfl); (case hx => rfl)) | (go_at_call 93; (with_reducible refine (num_twice _ _ _).mono ?_); rintro e_ w9 ⟨rfl, hb_⟩; have n0_ : Aside0 (Own w w9 [(gA, a, false), (gB, b, false), (gR, 0, false), (gN, (a * (b % 2 ^ k) + a * 2 ^ k), false), (gX, (a * 2 ^ k), false)]) := ⟨HO.out.call hb_⟩; clear HO hb_; have HO := n0_; clear n0_) | ((with_reducible refine gate_store (t := 113) (p := 6) (v := .tmp 21) rfl ?_); refine num_store ?hg (.tmp 6) (.tmp 21) ?ho HO.out 4 (g := gX) (m := (a * 2 ^ k)) (s := false) (m' := (2 * (a * 2 ^ k))) (s' := false) ?hi ?hx ?hy ?_; (case hg => rfl); (case ho => rfl); (case hi => rfl); (case hx => rfl); (case hy => rfl); intro w10 hO_; have n0_ : Aside0 (Own w w10 [(gA, a, false), (gB, b, false), (gR, 0, false), (gN, (a * (b % 2 ^ k) + a * 2 ^ k), false), (gX, (2 * (a * 2 ^ k)), false)]) := ⟨hO_⟩; clear HO hO_; have HO := n0_; clear n0_))
          go_roundg (gk - 1)
          case measure => have := HK.out; omega
          case rel => exact ⟨k + 1, by go_num, ⟨by have := HK.out; omega⟩, ⟨by have h := HO.out; rw [HE1.out, HE2.out] at h; exact h⟩⟩
        case false =>
          rw [hxb] at zb_ hm
          have HE1 := Aside0.mk (show a * (b % 2 ^ k) = a * (b % 2 ^ (k + 1)) by rw [hm]; simp)
          clear hxb hm ht
          go_wp2_with (first | ((with_reducible refine gate_dst (N := 20) rfl ?_); refine num_load ?hg (N := 20) ?hd (.tmp 6) ?ho HO.out 4 (g := gX) (m := (a * 2 ^ k)) (s := false) ?hi ?hx ?_; (case hd => rfl); (case hg => rfl); (case ho => rfl); (case hi => rfl); (case hx => rfl)) | (go_at_call 93; (with_reducible refine (num_twice _ _ _).mono ?_); rintro e_ w9 ⟨rfl, hb_⟩; have n0_ : Aside0 (Own w w9 [(gA, a, false), (gB, b, false), (gR, 0, false), (gN, (a * (b % 2 ^ k)), false), (gX, (a * 2 ^ k), false)]) := ⟨HO.out.call hb_⟩; clear HO hb_; have HO := n0_; clear n0_) | ((with_reducible refine gate_store (t := 113) (p := 6) (v := .tmp 21) rfl ?_); refine num_store ?hg (.tmp 6) (.tmp 21) ?ho HO.out 4 (g := gX) (m := (a * 2 ^ k)) (s := false) (m' := (2 * (a * 2 ^ k))) (s' := false) ?hi ?hx ?hy ?_; (case hg => rfl); (case ho => rfl); (case hi => rfl); (case hx => rfl); (case hy => rfl); intro w10 hO_; have n0_ : Aside0 (Own w w10 [(gA, a, false), (gB, b, false), (gR, 0, false), (gN, (a * (b % 2 ^ k)), false), (gX, (2 * (a * 2 ^ k)), false)]) := ⟨hO_⟩; clear HO hO_; have HO := n0_; clear n0_))
          go_roundg (gk - 1)
          case measure => have := HK.out; omega
          case rel => exact ⟨k + 1, by go_num, ⟨by have := HK.out; omega⟩, ⟨by have h := HO.out; rw [HE1.out, HE2.out] at h; exact h⟩⟩
      · have hd : decide ((k : Int) < 64) = false := decide_eq_false (by omega)
        have hk64 : k = 64 := by have := HK.out; omega
        have HE := Aside0.mk (show a * (b % 2 ^ k) = a * b by rw [hk64, Nat.mod_eq_of_lt HB64.out])
        clear hk64
        obtain ⟨X, hX⟩ : ∃ X, a * 2 ^ k = X := ⟨_, rfl⟩
        have n0_ : Aside0 (Own w wr [(gA, a, false), (gB, b, false), (gR, 0, false), (gN, P, false), (gX, X, false)]) := ⟨by have h := HO.out; rw [HE.out, hX, HP.out] at h; exact h⟩
        clear HO; have HO := n0_; clear n0_
        clear hX HE
        have z0_ := HO.out.neg 0 rfl
        have z1_ := HO.out.neg 1 rfl
        have zn_ := HO.out.neg 3 rfl
        have zf_ := HO.out.free 3 136 rfl
        go_upto_region 10 with (first | ((with_reducible refine gate_dst (N := 28) rfl ?_); (refine gate_guard (by rfl) ?_; dsimp only); refine num_load ?hg (N := 28) ?hd (.tmp 5) ?ho HO.out 3 (g := gN) (m := P) (s := false) ?hi ?hx ?_; (case hd => rfl); (case hg => rfl); (case ho => rfl); (case hi => rfl); (case hx => rfl)) | (go_at_call 92; (with_reducible refine (HN.out _).mono ?_); rintro e_ w11 ⟨rfl, hb_⟩; clear z0_ z1_ zn_ zf_; have n0_ : Aside0 (Own w w11 [(gA, a, false), (gB, b, false), (gR, 0, false), (gN, P, false), (gX, X, false)]) := ⟨HO.out.call hb_⟩; clear HO hb_; have HO := n0_; clear n0_; have z0_ := HO.out.neg 0 rfl; have z1_ := HO.out.neg 1 rfl; have zn_ := HO.out.neg 3 rfl; have zf_ := HO.out.free 3 136 rfl))
        refine num_abs (w0 := w) (l := [(gA, a, false), (gB, b, false), (gR, 0, false), (gN, P, false), (gX, X, false)]) (HO.out.sign 3 rfl _) ?_
        intro w12 hO_
        clear HO
        have HO := Aside0.mk hO_
        clear hO_
        clear z0_ z1_ zn_ zf_
        go_wp2_with (first | ((with_reducible refine gate_dst (N := 33) rfl ?_); refine num_load ?hg (N := 33) ?hd (.tmp 5) ?ho HO.out 3 (g := gN) (m := P) (s := false) ?hi ?hx ?_; (case hd => rfl); (case hg => rfl); (case ho => rfl); (case hi => rfl); (case hx => rfl)) | ((with_reducible refine gate_store (t := 113) (p := 4) (v := .tmp 33) rfl ?_); refine num_store ?hg (.tmp 4) (.tmp 33) ?ho HO.out 2 (g := gR) (m := 0) (s := false) (m' := P) (s' := false) ?hi ?hx ?hy ?_; (case hg => rfl); (case ho => rfl); (case hi => rfl); (case hx => rfl); (case hy => rfl); intro w13 hO_; have n0_ : Aside0 (Own w w13 [(gA, a, false), (gB, b, false), (gR, P, false), (gN, P, false), (gX, X, false)]) := ⟨hO_⟩; clear HO hO_; have HO := n0_; clear n0_))
        exact bodyPost_ret (num_result rfl HO.out 2 rfl _ rfl) rfl ⟨by first | rfl | simp, HO.out.below⟩
  case false.true =>
    go_enter Try.func89, Try.ntmps89
    go_wp2_with (first | ((with_reducible refine gate_dst (N := 2) rfl ?_); refine num_new ?hg (N := 2) ?hd (cs := numC a false) HO.out a false ?hc ?hr ?_; (case hc => first | rfl | exact zcNum); (case hd => rfl); (case hg => rfl); (case hr => first | (go_simp; done) | (go_simp; rfl)); intro gA w1 hO_; have n0_ : Aside0 (Own w w1 [(gA, a, false)]) := ⟨hO_⟩; clear HO hO_; have HO := n0_; clear n0_) | ((with_reducible refine gate_dst (N := 3) rfl ?_); refine num_new ?hg (N := 3) ?hd (cs := numC b true) HO.out b true ?hc ?hr ?_; (case hc => first | rfl | exact zcNum); (case hd => rfl); (case hg => rfl); (case hr => first | (go_simp; done) | (go_simp; rfl)); intro gB w2 hO_; have n0_ : Aside0 (Own w w2 [(gA, a, false), (gB, b, true)]) := ⟨hO_⟩; clear HO hO_; have HO := n0_; clear n0_) | ((with_reducible refine gate_dst (N := 4) rfl ?_); refine num_new ?hg (N := 4) ?hd (cs := Try.zeroCells113) HO.out 0 false ?hc ?hr ?_; (case hc => first | rfl | exact zcNum); (case hd => rfl); (case hg => rfl); (case hr => first | (go_simp; done) | (go_simp; rfl)); intro gR w3 hO_; have n0_ : Aside0 (Own w w3 [(gA, a, false), (gB, b, true), (gR, 0, false)]) := ⟨hO_⟩; clear HO hO_; have HO := n0_; clear n0_) | ((with_reducible refine gate_dst (N := 5) rfl ?_); refine num_new ?hg (N := 5) ?hd (cs := Try.zeroCells113) HO.out 0 false ?hc ?hr ?_; (case hc => first | rfl | exact zcNum); (case hd => rfl); (case hg => rfl); (case hr => first | (go_simp; done) | (go_simp; rfl)); intro gN w4 hO_; have n0_ : Aside0 (Own w w4 [(gA, a, false), (gB, b, true), (gR, 0, false), (gN, 0, false)]) := ⟨hO_⟩; clear HO hO_; have HO := n0_; clear n0_) | ((with_reducible refine gate_dst (N := 8) rfl ?_); refine num_load ?hg (N := 8) ?hd (.tmp 2) ?ho HO.out 0 (g := gA) (m := a) (s := false) ?hi ?hx ?_; (case hd => rfl); (case hg => rfl); (case ho => rfl); (case hi => rfl); (case hx => rfl)) | ((with_reducible refine gate_dst (N := 6) rfl ?_); refine num_new ?hg (N := 6) ?hd (cs := Try.zeroCells113) HO.out 0 false ?hc ?hr ?_; (case hc => first | rfl | exact zcNum); (case hd => rfl); (case hg => rfl); (case hr => first | (go_simp; done) | (go_simp; rfl)); intro gX w5 hO_; have n0_ : Aside0 (Own w w5 [(gA, a, false), (gB, b, true), (gR, 0, false), (gN, 0, false), (gX, 0, false)]) := ⟨hO_⟩; clear HO hO_; have HO := n0_; clear n0_) | ((with_reducible refine gate_store (t := 113) (p := 6) (v := .tmp 8) rfl ?_); refine num_store ?hg (.tmp 6) (.tmp 8) ?ho HO.out 4 (g := gX) (m := 0) (s := false) (m' := a) (s' := false) ?hi ?hx ?hy ?_; (case hg => rfl); (case ho => rfl); (case hi => rfl); (case hx => rfl); (case hy => rfl); intro w6 hO_; have n0_ : Aside0 (Own w w6 [(gA, a, false), (gB, b, true), (gR, 0, false), (gN, 0, false), (gX, a, false)]) := ⟨hO_⟩; clear HO hO_; have HO := n0_; clear n0_))
    go_loopg [7] 64 (fun kq v7 wr => ∃ k : Nat, v7 = .int .i64 k ∧ Aside0 (k + kq = 64) ∧ Aside0 (Own w wr [(gA, a, false), (gB, b, true), (gR, 0, false), (gN, (a * (b % 2 ^ k)), false), (gX, (a * 2 ^ k), false)]))
    case atStart => exact ⟨0, rfl, ⟨rfl⟩, ⟨by have h := HO.out; simp only [Nat.pow_zero, Nat.mod_one, Nat.mul_zero, Nat.mul_one]; exact h⟩⟩
    case round =>
      clear HO
      obtain ⟨k, rfl, HK, HO⟩ := hrel
      by_cases hk : k < 64
      · have hd : decide ((k : Int) < 64) = true := decide_eq_true (by omega)
        have zb_ := HO.out.cell 1 k rfl (by omega)
        have HE2 := Aside0.mk (show 2 * (a * 2 ^ k) = a * 2 ^ (k + 1) by rw [Nat.pow_succ, Nat.mul_left_comm, Nat.mul_comm 2])
        have hm := Nat.mod_pow_succ (b := 2) (k := k) (x := b)
        have ht := tb_div b k
        rw [← ht] at hm
        cases hxb : b.testBit k
        case true =>
          rw [hxb] at zb_ hm
          have HE1 := Aside0.mk (show a * (b % 2 ^ k) + a * 2 ^ k = a * (b % 2 ^ (k + 1)) by rw [hm, ← Nat.mul_add]; simp)
          clear hxb hm ht
          go_wp2_with (first | ((with_reducible refine gate_dst (N := 17) rfl ?_); refine num_load ?hg (N := 17) ?hd (.tmp 5) ?ho HO.out 3 (g := gN) (m := (a * (b % 2 ^ k))) (s := false) ?hi ?hx ?_; (case hd => rfl); (case hg => rfl); (case ho => rfl); (case hi => rfl); (case hx => rfl)) | ((with_reducible refine gate_dst (N := 18) rfl ?_); refine num_load ?hg (N := 18) ?hd (.tmp 6) ?ho HO.out 4 (g := gX) (m := (a * 2 ^ k)) (s := false) ?hi ?hx ?_; (case hd => rfl); (case hg => rfl); (case ho => rfl); (case hi => rfl); (case hx => rfl)) | (go_at_call 95; (with_reducible refine (num_more _ _ _ _ _).mono ?_); rintro e_ w7 ⟨rfl, hb_⟩; have n0_ : Aside0 (Own w w7 [(gA, a, false), (gB, b, true), (gR, 0, false), (gN, (a * (b % 2 ^ k)), false), (gX, (a * 2 ^ k), false)]) := ⟨HO.out.call hb_⟩; clear zb_ HO hb_; have HO := n0_; clear n0_) | ((with_reducible refine gate_store (t := 113) (p := 5) (v := .tmp 19) rfl ?_); refine num_store ?hg (.tmp 5) (.tmp 19) ?ho HO.out 3 (g := gN) (m := (a * (b % 2 ^ k))) (s := false) (m' := (a * (b % 2 ^ k) + a * 2 ^ k)) (s' := false) ?hi ?hx ?hy ?_; (case hg => rfl); (case ho => rfl); (case hi => rfl); (case hx => rfl); (case hy => rfl); intro w8 hO_; have n0_ : Aside0 (Own w w8 [(gA, a, false), (gB, b, true), (gR, 0, false), (gN, (a * (b % 2 ^ k) + a * 2 ^ k), false), (gX, (a * 2 ^ k), false)]) := ⟨hO_⟩; clear HO hO_; have HO := n0_; clear n0_) | ((with_reducible refine gate_dst (N := 20) rfl ?_); refine num_load ?hg (N := 20) ?hd (.tmp 6) ?ho HO.out 4 (g := gX) (m := (a * 2 ^ k)) (s := false) ?hi ?hx ?_; (case hd => rfl); (case hg => rfl); (case ho => rfl); (case hi => rfl); (case hx => rfl)) | (go_at_call 93; (with_reducible refine (num_twice _ _ _).mono ?_); rintro e_ w9 ⟨rfl, hb_⟩; have n0_ : Aside0 (Own w w9 [(gA, a, false), (gB, b, true), (gR, 0, false), (gN, (a * (b % 2 ^ k) + a * 2 ^ k), false), (gX, (a * 2 ^ k), false)]) := ⟨HO.out.call hb_⟩; clear HO hb_; have HO := n0_; clear n0_) | ((with_reducible refine gate_store (t := 113) (p := 6) (v := .tmp 21) rfl ?_); refine num_store ?hg (.tmp 6) (.tmp 21) ?ho HO.out 4 (g := gX) (m := (a * 2 ^ k)) (s := false) (m' := (2 * (a * 2 ^ k))) (s' := false) ?hi ?hx ?hy ?_; (case hg => rfl); (case ho => rfl); (case hi => rfl); (case hx => rfl); (case hy => rfl); intro w10 hO_; have n0_ : Aside0 (Own w w10 [(gA, a, false), (gB, b, true), (gR, 0, false), (gN, (a * (b % 2 ^ k) + a * 2 ^ k), false), (gX, (2 * (a * 2 ^ k)), false)]) := ⟨hO_⟩; clear HO hO_; have HO := n0_; clear n0_))
          go_roundg (gk - 1)
          case measure => have := HK.out; omega
          case rel => exact ⟨k + 1, by go_num, ⟨by have := HK.out; omega⟩, ⟨by have h := HO.out; rw [HE1.out, HE2.out] at h; exact h⟩⟩
        case false =>
          rw [hxb] at zb_ hm
          have HE1 := Aside0.mk (show a * (b % 2 ^ k) = a * (b % 2 ^ (k + 1)) by rw [hm]; simp)
          clear hxb hm ht
          go_wp2_with (first | ((with_reducible refine gate_dst (N := 20) rfl ?_); refine num_load ?hg (N := 20) ?hd (.tmp 6) ?ho HO.out 4 (g := gX) (m := (a * 2 ^ k)) (s := false) ?hi ?hx ?_; (case hd => rfl); (case hg => rfl); (case ho => rfl); (case hi => rfl); (case hx => rfl)) | (go_at_call 93; (with_reducible refine (num_twice _ _ _).mono ?_); rintro e_ w9 ⟨rfl, hb_⟩; have n0_ : Aside0 (Own w w9 [(gA, a, false), (gB, b, true), (gR, 0, false), (gN, (a * (b % 2 ^ k)), false), (gX, (a * 2 ^ k), false)]) := ⟨HO.out.call hb_⟩; clear HO hb_; have HO := n0_; clear n0_) | ((with_reducible refine gate_store (t := 113) (p := 6) (v := .tmp 21) rfl ?_); refine num_store ?hg (.tmp 6) (.tmp 21) ?ho HO.out 4 (g := gX) (m := (a * 2 ^ k)) (s := false) (m' := (2 * (a * 2 ^ k))) (s' := false) ?hi ?hx ?hy ?_; (case hg => rfl); (case ho => rfl); (case hi => rfl); (case hx => rfl); (case hy => rfl); intro w10 hO_; have n0_ : Aside0 (Own w w10 [(gA, a, false), (gB, b, true), (gR, 0, false), (gN, (a * (b % 2 ^ k)), false), (gX, (2 * (a * 2 ^ k)), false)]) := ⟨hO_⟩; clear HO hO_; have HO := n0_; clear n0_))
          go_roundg (gk - 1)
          case measure => have := HK.out; omega
          case rel => exact ⟨k + 1, by go_num, ⟨by have := HK.out; omega⟩, ⟨by have h := HO.out; rw [HE1.out, HE2.out] at h; exact h⟩⟩
      · have hd : decide ((k : Int) < 64) = false := decide_eq_false (by omega)
        have hk64 : k = 64 := by have := HK.out; omega
        have HE := Aside0.mk (show a * (b % 2 ^ k) = a * b by rw [hk64, Nat.mod_eq_of_lt HB64.out])
        clear hk64
        obtain ⟨X, hX⟩ : ∃ X, a * 2 ^ k = X := ⟨_, rfl⟩
        have n0_ : Aside0 (Own w wr [(gA, a, false), (gB, b, true), (gR, 0, false), (gN, P, false), (gX, X, false)]) := ⟨by have h := HO.out; rw [HE.out, hX, HP.out] at h; exact h⟩
        clear HO; have HO := n0_; clear n0_
        clear hX HE
        have z0_ := HO.out.neg 0 rfl
        have z1_ := HO.out.neg 1 rfl
        have zn_ := HO.out.neg 3 rfl
        have zf_ := HO.out.free 3 136 rfl
        go_upto_region 10 with (first | ((with_reducible refine gate_dst (N := 28) rfl ?_); (refine gate_guard (by rfl) ?_; dsimp only); refine num_load ?hg (N := 28) ?hd (.tmp 5) ?ho HO.out 3 (g := gN) (m := P) (s := false) ?hi ?hx ?_; (case hd => rfl); (case hg => rfl); (case ho => rfl); (case hi => rfl); (case hx => rfl)) | (go_at_call 92; (with_reducible refine (HN.out _).mono ?_); rintro e_ w11 ⟨rfl, hb_⟩; clear z0_ z1_ zn_ zf_; have n0_ : Aside0 (Own w w11 [(gA, a, false), (gB, b, true), (gR, 0, false), (gN, P, false), (gX, X, false)]) := ⟨HO.out.call hb_⟩; clear HO hb_; have HO := n0_; clear n0_; have z0_ := HO.out.neg 0 rfl; have z1_ := HO.out.neg 1 rfl; have zn_ := HO.out.neg 3 rfl; have zf_ := HO.out.free 3 136 rfl))
        refine num_abs (w0 := w) (l := [(gA, a, false), (gB, b, true), (gR, 0, false), (gN, P, (!z)), (gX, X, false)]) (HO.out.sign 3 rfl _) ?_
        intro w12 hO_
        clear HO
        have HO := Aside0.mk hO_
        clear hO_
        clear z0_ z1_ zn_ zf_
        go_wp2_with (first | ((with_reducible refine gate_dst (N := 33) rfl ?_); refine num_load ?hg (N := 33) ?hd (.tmp 5) ?ho HO.out 3 (g := gN) (m := P) (s := (!z)) ?hi ?hx ?_; (case hd => rfl); (case hg => rfl); (case ho => rfl); (case hi => rfl); (case hx => rfl)) | ((with_reducible refine gate_store (t := 113) (p := 4) (v := .tmp 33) rfl ?_); refine num_store ?hg (.tmp 4) (.tmp 33) ?ho HO.out 2 (g := gR) (m := 0) (s := false) (m' := P) (s' := (!z)) ?hi ?hx ?hy ?_; (case hg => rfl); (case ho => rfl); (case hi => rfl); (case hx => rfl); (case hy => rfl); intro w13 hO_; have n0_ : Aside0 (Own w w13 [(gA, a, false), (gB, b, true), (gR, P, (!z)), (gN, P, (!z)), (gX, X, false)]) := ⟨hO_⟩; clear HO hO_; have HO := n0_; clear n0_))
        exact bodyPost_ret (num_result rfl HO.out 2 rfl _ rfl) rfl ⟨by first | rfl | simp, HO.out.below⟩
  case true.false =>
    go_enter Try.func89, Try.ntmps89
    go_wp2_with (first | ((with_reducible refine gate_dst (N := 2) rfl ?_); refine num_new ?hg (N := 2) ?hd (cs := numC a true) HO.out a true ?hc ?hr ?_; (case hc => first | rfl | exact zcNum); (case hd => rfl); (case hg => rfl); (case hr => first | (go_simp; done) | (go_simp; rfl)); intro gA w1 hO_; have n0_ : Aside0 (Own w w1 [(gA, a, true)]) := ⟨hO_⟩; clear HO hO_; have HO := n0_; clear n0_) | ((with_reducible refine gate_dst (N := 3) rfl ?_); refine num_new ?hg (N := 3) ?hd (cs := numC b false) HO.out b false ?hc ?hr ?_; (case hc => first | rfl | exact zcNum); (case hd => rfl); (case hg => rfl); (case hr => first | (go_simp; done) | (go_simp; rfl)); intro gB w2 hO_; have n0_ : Aside0 (Own w w2 [(gA, a, true), (gB, b, false)]) := ⟨hO_⟩; clear HO hO_; have HO := n0_; clear n0_) | ((with_reducible refine gate_dst (N := 4) rfl ?_); refine num_new ?hg (N := 4) ?hd (cs := Try.zeroCells113) HO.out 0 false ?hc ?hr ?_; (case hc => first | rfl | exact zcNum); (case hd => rfl); (case hg => rfl); (case hr => first | (go_simp; done) | (go_simp; rfl)); intro gR w3 hO_; have n0_ : Aside0 (Own w w3 [(gA, a, true), (gB, b, false), (gR, 0, false)]) := ⟨hO_⟩; clear HO hO_; have HO := n0_; clear n0_) | ((with_reducible refine gate_dst (N := 5) rfl ?_); refine num_new ?hg (N := 5) ?hd (cs := Try.zeroCells113) HO.out 0 false ?hc ?hr ?_; (case hc => first | rfl | exact zcNum); (case hd => rfl); (case hg => rfl); (case hr => first | (go_simp; done) | (go_simp; rfl)); intro gN w4 hO_; have n0_ : Aside0 (Own w w4 [(gA, a, true), (gB, b, false), (gR, 0, false), (gN, 0, false)]) := ⟨hO_⟩; clear HO hO_; have HO := n0_; clear n0_) | ((with_reducible refine gate_dst (N := 8) rfl ?_); refine num_load ?hg (N := 8) ?hd (.tmp 2) ?ho HO.out 0 (g := gA) (m := a) (s := true) ?hi ?hx ?_; (case hd => rfl); (case hg => rfl); (case ho => rfl); (case hi => rfl); (case hx => rfl)) | ((with_reducible refine gate_dst (N := 6) rfl ?_); refine num_new ?hg (N := 6) ?hd (cs := Try.zeroCells113) HO.out 0 false ?hc ?hr ?_; (case hc => first | rfl | exact zcNum); (case hd => rfl); (case hg => rfl); (case hr => first | (go_simp; done) | (go_simp; rfl)); intro gX w5 hO_; have n0_ : Aside0 (Own w w5 [(gA, a, true), (gB, b, false), (gR, 0, false), (gN, 0, false), (gX, 0, false)]) := ⟨hO_⟩; clear HO hO_; have HO := n0_; clear n0_) | ((with_reducible refine gate_store (t := 113) (p := 6) (v := .tmp 8) rfl ?_); refine num_store ?hg (.tmp 6) (.tmp 8) ?ho HO.out 4 (g := gX) (m := 0) (s := false) (m' := a) (s' := true) ?hi ?hx ?hy ?_; (case hg => rfl); (case ho => rfl); (case hi => rfl); (case hx => rfl); (case hy => rfl); intro w6 hO_; have n0_ : Aside0 (Own w w6 [(gA, a, true), (gB, b, false), (gR, 0, false), (gN, 0, false), (gX, a, true)]) := ⟨hO_⟩; clear HO hO_; have HO := n0_; clear n0_))
    go_loopg [7] 64 (fun kq v7 wr => ∃ k : Nat, v7 = .int .i64 k ∧ Aside0 (k + kq = 64) ∧ Aside0 (Own w wr [(gA, a, true), (gB, b, false), (gR, 0, false), (gN, (a * (b % 2 ^ k)), false), (gX, (a * 2 ^ k), true)]))
    case atStart => exact ⟨0, rfl, ⟨rfl⟩, ⟨by have h := HO.out; simp only [Nat.pow_zero, Nat.mod_one, Nat.mul_zero, Nat.mul_one]; exact h⟩⟩
    case round =>
      clear HO
      obtain ⟨k, rfl, HK, HO⟩ := hrel
      by_cases hk : k < 64
      · have hd : decide ((k : Int) < 64) = true := decide_eq_true (by omega)
        have zb_ := HO.out.cell 1 k rfl (by omega)
        have HE2 := Aside0.mk (show 2 * (a * 2 ^ k) = a * 2 ^ (k + 1) by rw [Nat.pow_succ, Nat.mul_left_comm, Nat.mul_comm 2])
        have hm := Nat.mod_pow_succ (b := 2) (k := k) (x := b)
        have ht := tb_div b k
        rw [← ht] at hm
        cases hxb : b.testBit k
        case true =>
          rw [hxb] at zb_ hm
          have HE1 := Aside0.mk (show a * (b % 2 ^ k) + a * 2 ^ k = a * (b % 2 ^ (k + 1)) by rw [hm, ← Nat.mul_add]; simp)
          clear hxb hm ht
          go_wp2_with (first | ((with_reducible refine gate_dst (N := 17) rfl ?_); refine num_load ?hg (N := 17) ?hd (.tmp 5) ?ho HO.out 3 (g := gN) (m := (a * (b % 2 ^ k))) (s := false) ?hi ?hx ?_; (case hd => rfl); (case hg => rfl); (case ho => rfl); (case hi => rfl); (case hx => rfl)) | ((with_reducible refine gate_dst (N := 18) rfl ?_); refine num_load ?hg (N := 18) ?hd (.tmp 6) ?ho HO.out 4 (g := gX) (m := (a * 2 ^ k)) (s := true) ?hi ?hx ?_; (case hd => rfl); (case hg => rfl); (case ho => rfl); (case hi => rfl); (case hx => rfl)) | (go_at_call 95; (with_reducible refine (num_more _ _ _ _ _).mono ?_); rintro e_ w7 ⟨rfl, hb_⟩; have n0_ : Aside0 (Own w w7 [(gA, a, true), (gB, b, false), (gR, 0, false), (gN, (a * (b % 2 ^ k)), false), (gX, (a * 2 ^ k), true)]) := ⟨HO.out.call hb_⟩; clear zb_ HO hb_; have HO := n0_; clear n0_) | ((with_reducible refine gate_store (t := 113) (p := 5) (v := .tmp 19) rfl ?_); refine num_store ?hg (.tmp 5) (.tmp 19) ?ho HO.out 3 (g := gN) (m := (a * (b % 2 ^ k))) (s := false) (m' := (a * (b % 2 ^ k) + a * 2 ^ k)) (s' := false) ?hi ?hx ?hy ?_; (case hg => rfl); (case ho => rfl); (case hi => rfl); (case hx => rfl); (case hy => rfl); intro w8 hO_; have n0_ : Aside0 (Own w w8 [(gA, a, true), (gB, b, false), (gR, 0, false), (gN, (a * (b % 2 ^ k) + a * 2 ^ k), false), (gX, (a * 2 ^ k), true)]) := ⟨hO_⟩; clear HO hO_; have HO := n0_; clear n0_) | ((with_reducible refine gate_dst (N := 20) rfl ?_); refine num_load ?hg (N := 20) ?hd (.tmp 6) ?ho HO.out 4 (g := gX) (m := (a * 2 ^ k)) (s := true) ?hi ?hx ?_; (case hd => rfl); (case hg => rfl); (case ho => rfl); (case hi => rfl); (case hx => rfl)) | (go_at_call 93; (with_reducible refine (num_twice _ _ _).mono ?_); rintro e_ w9 ⟨rfl, hb_⟩; have n0_ : Aside0 (Own w w9 [(gA, a, true), (gB, b, false), (gR, 0, false), (gN, (a * (b % 2 ^ k) + a * 2 ^ k), false), (gX, (a * 2 ^ k), true)]) := ⟨HO.out.call hb_⟩; clear HO hb_; have HO := n0_; clear n0_) | ((with_reducible refine gate_store (t := 113) (p := 6) (v := .tmp 21) rfl ?_); refine num_store ?hg (.tmp 6) (.tmp 21) ?ho HO.out 4 (g := gX) (m := (a * 2 ^ k)) (s := true) (m' := (2 * (a * 2 ^ k))) (s' := true) ?hi ?hx ?hy ?_; (case hg => rfl); (case ho => rfl); (case hi => rfl); (case hx => rfl); (case hy => rfl); intro w10 hO_; have n0_ : Aside0 (Own w w10 [(gA, a, true), (gB, b, false), (gR, 0, false), (gN, (a * (b % 2 ^ k) + a * 2 ^ k), false), (gX, (2 * (a * 2 ^ k)), true)]) := ⟨hO_⟩; clear HO hO_; have HO := n0_; clear n0_))
          go_roundg (gk - 1)
          case measure => have := HK.out; omega
          case rel => exact ⟨k + 1, by go_num, ⟨by have := HK.out; omega⟩, ⟨by have h := HO.out; rw [HE1.out, HE2.out] at h; exact h⟩⟩
        case false =>
          rw [hxb] at zb_ hm
          have HE1 := Aside0.mk (show a * (b % 2 ^ k) = a * (b % 2 ^ (k + 1)) by rw [hm]; simp)
          clear hxb hm ht
          go_wp2_with (first | ((with_reducible refine gate_dst (N := 20) rfl ?_); refine num_load ?hg (N := 20) ?hd (.tmp 6) ?ho HO.out 4 (g := gX) (m := (a * 2 ^ k)) (s := true) ?hi ?hx ?_; (case hd => rfl); (case hg => rfl); (case ho => rfl); (case hi => rfl); (case hx => rfl)) | (go_at_call 93; (with_reducible refine (num_twice _ _ _).mono ?_); rintro e_ w9 ⟨rfl, hb_⟩; have n0_ : Aside0 (Own w w9 [(gA, a, true), (gB, b, false), (gR, 0, false), (gN, (a * (b % 2 ^ k)), false), (gX, (a * 2 ^ k), true)]) := ⟨HO.out.call hb_⟩; clear HO hb_; have HO := n0_; clear n0_) | ((with_reducible refine gate_store (t := 113) (p := 6) (v := .tmp 21) rfl ?_); refine num_store ?hg (.tmp 6) (.tmp 21) ?ho HO.out 4 (g := gX) (m := (a * 2 ^ k)) (s := true) (m' := (2 * (a * 2 ^ k))) (s' := true) ?hi ?hx ?hy ?_; (case hg => rfl); (case ho => rfl); (case hi => rfl); (case hx => rfl); (case hy => rfl); intro w10 hO_; have n0_ : Aside0 (Own w w10 [(gA, a, true), (gB, b, false), (gR, 0, false), (gN, (a * (b % 2 ^ k)), false), (gX, (2 * (a * 2 ^ k)), true)]) := ⟨hO_⟩; clear HO hO_; have HO := n0_; clear n0_))
          go_roundg (gk - 1)
          case measure => have := HK.out; omega
          case rel => exact ⟨k + 1, by go_num, ⟨by have := HK.out; omega⟩, ⟨by have h := HO.out; rw [HE1.out, HE2.out] at h; exact h⟩⟩
      · have hd : decide ((k : Int) < 64) = false := decide_eq_false (by omega)
        have hk64 : k = 64 := by have := HK.out; omega
        have HE := Aside0.mk (show a * (b % 2 ^ k) = a * b by rw [hk64, Nat.mod_eq_of_lt HB64.out])
        clear hk64
        obtain ⟨X, hX⟩ : ∃ X, a * 2 ^ k = X := ⟨_, rfl⟩
        have n0_ : Aside0 (Own w wr [(gA, a, true), (gB, b, false), (gR, 0, false), (gN, P, false), (gX, X, true)]) := ⟨by have h := HO.out; rw [HE.out, hX, HP.out] at h; exact h⟩
        clear HO; have HO := n0_; clear n0_
        clear hX HE
        have z0_ := HO.out.neg 0 rfl
        have z1_ := HO.out.neg 1 rfl
        have zn_ := HO.out.neg 3 rfl
        have zf_ := HO.out.free 3 136 rfl
        go_upto_region 10 with (first | ((with_reducible refine gate_dst (N := 28) rfl ?_); (refine gate_guard (by rfl) ?_; dsimp only); refine num_load ?hg (N := 28) ?hd (.tmp 5) ?ho HO.out 3 (g := gN) (m := P) (s := false) ?hi ?hx ?_; (case hd => rfl); (case hg => rfl); (case ho => rfl); (case hi => rfl); (case hx => rfl)) | (go_at_call 92; (with_reducible refine (HN.out _).mono ?_); rintro e_ w11 ⟨rfl, hb_⟩; clear z0_ z1_ zn_ zf_; have n0_ : Aside0 (Own w w11 [(gA, a, true), (gB, b, false), (gR, 0, false), (gN, P, false), (gX, X, true)]) := ⟨HO.out.call hb_⟩; clear HO hb_; have HO := n0_; clear n0_; have z0_ := HO.out.neg 0 rfl; have z1_ := HO.out.neg 1 rfl; have zn_ := HO.out.neg 3 rfl; have zf_ := HO.out.free 3 136 rfl))
        refine num_abs (w0 := w) (l := [(gA, a, true), (gB, b, false), (gR, 0, false), (gN, P, (!z)), (gX, X, true)]) (HO.out.sign 3 rfl _) ?_
        intro w12 hO_
        clear HO
        have HO := Aside0.mk hO_
        clear hO_
        clear z0_ z1_ zn_ zf_
        go_wp2_with (first | ((with_reducible refine gate_dst (N := 33) rfl ?_); refine num_load ?hg (N := 33) ?hd (.tmp 5) ?ho HO.out 3 (g := gN) (m := P) (s := (!z)) ?hi ?hx ?_; (case hd => rfl); (case hg => rfl); (case ho => rfl); (case hi => rfl); (case hx => rfl)) | ((with_reducible refine gate_store (t := 113) (p := 4) (v := .tmp 33) rfl ?_); refine num_store ?hg (.tmp 4) (.tmp 33) ?ho HO.out 2 (g := gR) (m := 0) (s := false) (m' := P) (s' := (!z)) ?hi ?hx ?hy ?_; (case hg => rfl); (case ho => rfl); (case hi => rfl); (case hx => rfl); (case hy => rfl); intro w13 hO_; have n0_ : Aside0 (Own w w13 [(gA, a, true), (gB, b, false), (gR, P, (!z)), (gN, P, (!z)), (gX, X, true)]) := ⟨hO_⟩; clear HO hO_; have HO := n0_; clear n0_))
        exact bodyPost_ret (num_result rfl HO.out 2 rfl _ rfl) rfl ⟨by first | rfl | simp, HO.out.below⟩
  case true.true =>
    go_enter Try.func89, Try.ntmps89
    go_wp2_with (first | ((with_reducible refine gate_dst (N := 2) rfl ?_); refine num_new ?hg (N := 2) ?hd (cs := numC a true) HO.out a true ?hc ?hr ?_; (case hc => first | rfl | exact zcNum); (case hd => rfl); (case hg => rfl); (case hr => first | (go_simp; done) | (go_simp; rfl)); intro gA w1 hO_; have n0_ : Aside0 (Own w w1 [(gA, a, true)]) := ⟨hO_⟩; clear HO hO_; have HO := n0_; clear n0_) | ((with_reducible refine gate_dst (N := 3) rfl ?_); refine num_new ?hg (N := 3) ?hd (cs := numC b true) HO.out b true ?hc ?hr ?_; (case hc => first | rfl | exact zcNum); (case hd => rfl); (case hg => rfl); (case hr => first | (go_simp; done) | (go_simp; rfl)); intro gB w2 hO_; have n0_ : Aside0 (Own w w2 [(gA, a, true), (gB, b, true)]) := ⟨hO_⟩; clear HO hO_; have HO := n0_; clear n0_) | ((with_reducible refine gate_dst (N := 4) rfl ?_); refine num_new ?hg (N := 4) ?hd (cs := Try.zeroCells113) HO.out 0 false ?hc ?hr ?_; (case hc => first | rfl | exact zcNum); (case hd => rfl); (case hg => rfl); (case hr => first | (go_simp; done) | (go_simp; rfl)); intro gR w3 hO_; have n0_ : Aside0 (Own w w3 [(gA, a, true), (gB, b, true), (gR, 0, false)]) := ⟨hO_⟩; clear HO hO_; have HO := n0_; clear n0_) | ((with_reducible refine gate_dst (N := 5) rfl ?_); refine num_new ?hg (N := 5) ?hd (cs := Try.zeroCells113) HO.out 0 false ?hc ?hr ?_; (case hc => first | rfl | exact zcNum); (case hd => rfl); (case hg => rfl); (case hr => first | (go_simp; done) | (go_simp; rfl)); intro gN w4 hO_; have n0_ : Aside0 (Own w w4 [(gA, a, true), (gB, b, true), (gR, 0, false), (gN, 0, false)]) := ⟨hO_⟩; clear HO hO_; have HO := n0_; clear n0_) | ((with_reducible refine gate_dst (N := 8) rfl ?_); refine num_load ?hg (N := 8) ?hd (.tmp 2) ?ho HO.out 0 (g := gA) (m := a) (s := true) ?hi ?hx ?_; (case hd => rfl); (case hg => rfl); (case ho => rfl); (case hi => rfl); (case hx => rfl)) | ((with_reducible refine gate_dst (N := 6) rfl ?_); refine num_new ?hg (N := 6) ?hd (cs := Try.zeroCells113) HO.out 0 false ?hc ?hr ?_; (case hc => first | rfl | exact zcNum); (case hd => rfl); (case hg => rfl); (case hr => first | (go_simp; done) | (go_simp; rfl)); intro gX w5 hO_; have n0_ : Aside0 (Own w w5 [(gA, a, true), (gB, b, true), (gR, 0, false), (gN, 0, false), (gX, 0, false)]) := ⟨hO_⟩; clear HO hO_; have HO := n0_; clear n0_) | ((with_reducible refine gate_store (t := 113) (p := 6) (v := .tmp 8) rfl ?_); refine num_store ?hg (.tmp 6) (.tmp 8) ?ho HO.out 4 (g := gX) (m := 0) (s := false) (m' := a) (s' := true) ?hi ?hx ?hy ?_; (case hg => rfl); (case ho => rfl); (case hi => rfl); (case hx => rfl); (case hy => rfl); intro w6 hO_; have n0_ : Aside0 (Own w w6 [(gA, a, true), (gB, b, true), (gR, 0, false), (gN, 0, false), (gX, a, true)]) := ⟨hO_⟩; clear HO hO_; have HO := n0_; clear n0_))
    go_loopg [7] 64 (fun kq v7 wr => ∃ k : Nat, v7 = .int .i64 k ∧ Aside0 (k + kq = 64) ∧ Aside0 (Own w wr [(gA, a, true), (gB, b, true), (gR, 0, false), (gN, (a * (b % 2 ^ k)), false), (gX, (a * 2 ^ k), true)]))
    case atStart => exact ⟨0, rfl, ⟨rfl⟩, ⟨by have h := HO.out; simp only [Nat.pow_zero, Nat.mod_one, Nat.mul_zero, Nat.mul_one]; exact h⟩⟩
    case round =>
      clear HO
      obtain ⟨k, rfl, HK, HO⟩ := hrel
      by_cases hk : k < 64
      · have hd : decide ((k : Int) < 64) = true := decide_eq_true (by omega)
        have zb_ := HO.out.cell 1 k rfl (by omega)
        have HE2 := Aside0.mk (show 2 * (a * 2 ^ k) = a * 2 ^ (k + 1) by rw [Nat.pow_succ, Nat.mul_left_comm, Nat.mul_comm 2])
        have hm := Nat.mod_pow_succ (b := 2) (k := k) (x := b)
        have ht := tb_div b k
        rw [← ht] at hm
        cases hxb : b.testBit k
        case true =>
          rw [hxb] at zb_ hm
          have HE1 := Aside0.mk (show a * (b % 2 ^ k) + a * 2 ^ k = a * (b % 2 ^ (k + 1)) by rw [hm, ← Nat.mul_add]; simp)
          clear hxb hm ht
          go_wp2_with (first | ((with_reducible refine gate_dst (N := 17) rfl ?_); refine num_load ?hg (N := 17) ?hd (.tmp 5) ?ho HO.out 3 (g := gN) (m := (a * (b % 2 ^ k))) (s := false) ?hi ?hx ?_; (case hd => rfl); (case hg => rfl); (case ho => rfl); (case hi => rfl); (case hx => rfl)) | ((with_reducible refine gate_dst (N := 18) rfl ?_); refine num_load ?hg (N := 18) ?hd (.tmp 6) ?ho HO.out 4 (g := gX) (m := (a * 2 ^ k)) (s := true) ?hi ?hx ?_; (case hd => rfl); (case hg => rfl); (case ho => rfl); (case hi => rfl); (case hx => rfl)) | (go_at_call 95; (with_reducible refine (num_more _ _ _ _ _).mono ?_); rintro e_ w7 ⟨rfl, hb_⟩; have n0_ : Aside0 (Own w w7 [(gA, a, true), (gB, b, true), (gR, 0, false), (gN, (a * (b % 2 ^ k)), false), (gX, (a * 2 ^ k), true)]) := ⟨HO.out.call hb_⟩; clear zb_ HO hb_; have HO := n0_; clear n0_) | ((with_reducible refine gate_store (t := 113) (p := 5) (v := .tmp 19) rfl ?_); refine num_store ?hg (.tmp 5) (.tmp 19) ?ho HO.out 3 (g := gN) (m := (a * (b % 2 ^ k))) (s := false) (m' := (a * (b % 2 ^ k) + a * 2 ^ k)) (s' := false) ?hi ?hx ?hy ?_; (case hg => rfl); (case ho => rfl); (case hi => rfl); (case hx => rfl); (case hy => rfl); intro w8 hO_; have n0_ : Aside0 (Own w w8 [(gA, a, true), (gB, b, true), (gR, 0, false), (gN, (a * (b % 2 ^ k) + a * 2 ^ k), false), (gX, (a * 2 ^ k), true)]) := ⟨hO_⟩; clear HO hO_; have HO := n0_; clear n0_) | ((with_reducible refine gate_dst (N := 20) rfl ?_); refine num_load ?hg (N := 20) ?hd (.tmp 6) ?ho HO.out 4 (g := gX) (m := (a * 2 ^ k)) (s := true) ?hi ?hx ?_; (case hd => rfl); (case hg => rfl); (case ho => rfl); (case hi => rfl); (case hx => rfl)) | (go_at_call 93; (with_reducible refine (num_twice _ _ _).mono ?_); rintro e_ w9 ⟨rfl, hb_⟩; have n0_ : Aside0 (Own w w9 [(gA, a, true), (gB, b, true), (gR, 0, false), (gN, (a * (b % 2 ^ k) + a * 2 ^ k), false), (gX, (a * 2 ^ k), true)]) := ⟨HO.out.call hb_⟩; clear HO hb_; have HO := n0_; clear n0_) | ((with_reducible refine gate_store (t := 113) (p := 6) (v := .tmp 21) rfl ?_); refine num_store ?hg (.tmp 6) (.tmp 21) ?ho HO.out 4 (g := gX) (m := (a * 2 ^ k)) (s := true) (m' := (2 * (a * 2 ^ k))) (s' := true) ?hi ?hx ?hy ?_; (case hg => rfl); (case ho => rfl); (case hi => rfl); (case hx => rfl); (case hy => rfl); intro w10 hO_; have n0_ : Aside0 (Own w w10 [(gA, a, true), (gB, b, true), (gR, 0, false), (gN, (a * (b % 2 ^ k) + a * 2 ^ k), false), (gX, (2 * (a * 2 ^ k)), true)]) := ⟨hO_⟩; clear HO hO_; have HO := n0_; clear n0_))
          go_roundg (gk - 1)
          case measure => have := HK.out; omega
          case rel => exact ⟨k + 1, by go_num, ⟨by have := HK.out; omega⟩, ⟨by have h := HO.out; rw [HE1.out, HE2.out] at h; exact h⟩⟩
        case false =>
          rw [hxb] at zb_ hm
          have HE1 := Aside0.mk (show a * (b % 2 ^ k) = a * (b % 2 ^ (k + 1)) by rw [hm]; simp)
          clear hxb hm ht
          go_wp2_with (first | ((with_reducible refine gate_dst (N := 20) rfl ?_); refine num_load ?hg (N := 20) ?hd (.tmp 6) ?ho HO.out 4 (g := gX) (m := (a * 2 ^ k)) (s := true) ?hi ?hx ?_; (case hd => rfl); (case hg => rfl); (case ho => rfl); (case hi => rfl); (case hx => rfl)) | (go_at_call 93; (with_reducible refine (num_twice _ _ _).mono ?_); rintro e_ w9 ⟨rfl, hb_⟩; have n0_ : Aside0 (Own w w9 [(gA, a, true), (gB, b, true), (gR, 0, false), (gN, (a * (b % 2 ^ k)), false), (gX, (a * 2 ^ k), true)]) := ⟨HO.out.call hb_⟩; clear HO hb_; have HO := n0_; clear n0_) | ((with_reducible refine gate_store (t := 113) (p := 6) (v := .tmp 21) rfl ?_); refine num_store ?hg (.tmp 6) (.tmp 21) ?ho HO.out 4 (g := gX) (m := (a * 2 ^ k)) (s := true) (m' := (2 * (a * 2 ^ k))) (s' := true) ?hi ?hx ?hy ?_; (case hg => rfl); (case ho => rfl); (case hi => rfl); (case hx => rfl); (case hy => rfl); intro w10 hO_; have n0_ : Aside0 (Own w w10 [(gA, a, true), (gB, b, true), (gR, 0, false), (gN, (a * (b % 2 ^ k)), false), (gX, (2 * (a * 2 ^ k)), true)]) := ⟨hO_⟩; clear HO hO_; have HO := n0_; clear n0_))
          go_roundg (gk - 1)
          case measure => have := HK.out; omega
          case rel => exact ⟨k + 1, by go_num, ⟨by have := HK.out; omega⟩, ⟨by have h := HO.out; rw [HE1.out, HE2.out] at h; exact h⟩⟩
      · have hd : decide ((k : Int) < 64) = false := decide_eq_false (by omega)
        have hk64 : k = 64 := by have := HK.out; omega
        have HE := Aside0.mk (show a * (b % 2 ^ k) = a * b by rw [hk64, Nat.mod_eq_of_lt HB64.out])
        clear hk64
        obtain ⟨X, hX⟩ : ∃ X, a * 2 ^ k = X := ⟨_, rfl⟩
        have n0_ : Aside0 (Own w wr [(gA, a, true), (gB, b, true), (gR, 0, false), (gN, P, false), (gX, X, true)]) := ⟨by have h := HO.out; rw [HE.out, hX, HP.out] at h; exact h⟩
        clear HO; have HO := n0_; clear n0_
        clear hX HE
        have z0_ := HO.out.neg 0 rfl
        have z1_ := HO.out.neg 1 rfl
        have zn_ := HO.out.neg 3 rfl
        have zf_ := HO.out.free 3 136 rfl
        go_upto_region 10 with (first | ((with_reducible refine gate_dst (N := 28) rfl ?_); (refine gate_guard (by rfl) ?_; dsimp only); refine num_load ?hg (N := 28) ?hd (.tmp 5) ?ho HO.out 3 (g := gN) (m := P) (s := false) ?hi ?hx ?_; (case hd => rfl); (case hg => rfl); (case ho => rfl); (case hi => rfl); (case hx => rfl)) | (go_at_call 92; (with_reducible refine (HN.out _).mono ?_); rintro e_ w11 ⟨rfl, hb_⟩; clear z0_ z1_ zn_ zf_; have n0_ : Aside0 (Own w w11 [(gA, a, true), (gB, b, true), (gR, 0, false), (gN, P, false), (gX, X, true)]) := ⟨HO.out.call hb_⟩; clear HO hb_; have HO := n0_; clear n0_; have z0_ := HO.out.neg 0 rfl; have z1_ := HO.out.neg 1 rfl; have zn_ := HO.out.neg 3 rfl; have zf_ := HO.out.free 3 136 rfl))
        refine num_abs (w0 := w) (l := [(gA, a, true), (gB, b, true), (gR, 0, false), (gN, P, false), (gX, X, true)]) (HO.out.sign 3 rfl _) ?_
        intro w12 hO_
        clear HO
        have HO := Aside0.mk hO_
        clear hO_
        clear z0_ z1_ zn_ zf_
        go_wp2_with (first | ((with_reducible refine gate_dst (N := 33) rfl ?_); refine num_load ?hg (N := 33) ?hd (.tmp 5) ?ho HO.out 3 (g := gN) (m := P) (s := false) ?hi ?hx ?_; (case hd => rfl); (case hg => rfl); (case ho => rfl); (case hi => rfl); (case hx => rfl)) | ((with_reducible refine gate_store (t := 113) (p := 4) (v := .tmp 33) rfl ?_); refine num_store ?hg (.tmp 4) (.tmp 33) ?ho HO.out 2 (g := gR) (m := 0) (s := false) (m' := P) (s' := false) ?hi ?hx ?hy ?_; (case hg => rfl); (case ho => rfl); (case hi => rfl); (case hx => rfl); (case hy => rfl); intro w13 hO_; have n0_ : Aside0 (Own w w13 [(gA, a, true), (gB, b, true), (gR, P, false), (gN, P, false), (gX, X, true)]) := ⟨hO_⟩; clear HO hO_; have HO := n0_; clear n0_))
        exact bodyPost_ret (num_result rfl HO.out 2 rfl _ rfl) rfl ⟨by first | rfl | simp, HO.out.below⟩

/-! ### jobberref01_Mul: function 63 (by hand) -/
def jobberref01_Mul.f (a0 a1 : Int) : Option (Int × Int) := if (-9223372036854775808 ≤ a0 ∧ a0 ≤ 9223372036854775807) ∧ (-9223372036854775808 ≤ a1 ∧ a1 ≤ 9223372036854775807) then some (toldV (a0 * a1)) else none
set_option maxHeartbeats 8000000 in
set_option maxRecDepth 100000 in
theorem jobberref01_Mul.calls (a0 a1 : Int) (r1 r2 : Int) (w : World) (h : jobberref01_Mul.f a0 a1 = some (r1, r2)) :
    Calls Try.prog 63 #[.int .i64 a0, .int .i64 a1] w fun e w' => e = .returned (.tuple #[.int .i64 r1, .int .i64 r2]) ∧ Below w.heap.size w w' := by
  unfold jobberref01_Mul.f at h
  by_cases hh : (-9223372036854775808 ≤ a0 ∧ a0 ≤ 9223372036854775807) ∧ (-9223372036854775808 ≤ a1 ∧ a1 ≤ 9223372036854775807)
  case neg => rw [if_neg hh] at h; cases h
  rw [if_pos hh] at h
  have h := Option.some.inj h
  obtain ⟨⟨h1, h2⟩, h3, h4⟩ := hh
  have HB := Aside0.mk (Below.refl w.heap.size w)
  have H1 := Aside0.mk (fun w => num_of a0 h1 h2 w)
  have H2 := Aside0.mk (fun w => num_of a1 h3 h4 w)
  have e1 := sv_abs a0
  have e2 := sv_abs a1
  have b1 : a0.natAbs ≤ 9223372036854775808 := by omega
  have b2 : a1.natAbs ≤ 9223372036854775808 := by omega
  obtain ⟨m1, hm1⟩ : ∃ m, a0.natAbs = m := ⟨_, rfl⟩
  obtain ⟨m2, hm2⟩ : ∃ m, a1.natAbs = m := ⟨_, rfl⟩
  obtain ⟨s1, hs1⟩ : ∃ s, decide (a0 < 0) = s := ⟨_, rfl⟩
  obtain ⟨s2, hs2⟩ : ∃ s, decide (a1 < 0) = s := ⟨_, rfl⟩
  rw [hm1, hs1] at H1 e1
  rw [hm2, hs2] at H2 e2
  rw [hm1] at b1
  rw [hm2] at b2
  have hmb : m1 * m2 ≤ 9223372036854775808 * 9223372036854775808 := Nat.mul_le_mul b1 b2
  have p136 : (2 : Nat) ^ 136 = 87112285931760246646623899502532662132736 := by decide
  have HP := Aside0.mk (fun w => num_times m1 m2 s1 s2 (by omega) (by omega) w)
  have HT := Aside0.mk (fun w => (by
    have := num_told (m1 * m2) ((s1 != s2) && !decide (m1 * m2 = 0)) (by omega) w
    rw [sv_times, e1, e2, h] at this
    exact this : Calls Try.prog 96 #[.agg (numC (m1 * m2) ((s1 != s2) && !decide (m1 * m2 = 0)))] w fun e w' => e = .returned (.tuple #[.int .i64 r1, .int .i64 r2]) ∧ Below w.heap.size w w'))
  obtain ⟨m3, hm3⟩ : ∃ m, m1 * m2 = m := ⟨_, rfl⟩
  rw [hm3] at HP HT
  obtain ⟨s3, hs3⟩ : ∃ s, ((s1 != s2) && !decide (m3 = 0)) = s := ⟨_, rfl⟩
  rw [hs3] at HP HT
  clear p136 hs3 hm3 hmb
  clear h1 h2 h3 h4 hm1 hm2 hs1 hs2 b1 b2 e1 e2 h
  go_enter Try.func63, Try.ntmps63
  go_wp2_with (first | (go_at_call 90; first | ((with_reducible refine (H1.out _).mono ?_); rintro e_ wH1_ ⟨rfl, hb_⟩; have n0_ := Aside0.mk (below_step HB.out hb_); clear HB hb_; have HB := n0_; clear n0_) | ((with_reducible refine (H2.out _).mono ?_); rintro e_ wH2_ ⟨rfl, hb_⟩; have n0_ := Aside0.mk (below_step HB.out hb_); clear HB hb_; have HB := n0_; clear n0_)) | (go_at_call 89; (with_reducible refine (HP.out _).mono ?_); rintro e_ w3 ⟨rfl, hb_⟩; have n0_ := Aside0.mk (below_step HB.out hb_); clear HB hb_; have HB := n0_; clear n0_) | (go_at_call 96; (with_reducible refine (HT.out _).mono ?_); rintro e_ w9_ ⟨rfl, hb_⟩; have n0_ := Aside0.mk (below_step HB.out hb_); clear HB hb_; have HB := n0_; clear n0_))
  go_ret2
  exact ⟨rfl, HB.out⟩

/-! ### jobberlaw01_CoinAdds: function 13 -/
def jobberlaw01_CoinAdds.f (k : Nat) (a0 : Int) (a1 : Int) : Option (Bool) := (coin_Add.f a0 a1).bind fun bt131 => ((coin_Sub.f a0 a1).bind fun bt133 => ((coin_Mul.f k a0 a1).bind fun bt135 => ((jobberref01_Add.f a0 a1).bind fun bt137 => ((jobberref01_Sub.f a0 a1).bind fun bt139 => ((jobberref01_Mul.f a0 a1).bind fun bt141 => (if bt131.1 = bt137.1 then (if bt131.2 = bt137.2 then (if bt133.1 = bt139.1 then (if bt133.2 = bt139.2 then (if bt135.1 = bt141.1 then (if bt135.2 = bt141.2 then ((jobberlaw01_lives.f k).bind fun t143 => (some t143)) else (some false)) else (some false)) else (some false)) else (some false)) else (some false)) else (some false)))))))
theorem jobberlaw01_CoinAdds.mono : ∀ a0 a1 k, LeO (jobberlaw01_CoinAdds.f k a0 a1) (jobberlaw01_CoinAdds.f (k + 1) a0 a1) := by
  intro a0 a1 k
  unfold jobberlaw01_CoinAdds.f
  repeat' first
      | (with_reducible exact coin_Mul.mono _ _ _)
      | (with_reducible exact jobberlaw01_lives.mono _)
      | (with_reducible exact LeO.refl _)
      | (with_reducible exact LeO.none _)
      | (with_reducible refine LeO.ite ?_ ?_)
      | (with_reducible refine LeO.bind ?_ (fun _ => ?_))
      | exact coin_Mul.mono _ _ _
      | exact jobberlaw01_lives.mono _
      | exact LeO.none _
      | refine LeO.ite ?_ ?_
      | refine LeO.bind ?_ (fun _ => ?_)
set_option maxHeartbeats 8000000 in
set_option maxRecDepth 100000 in
theorem jobberlaw01_CoinAdds.calls (k : Nat) (a0 : Int) (a1 : Int) (r : Bool) (w : World) (h : jobberlaw01_CoinAdds.f k a0 a1 = some r) :
    Calls Try.prog 13 #[.int .i64 a0, .int .i64 a1] w fun e w' => e = .returned (.bool r) ∧ Below w.heap.size w w' := by
  have HB := Aside0.mk (Below.refl w.heap.size w)
  have H : ((coin_Add.f a0 a1).bind fun bt131 => ((coin_Sub.f a0 a1).bind fun bt133 => ((coin_Mul.f k a0 a1).bind fun bt135 => ((jobberref01_Add.f a0 a1).bind fun bt137 => ((jobberref01_Sub.f a0 a1).bind fun bt139 => ((jobberref01_Mul.f a0 a1).bind fun bt141 => (if bt131.1 = bt137.1 then (if bt131.2 = bt137.2 then (if bt133.1 = bt139.1 then (if bt133.2 = bt139.2 then (if bt135.1 = bt141.1 then (if bt135.2 = bt141.2 then ((jobberlaw01_lives.f k).bind fun t143 => (some t143)) else (some false)) else (some false)) else (some false)) else (some false)) else (some false)) else (some false)))))))) = some r := h
  clear h
  replace H := Option.bind_eq_some_iff.mp H
  obtain ⟨⟨t131, t132⟩, A30, H⟩ := H
  replace H : ((coin_Sub.f a0 a1).bind fun bt133 => ((coin_Mul.f k a0 a1).bind fun bt135 => ((jobberref01_Add.f a0 a1).bind fun bt137 => ((jobberref01_Sub.f a0 a1).bind fun bt139 => ((jobberref01_Mul.f a0 a1).bind fun bt141 => (if t131 = bt137.1 then (if t132 = bt137.2 then (if bt133.1 = bt139.1 then (if bt133.2 = bt139.2 then (if bt135.1 = bt141.1 then (if bt135.2 = bt141.2 then ((jobberlaw01_lives.f k).bind fun t143 => (some t143)) else (some false)) else (some false)) else (some false)) else (some false)) else (some false)) else (some false))))))) = some r := H
  have A3 := Aside0.mk A30
  clear A30
  replace H := Option.bind_eq_some_iff.mp H
  obtain ⟨⟨t133, t134⟩, A40, H⟩ := H
  replace H : ((coin_Mul.f k a0 a1).bind fun bt135 => ((jobberref01_Add.f a0 a1).bind fun bt137 => ((jobberref01_Sub.f a0 a1).bind fun bt139 => ((jobberref01_Mul.f a0 a1).bind fun bt141 => (if t131 = bt137.1 then (if t132 = bt137.2 then (if t133 = bt139.1 then (if t134 = bt139.2 then (if bt135.1 = bt141.1 then (if bt135.2 = bt141.2 then ((jobberlaw01_lives.f k).bind fun t143 => (some t143)) else (some false)) else (some false)) else (some false)) else (some false)) else (some false)) else (some false)))))) = some r := H
  have A4 := Aside0.mk A40
  clear A40
  replace H := Option.bind_eq_some_iff.mp H
  obtain ⟨⟨t135, t136⟩, A50, H⟩ := H
  replace H : ((jobberref01_Add.f a0 a1).bind fun bt137 => ((jobberref01_Sub.f a0 a1).bind fun bt139 => ((jobberref01_Mul.f a0 a1).bind fun bt141 => (if t131 = bt137.1 then (if t132 = bt137.2 then (if t133 = bt139.1 then (if t134 = bt139.2 then (if t135 = bt141.1 then (if t136 = bt141.2 then ((jobberlaw01_lives.f k).bind fun t143 => (some t143)) else (some false)) else (some false)) else (some false)) else (some false)) else (some false)) else (some false))))) = some r := H
  have A5 := Aside0.mk A50
  clear A50
  replace H := Option.bind_eq_some_iff.mp H
  obtain ⟨⟨t137, t138⟩, A60, H⟩ := H
  replace H : ((jobberref01_Sub.f a0 a1).bind fun bt139 => ((jobberref01_Mul.f a0 a1).bind fun bt141 => (if t131 = t137 then (if t132 = t138 then (if t133 = bt139.1 then (if t134 = bt139.2 then (if t135 = bt141.1 then (if t136 = bt141.2 then ((jobberlaw01_lives.f k).bind fun t143 => (some t143)) else (some false)) else (some false)) else (some false)) else (some false)) else (some false)) else (some false)))) = some r := H
  have A6 := Aside0.mk A60
  clear A60
  replace H := Option.bind_eq_some_iff.mp H
  obtain ⟨⟨t139, t140⟩, A70, H⟩ := H
  replace H : ((jobberref01_Mul.f a0 a1).bind fun bt141 => (if t131 = t137 then (if t132 = t138 then (if t133 = t139 then (if t134 = t140 then (if t135 = bt141.1 then (if t136 = bt141.2 then ((jobberlaw01_lives.f k).bind fun t143 => (some t143)) else (some false)) else (some false)) else (some false)) else (some false)) else (some false)) else (some false))) = some r := H
  have A7 := Aside0.mk A70
  clear A70
  replace H := Option.bind_eq_some_iff.mp H
  obtain ⟨⟨t141, t142⟩, A80, H⟩ := H
  replace H : (if t131 = t137 then (if t132 = t138 then (if t133 = t139 then (if t134 = t140 then (if t135 = t141 then (if t136 = t142 then ((jobberlaw01_lives.f k).bind fun t143 => (some t143)) else (some false)) else (some false)) else (some false)) else (some false)) else (some false)) else (some false)) = some r := H
  have A8 := Aside0.mk A80
  clear A80
  by_cases c9 : t131 = t137
  · rw [if_pos c9] at H
    have c9b0 : (t131 == t137) = true := beq_iff_eq.mpr c9
    have c9b1 : (t131 != t137) = false := bne_eq_false_iff_eq.mpr c9
    clear c9
    by_cases c10 : t132 = t138
    · rw [if_pos c10] at H
      have c10b0 : (t132 == t138) = true := beq_iff_eq.mpr c10
      have c10b1 : (t132 != t138) = false := bne_eq_false_iff_eq.mpr c10
      clear c10
      by_cases c11 : t133 = t139
      · rw [if_pos c11] at H
        have c11b0 : (t133 == t139) = true := beq_iff_eq.mpr c11
        have c11b1 : (t133 != t139) = false := bne_eq_false_iff_eq.mpr c11
        clear c11
        by_cases c12 : t134 = t140
        · rw [if_pos c12] at H
          have c12b0 : (t134 == t140) = true := beq_iff_eq.mpr c12
          have c12b1 : (t134 != t140) = false := bne_eq_false_iff_eq.mpr c12
          clear c12
          by_cases c13 : t135 = t141
          · rw [if_pos c13] at H
            have c13b0 : (t135 == t141) = true := beq_iff_eq.mpr c13
            have c13b1 : (t135 != t141) = false := bne_eq_false_iff_eq.mpr c13
            clear c13
            by_cases c14 : t136 = t142
            · rw [if_pos c14] at H
              have c14b0 : (t136 == t142) = true := beq_iff_eq.mpr c14
              have c14b1 : (t136 != t142) = false := bne_eq_false_iff_eq.mpr c14
              clear c14
              replace H := Option.bind_eq_some_iff.mp H
              obtain ⟨t143, A150, H⟩ := H
              replace H : (some t143) = some r := H
              have A15 := Aside0.mk A150
              clear A150
              obtain rfl := Option.some.inj H
              go_enter Try.func13, Try.ntmps13
              go_wp2_with (first | ((with_reducible refine gate_callee (f := 59) rfl ?_); refine goesL_ (some 20) rfl rfl Try.func59 (by kernel_rfl) rfl #[.int .i64 a0, .int .i64 a1] rfl (by (try simp only [List.map_toArray, List.map_cons, List.map_nil]); first | done | rfl | (simp only [List.length_drop, List.length_take]; rfl)) ?_; (with_reducible refine (coin_Add.calls a0 a1 t131 t132 _ A3.out).mono ?_); rintro e w' ⟨rfl, ⟨nd, rfl⟩⟩; refine ⟨_, rfl, ?_⟩) | ((with_reducible refine gate_callee (f := 58) rfl ?_); refine goesL_ (some 26) rfl rfl Try.func58 (by kernel_rfl) rfl #[.int .i64 a0, .int .i64 a1] rfl (by (try simp only [List.map_toArray, List.map_cons, List.map_nil]); first | done | rfl | (simp only [List.length_drop, List.length_take]; rfl)) ?_; (with_reducible refine (coin_Sub.calls a0 a1 t133 t134 _ A4.out).mono ?_); rintro e w' ⟨rfl, ⟨nd, rfl⟩⟩; refine ⟨_, rfl, ?_⟩) | ((with_reducible refine gate_callee (f := 60) rfl ?_); refine goesL_ (some 32) rfl rfl Try.func60 (by kernel_rfl) rfl #[.int .i64 a0, .int .i64 a1] rfl (by (try simp only [List.map_toArray, List.map_cons, List.map_nil]); first | done | rfl | (simp only [List.length_drop, List.length_take]; rfl)) ?_; (with_reducible refine (coin_Mul.calls k a0 a1 t135 t136 _ A5.out).mono ?_); rintro e w16 ⟨rfl, hb⟩; refine ⟨_, rfl, ?_⟩; have n0_ := Aside0.mk (below_step (by repeat (first | (with_reducible first | exact HB.out | apply below_alloc | apply pw_below_drewN | apply below_drew1) | exact HB.out)) hb); clear HB; have HB := n0_; clear n0_; (try clear hb); (try clear hb2); (try clear hk); (try clear hi)) | ((with_reducible refine gate_callee (f := 61) rfl ?_); refine goesL_ (some 38) rfl rfl Try.func61 (by kernel_rfl) rfl #[.int .i64 a0, .int .i64 a1] rfl (by (try simp only [List.map_toArray, List.map_cons, List.map_nil]); first | done | rfl | (simp only [List.length_drop, List.length_take]; rfl)) ?_; (with_reducible refine (jobberref01_Add.calls a0 a1 t137 t138 _ A6.out).mono ?_); rintro e w17 ⟨rfl, hb⟩; refine ⟨_, rfl, ?_⟩; have n0_ := Aside0.mk (below_step (by repeat (first | (with_reducible first | exact HB.out | apply below_alloc | apply pw_below_drewN | apply below_drew1) | exact HB.out)) hb); clear HB; have HB := n0_; clear n0_; (try clear hb); (try clear hb2); (try clear hk); (try clear hi)) | ((with_reducible refine gate_callee (f := 62) rfl ?_); refine goesL_ (some 44) rfl rfl Try.func62 (by kernel_rfl) rfl #[.int .i64 a0, .int .i64 a1] rfl (by (try simp only [List.map_toArray, List.map_cons, List.map_nil]); first | done | rfl | (simp only [List.length_drop, List.length_take]; rfl)) ?_; (with_reducible refine (jobberref01_Sub.calls a0 a1 t139 t140 _ A7.out).mono ?_); rintro e w18 ⟨rfl, hb⟩; refine ⟨_, rfl, ?_⟩; have n0_ := Aside0.mk (below_step (by repeat (first | (with_reducible first | exact HB.out | apply below_alloc | apply pw_below_drewN | apply below_drew1) | exact HB.out)) hb); clear HB; have HB := n0_; clear n0_; (try clear hb); (try clear hb2); (try clear hk); (try clear hi)) | ((with_reducible refine gate_callee (f := 63) rfl ?_); refine goesL_ (some 50) rfl rfl Try.func63 (by kernel_rfl) rfl #[.int .i64 a0, .int .i64 a1] rfl (by (try simp only [List.map_toArray, List.map_cons, List.map_nil]); first | done | rfl | (simp only [List.length_drop, List.length_take]; rfl)) ?_; (with_reducible refine (jobberref01_Mul.calls a0 a1 t141 t142 _ A8.out).mono ?_); rintro e w19 ⟨rfl, hb⟩; refine ⟨_, rfl, ?_⟩; have n0_ := Aside0.mk (below_step (by repeat (first | (with_reducible first | exact HB.out | apply below_alloc | apply pw_below_drewN | apply below_drew1) | exact HB.out)) hb); clear HB; have HB := n0_; clear n0_; (try clear hb); (try clear hb2); (try clear hk); (try clear hi)) | (go_at_call 57; (with_reducible refine (jobberlaw01_lives.calls k  t143 _ A15.out).mono ?_); rintro e w20 ⟨rfl, hb⟩; have n0_ := Aside0.mk (below_step (by repeat (first | (with_reducible first | exact HB.out | apply below_alloc | apply pw_below_drewN | apply below_drew1) | exact HB.out)) hb); clear HB; have HB := n0_; clear n0_; (try clear hb); (try clear hb2); (try clear hk); (try clear hi)))
              go_ret
              exact ⟨by first | rfl | (simp [errW_none, errW_some] <;> rfl) | (simp [*, errW_none, errW_some] <;> rfl), by repeat (first | (with_reducible first | exact HB.out | apply below_alloc | apply pw_below_drewN | apply below_drew1) | exact HB.out)⟩
            · rw [if_neg c14] at H
              have c14b0 : (t136 == t142) = false := beq_eq_false_iff_ne.mpr c14
              have c14b1 : (t136 != t142) = true := bne_iff_ne.mpr c14
              obtain rfl := Option.some.inj H
              go_enter Try.func13, Try.ntmps13
              go_wp2_with (first | ((with_reducible refine gate_callee (f := 59) rfl ?_); refine goesL_ (some 20) rfl rfl Try.func59 (by kernel_rfl) rfl #[.int .i64 a0, .int .i64 a1] rfl (by (try simp only [List.map_toArray, List.map_cons, List.map_nil]); first | done | rfl | (simp only [List.length_drop, List.length_take]; rfl)) ?_; (with_reducible refine (coin_Add.calls a0 a1 t131 t132 _ A3.out).mono ?_); rintro e w' ⟨rfl, ⟨nd, rfl⟩⟩; refine ⟨_, rfl, ?_⟩) | ((with_reducible refine gate_callee (f := 58) rfl ?_); refine goesL_ (some 26) rfl rfl Try.func58 (by kernel_rfl) rfl #[.int .i64 a0, .int .i64 a1] rfl (by (try simp only [List.map_toArray, List.map_cons, List.map_nil]); first | done | rfl | (simp only [List.length_drop, List.length_take]; rfl)) ?_; (with_reducible refine (coin_Sub.calls a0 a1 t133 t134 _ A4.out).mono ?_); rintro e w' ⟨rfl, ⟨nd, rfl⟩⟩; refine ⟨_, rfl, ?_⟩) | ((with_reducible refine gate_callee (f := 60) rfl ?_); refine goesL_ (some 32) rfl rfl Try.func60 (by kernel_rfl) rfl #[.int .i64 a0, .int .i64 a1] rfl (by (try simp only [List.map_toArray, List.map_cons, List.map_nil]); first | done | rfl | (simp only [List.length_drop, List.length_take]; rfl)) ?_; (with_reducible refine (coin_Mul.calls k a0 a1 t135 t136 _ A5.out).mono ?_); rintro e w21 ⟨rfl, hb⟩; refine ⟨_, rfl, ?_⟩; have n0_ := Aside0.mk (below_step (by repeat (first | (with_reducible first | exact HB.out | apply below_alloc | apply pw_below_drewN | apply below_drew1) | exact HB.out)) hb); clear HB; have HB := n0_; clear n0_; (try clear hb); (try clear hb2); (try clear hk); (try clear hi)) | ((with_reducible refine gate_callee (f := 61) rfl ?_); refine goesL_ (some 38) rfl rfl Try.func61 (by kernel_rfl) rfl #[.int .i64 a0, .int .i64 a1] rfl (by (try simp only [List.map_toArray, List.map_cons, List.map_nil]); first | done | rfl | (simp only [List.length_drop, List.length_take]; rfl)) ?_; (with_reducible refine (jobberref01_Add.calls a0 a1 t137 t138 _ A6.out).mono ?_); rintro e w22 ⟨rfl, hb⟩; refine ⟨_, rfl, ?_⟩; have n0_ := Aside0.mk (below_step (by repeat (first | (with_reducible first | exact HB.out | apply below_alloc | apply pw_below_drewN | apply below_drew1) | exact HB.out)) hb); clear HB; have HB := n0_; clear n0_; (try clear hb); (try clear hb2); (try clear hk); (try clear hi)) | ((with_reducible refine gate_callee (f := 62) rfl ?_); refine goesL_ (some 44) rfl rfl Try.func62 (by kernel_rfl) rfl #[.int .i64 a0, .int .i64 a1] rfl (by (try simp only [List.map_toArray, List.map_cons, List.map_nil]); first | done | rfl | (simp only [List.length_drop, List.length_take]; rfl)) ?_; (with_reducible refine (jobberref01_Sub.calls a0 a1 t139 t140 _ A7.out).mono ?_); rintro e w23 ⟨rfl, hb⟩; refine ⟨_, rfl, ?_⟩; have n0_ := Aside0.mk (below_step (by repeat (first | (with_reducible first | exact HB.out | apply below_alloc | apply pw_below_drewN | apply below_drew1) | exact HB.out)) hb); clear HB; have HB := n0_; clear n0_; (try clear hb); (try clear hb2); (try clear hk); (try clear hi)) | ((with_reducible refine gate_callee (f := 63) rfl ?_); refine goesL_ (some 50) rfl rfl Try.func63 (by kernel_rfl) rfl #[.int .i64 a0, .int .i64 a1] rfl (by (try simp only [List.map_toArray, List.map_cons, List.map_nil]); first | done | rfl | (simp only [List.length_drop, List.length_take]; rfl)) ?_; (with_reducible refine (jobberref01_Mul.calls a0 a1 t141 t142 _ A8.out).mono ?_); rintro e w24 ⟨rfl, hb⟩; refine ⟨_, rfl, ?_⟩; have n0_ := Aside0.mk (below_step (by repeat (first | (with_reducible first | exact HB.out | apply below_alloc | apply pw_below_drewN | apply below_drew1) | exact HB.out)) hb); clear HB; have HB := n0_; clear n0_; (try clear hb); (try clear hb2); (try clear hk); (try clear hi)))
              go_ret
              exact ⟨by first | rfl | (simp [errW_none, errW_some] <;> rfl) | (simp [*, errW_none, errW_some] <;> rfl), by repeat (first | (with_reducible first | exact HB.out | apply below_alloc | apply pw_below_drewN | apply below_drew1) | exact HB.out)⟩
          · rw [if_neg c13] at H
            have c13b0 : (t135 == t141) = false := beq_eq_false_iff_ne.mpr c13
            have c13b1 : (t135 != t141) = true := bne_iff_ne.mpr c13
            obtain rfl := Option.some.inj H
            go_enter Try.func13, Try.ntmps13
            go_wp2_with (first | ((with_reducible refine gate_callee (f := 59) rfl ?_); refine goesL_ (some 20) rfl rfl Try.func59 (by kernel_rfl) rfl #[.int .i64 a0, .int .i64 a1] rfl (by (try simp only [List.map_toArray, List.map_cons, List.map_nil]); first | done | rfl | (simp only [List.length_drop, List.length_take]; rfl)) ?_; (with_reducible refine (coin_Add.calls a0 a1 t131 t132 _ A3.out).mono ?_); rintro e w' ⟨rfl, ⟨nd, rfl⟩⟩; refine ⟨_, rfl, ?_⟩) | ((with_reducible refine gate_callee (f := 58) rfl ?_); refine goesL_ (some 26) rfl rfl Try.func58 (by kernel_rfl) rfl #[.int .i64 a0, .int .i64 a1] rfl (by (try simp only [List.map_toArray, List.map_cons, List.map_nil]); first | done | rfl | (simp only [List.length_drop, List.length_take]; rfl)) ?_; (with_reducible refine (coin_Sub.calls a0 a1 t133 t134 _ A4.out).mono ?_); rintro e w' ⟨rfl, ⟨nd, rfl⟩⟩; refine ⟨_, rfl, ?_⟩) | ((with_reducible refine gate_callee (f := 60) rfl ?_); refine goesL_ (some 32) rfl rfl Try.func60 (by kernel_rfl) rfl #[.int .i64 a0, .int .i64 a1] rfl (by (try simp only [List.map_toArray, List.map_cons, List.map_nil]); first | done | rfl | (simp only [List.length_drop, List.length_take]; rfl)) ?_; (with_reducible refine (coin_Mul.calls k a0 a1 t135 t136 _ A5.out).mono ?_); rintro e w25 ⟨rfl, hb⟩; refine ⟨_, rfl, ?_⟩; have n0_ := Aside0.mk (below_step (by repeat (first | (with_reducible first | exact HB.out | apply below_alloc | apply pw_below_drewN | apply below_drew1) | exact HB.out)) hb); clear HB; have HB := n0_; clear n0_; (try clear hb); (try clear hb2); (try clear hk); (try clear hi)) | ((with_reducible refine gate_callee (f := 61) rfl ?_); refine goesL_ (some 38) rfl rfl Try.func61 (by kernel_rfl) rfl #[.int .i64 a0, .int .i64 a1] rfl (by (try simp only [List.map_toArray, List.map_cons, List.map_nil]); first | done | rfl | (simp only [List.length_drop, List.length_take]; rfl)) ?_; (with_reducible refine (jobberref01_Add.calls a0 a1 t137 t138 _ A6.out).mono ?_); rintro e w26 ⟨rfl, hb⟩; refine ⟨_, rfl, ?_⟩; have n0_ := Aside0.mk (below_step (by repeat (first | (with_reducible first | exact HB.out | apply below_alloc | apply pw_below_drewN | apply below_drew1) | exact HB.out)) hb); clear HB; have HB := n0_; clear n0_; (try clear hb); (try clear hb2); (try clear hk); (try clear hi)) | ((with_reducible refine gate_callee (f := 62) rfl ?_); refine goesL_ (some 44) rfl rfl Try.func62 (by kernel_rfl) rfl #[.int .i64 a0, .int .i64 a1] rfl (by (try simp only [List.map_toArray, List.map_cons, List.map_nil]); first | done | rfl | (simp only [List.length_drop, List.length_take]; rfl)) ?_; (with_reducible refine (jobberref01_Sub.calls a0 a1 t139 t140 _ A7.out).mono ?_); rintro e w27 ⟨rfl, hb⟩; refine ⟨_, rfl, ?_⟩; have n0_ := Aside0.mk (below_step (by repeat (first | (with_reducible first | exact HB.out | apply below_alloc | apply pw_below_drewN | apply below_drew1) | exact HB.out)) hb); clear HB; have HB := n0_; clear n0_; (try clear hb); (try clear hb2); (try clear hk); (try clear hi)) | ((with_reducible refine gate_callee (f := 63) rfl ?_); refine goesL_ (some 50) rfl rfl Try.func63 (by kernel_rfl) rfl #[.int .i64 a0, .int .i64 a1] rfl (by (try simp only [List.map_toArray, List.map_cons, List.map_nil]); first | done | rfl | (simp only [List.length_drop, List.length_take]; rfl)) ?_; (with_reducible refine (jobberref01_Mul.calls a0 a1 t141 t142 _ A8.out).mono ?_); rintro e w28 ⟨rfl, hb⟩; refine ⟨_, rfl, ?_⟩; have n0_ := Aside0.mk (below_step (by repeat (first | (with_reducible first | exact HB.out | apply below_alloc | apply pw_below_drewN | apply below_drew1) | exact HB.out)) hb); clear HB; have HB := n0_; clear n0_; (try clear hb); (try clear hb2); (try clear hk); (try clear hi)))
            go_ret
            exact ⟨by first | rfl | (simp [errW_none, errW_some] <;> rfl) | (simp [*, errW_none, errW_some] <;> rfl), by repeat (first | (with_reducible first | exact HB.out | apply below_alloc | apply pw_below_drewN | apply below_drew1) | exact HB.out)⟩
        · rw [if_neg c12] at H
          have c12b0 : (t134 == t140) = false := beq_eq_false_iff_ne.mpr c12
          have c12b1 : (t134 != t140) = true := bne_iff_ne.mpr c12
          obtain rfl := Option.some.inj H
          go_enter Try.func13, Try.ntmps13
          go_wp2_with (first | ((with_reducible refine gate_callee (f := 59) rfl ?_); refine goesL_ (some 20) rfl rfl Try.func59 (by kernel_rfl) rfl #[.int .i64 a0, .int .i64 a1] rfl (by (try simp only [List.map_toArray, List.map_cons, List.map_nil]); first | done | rfl | (simp only [List.length_drop, List.length_take]; rfl)) ?_; (with_reducible refine (coin_Add.calls a0 a1 t131 t132 _ A3.out).mono ?_); rintro e w' ⟨rfl, ⟨nd, rfl⟩⟩; refine ⟨_, rfl, ?_⟩) | ((with_reducible refine gate_callee (f := 58) rfl ?_); refine goesL_ (some 26) rfl rfl Try.func58 (by kernel_rfl) rfl #[.int .i64 a0, .int .i64 a1] rfl (by (try simp only [List.map_toArray, List.map_cons, List.map_nil]); first | done | rfl | (simp only [List.length_drop, List.length_take]; rfl)) ?_; (with_reducible refine (coin_Sub.calls a0 a1 t133 t134 _ A4.out).mono ?_); rintro e w' ⟨rfl, ⟨nd, rfl⟩⟩; refine ⟨_, rfl, ?_⟩) | ((with_reducible refine gate_callee (f := 60) rfl ?_); refine goesL_ (some 32) rfl rfl Try.func60 (by kernel_rfl) rfl #[.int .i64 a0, .int .i64 a1] rfl (by (try simp only [List.map_toArray, List.map_cons, List.map_nil]); first | done | rfl | (simp only [List.length_drop, List.length_take]; rfl)) ?_; (with_reducible refine (coin_Mul.calls k a0 a1 t135 t136 _ A5.out).mono ?_); rintro e w29 ⟨rfl, hb⟩; refine ⟨_, rfl, ?_⟩; have n0_ := Aside0.mk (below_step (by repeat (first | (with_reducible first | exact HB.out | apply below_alloc | apply pw_below_drewN | apply below_drew1) | exact HB.out)) hb); clear HB; have HB := n0_; clear n0_; (try clear hb); (try clear hb2); (try clear hk); (try clear hi)) | ((with_reducible refine gate_callee (f := 61) rfl ?_); refine goesL_ (some 38) rfl rfl Try.func61 (by kernel_rfl) rfl #[.int .i64 a0, .int .i64 a1] rfl (by (try simp only [List.map_toArray, List.map_cons, List.map_nil]); first | done | rfl | (simp only [List.length_drop, List.length_take]; rfl)) ?_; (with_reducible refine (jobberref01_Add.calls a0 a1 t137 t138 _ A6.out).mono ?_); rintro e w30 ⟨rfl, hb⟩; refine ⟨_, rfl, ?_⟩; have n0_ := Aside0.mk (below_step (by repeat (first | (with_reducible first | exact HB.out | apply below_alloc | apply pw_below_drewN | apply below_drew1) | exact HB.out)) hb); clear HB; have HB := n0_; clear n0_; (try clear hb); (try clear hb2); (try clear hk); (try clear hi)) | ((with_reducible refine gate_callee (f := 62) rfl ?_); refine goesL_ (some 44) rfl rfl Try.func62 (by kernel_rfl) rfl #[.int .i64 a0, .int .i64 a1] rfl (by (try simp only [List.map_toArray, List.map_cons, List.map_nil]); first | done | rfl | (simp only [List.length_drop, List.length_take]; rfl)) ?_; (with_reducible refine (jobberref01_Sub.calls a0 a1 t139 t140 _ A7.out).mono ?_); rintro e w31 ⟨rfl, hb⟩; refine ⟨_, rfl, ?_⟩; have n0_ := Aside0.mk (below_step (by repeat (first | (with_reducible first | exact HB.out | apply below_alloc | apply pw_below_drewN | apply below_drew1) | exact HB.out)) hb); clear HB; have HB := n0_; clear n0_; (try clear hb); (try clear hb2); (try clear hk); (try clear hi)) | ((with_reducible refine gate_callee (f := 63) rfl ?_); refine goesL_ (some 50) rfl rfl Try.func63 (by kernel_rfl) rfl #[.int .i64 a0, .int .i64 a1] rfl (by (try simp only [List.map_toArray, List.map_cons, List.map_nil]); first | done | rfl | (simp only [List.length_drop, List.length_take]; rfl)) ?_; (with_reducible refine (jobberref01_Mul.calls a0 a1 t141 t142 _ A8.out).mono ?_); rintro e w32 ⟨rfl, hb⟩; refine ⟨_, rfl, ?_⟩; have n0_ := Aside0.mk (below_step (by repeat (first | (with_reducible first | exact HB.out | apply below_alloc | apply pw_below_drewN | apply below_drew1) | exact HB.out)) hb); clear HB; have HB := n0_; clear n0_; (try clear hb); (try clear hb2); (try clear hk); (try clear hi)))
          go_ret
          exact ⟨by first | rfl | (simp [errW_none, errW_some] <;> rfl) | (simp [*, errW_none, errW_some] <;> rfl), by repeat (first | (with_reducible first | exact HB.out | apply below_alloc | apply pw_below_drewN | apply below_drew1) | exact HB.out)⟩
      · rw [if_neg c11] at H
        have c11b0 : (t133 == t139) = false := beq_eq_false_iff_ne.mpr c11
        have c11b1 : (t133 != t139) = true := bne_iff_ne.mpr c11
        obtain rfl := Option.some.inj H
        go_enter Try.func13, Try.ntmps13
        go_wp2_with (first | ((with_reducible refine gate_callee (f := 59) rfl ?_); refine goesL_ (some 20) rfl rfl Try.func59 (by kernel_rfl) rfl #[.int .i64 a0, .int .i64 a1] rfl (by (try simp only [List.map_toArray, List.map_cons, List.map_nil]); first | done | rfl | (simp only [List.length_drop, List.length_take]; rfl)) ?_; (with_reducible refine (coin_Add.calls a0 a1 t131 t132 _ A3.out).mono ?_); rintro e w' ⟨rfl, ⟨nd, rfl⟩⟩; refine ⟨_, rfl, ?_⟩) | ((with_reducible refine gate_callee (f := 58) rfl ?_); refine goesL_ (some 26) rfl rfl Try.func58 (by kernel_rfl) rfl #[.int .i64 a0, .int .i64 a1] rfl (by (try simp only [List.map_toArray, List.map_cons, List.map_nil]); first | done | rfl | (simp only [List.length_drop, List.length_take]; rfl)) ?_; (with_reducible refine (coin_Sub.calls a0 a1 t133 t134 _ A4.out).mono ?_); rintro e w' ⟨rfl, ⟨nd, rfl⟩⟩; refine ⟨_, rfl, ?_⟩) | ((with_reducible refine gate_callee (f := 60) rfl ?_); refine goesL_ (some 32) rfl rfl Try.func60 (by kernel_rfl) rfl #[.int .i64 a0, .int .i64 a1] rfl (by (try simp only [List.map_toArray, List.map_cons, List.map_nil]); first | done | rfl | (simp only [List.length_drop, List.length_take]; rfl)) ?_; (with_reducible refine (coin_Mul.calls k a0 a1 t135 t136 _ A5.out).mono ?_); rintro e w33 ⟨rfl, hb⟩; refine ⟨_, rfl, ?_⟩; have n0_ := Aside0.mk (below_step (by repeat (first | (with_reducible first | exact HB.out | apply below_alloc | apply pw_below_drewN | apply below_drew1) | exact HB.out)) hb); clear HB; have HB := n0_; clear n0_; (try clear hb); (try clear hb2); (try clear hk); (try clear hi)) | ((with_reducible refine gate_callee (f := 61) rfl ?_); refine goesL_ (some 38) rfl rfl Try.func61 (by kernel_rfl) rfl #[.int .i64 a0, .int .i64 a1] rfl (by (try simp only [List.map_toArray, List.map_cons, List.map_nil]); first | done | rfl | (simp only [List.length_drop, List.length_take]; rfl)) ?_; (with_reducible refine (jobberref01_Add.calls a0 a1 t137 t138 _ A6.out).mono ?_); rintro e w34 ⟨rfl, hb⟩; refine ⟨_, rfl, ?_⟩; have n0_ := Aside0.mk (below_step (by repeat (first | (with_reducible first | exact HB.out | apply below_alloc | apply pw_below_drewN | apply below_drew1) | exact HB.out)) hb); clear HB; have HB := n0_; clear n0_; (try clear hb); (try clear hb2); (try clear hk); (try clear hi)) | ((with_reducible refine gate_callee (f := 62) rfl ?_); refine goesL_ (some 44) rfl rfl Try.func62 (by kernel_rfl) rfl #[.int .i64 a0, .int .i64 a1] rfl (by (try simp only [List.map_toArray, List.map_cons, List.map_nil]); first | done | rfl | (simp only [List.length_drop, List.length_take]; rfl)) ?_; (with_reducible refine (jobberref01_Sub.calls a0 a1 t139 t140 _ A7.out).mono ?_); rintro e w35 ⟨rfl, hb⟩; refine ⟨_, rfl, ?_⟩; have n0_ := Aside0.mk (below_step (by repeat (first | (with_reducible first | exact HB.out | apply below_alloc | apply pw_below_drewN | apply below_drew1) | exact HB.out)) hb); clear HB; have HB := n0_; clear n0_; (try clear hb); (try clear hb2); (try clear hk); (try clear hi)) | ((with_reducible refine gate_callee (f := 63) rfl ?_); refine goesL_ (some 50) rfl rfl Try.func63 (by kernel_rfl) rfl #[.int .i64 a0, .int .i64 a1] rfl (by (try simp only [List.map_toArray, List.map_cons, List.map_nil]); first | done | rfl | (simp only [List.length_drop, List.length_take]; rfl)) ?_; (with_reducible refine (jobberref01_Mul.calls a0 a1 t141 t142 _ A8.out).mono ?_); rintro e w36 ⟨rfl, hb⟩; refine ⟨_, rfl, ?_⟩; have n0_ := Aside0.mk (below_step (by repeat (first | (with_reducible first | exact HB.out | apply below_alloc | apply pw_below_drewN | apply below_drew1) | exact HB.out)) hb); clear HB; have HB := n0_; clear n0_; (try clear hb); (try clear hb2); (try clear hk); (try clear hi)))
        go_ret
        exact ⟨by first | rfl | (simp [errW_none, errW_some] <;> rfl) | (simp [*, errW_none, errW_some] <;> rfl), by repeat (first | (with_reducible first | exact HB.out | apply below_alloc | apply pw_below_drewN | apply below_drew1) | exact HB.out)⟩
    · rw [if_neg c10] at H
      have c10b0 : (t132 == t138) = false := beq_eq_false_iff_ne.mpr c10
      have c10b1 : (t132 != t138) = true := bne_iff_ne.mpr c10
      obtain rfl := Option.some.inj H
      go_enter Try.func13, Try.ntmps13
      go_wp2_with (first | ((with_reducible refine gate_callee (f := 59) rfl ?_); refine goesL_ (some 20) rfl rfl Try.func59 (by kernel_rfl) rfl #[.int .i64 a0, .int .i64 a1] rfl (by (try simp only [List.map_toArray, List.map_cons, List.map_nil]); first | done | rfl | (simp only [List.length_drop, List.length_take]; rfl)) ?_; (with_reducible refine (coin_Add.calls a0 a1 t131 t132 _ A3.out).mono ?_); rintro e w' ⟨rfl, ⟨nd, rfl⟩⟩; refine ⟨_, rfl, ?_⟩) | ((with_reducible refine gate_callee (f := 58) rfl ?_); refine goesL_ (some 26) rfl rfl Try.func58 (by kernel_rfl) rfl #[.int .i64 a0, .int .i64 a1] rfl (by (try simp only [List.map_toArray, List.map_cons, List.map_nil]); first | done | rfl | (simp only [List.length_drop, List.length_take]; rfl)) ?_; (with_reducible refine (coin_Sub.calls a0 a1 t133 t134 _ A4.out).mono ?_); rintro e w' ⟨rfl, ⟨nd, rfl⟩⟩; refine ⟨_, rfl, ?_⟩) | ((with_reducible refine gate_callee (f := 60) rfl ?_); refine goesL_ (some 32) rfl rfl Try.func60 (by kernel_rfl) rfl #[.int .i64 a0, .int .i64 a1] rfl (by (try simp only [List.map_toArray, List.map_cons, List.map_nil]); first | done | rfl | (simp only [List.length_drop, List.length_take]; rfl)) ?_; (with_reducible refine (coin_Mul.calls k a0 a1 t135 t136 _ A5.out).mono ?_); rintro e w37 ⟨rfl, hb⟩; refine ⟨_, rfl, ?_⟩; have n0_ := Aside0.mk (below_step (by repeat (first | (with_reducible first | exact HB.out | apply below_alloc | apply pw_below_drewN | apply below_drew1) | exact HB.out)) hb); clear HB; have HB := n0_; clear n0_; (try clear hb); (try clear hb2); (try clear hk); (try clear hi)) | ((with_reducible refine gate_callee (f := 61) rfl ?_); refine goesL_ (some 38) rfl rfl Try.func61 (by kernel_rfl) rfl #[.int .i64 a0, .int .i64 a1] rfl (by (try simp only [List.map_toArray, List.map_cons, List.map_nil]); first | done | rfl | (simp only [List.length_drop, List.length_take]; rfl)) ?_; (with_reducible refine (jobberref01_Add.calls a0 a1 t137 t138 _ A6.out).mono ?_); rintro e w38 ⟨rfl, hb⟩; refine ⟨_, rfl, ?_⟩; have n0_ := Aside0.mk (below_step (by repeat (first | (with_reducible first | exact HB.out | apply below_alloc | apply pw_below_drewN | apply below_drew1) | exact HB.out)) hb); clear HB; have HB := n0_; clear n0_; (try clear hb); (try clear hb2); (try clear hk); (try clear hi)) | ((with_reducible refine gate_callee (f := 62) rfl ?_); refine goesL_ (some 44) rfl rfl Try.func62 (by kernel_rfl) rfl #[.int .i64 a0, .int .i64 a1] rfl (by (try simp only [List.map_toArray, List.map_cons, List.map_nil]); first | done | rfl | (simp only [List.length_drop, List.length_take]; rfl)) ?_; (with_reducible refine (jobberref01_Sub.calls a0 a1 t139 t140 _ A7.out).mono ?_); rintro e w39 ⟨rfl, hb⟩; refine ⟨_, rfl, ?_⟩; have n0_ := Aside0.mk (below_step (by repeat (first | (with_reducible first | exact HB.out | apply below_alloc | apply pw_below_drewN | apply below_drew1) | exact HB.out)) hb); clear HB; have HB := n0_; clear n0_; (try clear hb); (try clear hb2); (try clear hk); (try clear hi)) | ((with_reducible refine gate_callee (f := 63) rfl ?_); refine goesL_ (some 50) rfl rfl Try.func63 (by kernel_rfl) rfl #[.int .i64 a0, .int .i64 a1] rfl (by (try simp only [List.map_toArray, List.map_cons, List.map_nil]); first | done | rfl | (simp only [List.length_drop, List.length_take]; rfl)) ?_; (with_reducible refine (jobberref01_Mul.calls a0 a1 t141 t142 _ A8.out).mono ?_); rintro e w40 ⟨rfl, hb⟩; refine ⟨_, rfl, ?_⟩; have n0_ := Aside0.mk (below_step (by repeat (first | (with_reducible first | exact HB.out | apply below_alloc | apply pw_below_drewN | apply below_drew1) | exact HB.out)) hb); clear HB; have HB := n0_; clear n0_; (try clear hb); (try clear hb2); (try clear hk); (try clear hi)))
      go_ret
      exact ⟨by first | rfl | (simp [errW_none, errW_some] <;> rfl) | (simp [*, errW_none, errW_some] <;> rfl), by repeat (first | (with_reducible first | exact HB.out | apply below_alloc | apply pw_below_drewN | apply below_drew1) | exact HB.out)⟩
  · rw [if_neg c9] at H
    have c9b0 : (t131 == t137) = false := beq_eq_false_iff_ne.mpr c9
    have c9b1 : (t131 != t137) = true := bne_iff_ne.mpr c9
    obtain rfl := Option.some.inj H
    go_enter Try.func13, Try.ntmps13
    go_wp2_with (first | ((with_reducible refine gate_callee (f := 59) rfl ?_); refine goesL_ (some 20) rfl rfl Try.func59 (by kernel_rfl) rfl #[.int .i64 a0, .int .i64 a1] rfl (by (try simp only [List.map_toArray, List.map_cons, List.map_nil]); first | done | rfl | (simp only [List.length_drop, List.length_take]; rfl)) ?_; (with_reducible refine (coin_Add.calls a0 a1 t131 t132 _ A3.out).mono ?_); rintro e w' ⟨rfl, ⟨nd, rfl⟩⟩; refine ⟨_, rfl, ?_⟩) | ((with_reducible refine gate_callee (f := 58) rfl ?_); refine goesL_ (some 26) rfl rfl Try.func58 (by kernel_rfl) rfl #[.int .i64 a0, .int .i64 a1] rfl (by (try simp only [List.map_toArray, List.map_cons, List.map_nil]); first | done | rfl | (simp only [List.length_drop, List.length_take]; rfl)) ?_; (with_reducible refine (coin_Sub.calls a0 a1 t133 t134 _ A4.out).mono ?_); rintro e w' ⟨rfl, ⟨nd, rfl⟩⟩; refine ⟨_, rfl, ?_⟩) | ((with_reducible refine gate_callee (f := 60) rfl ?_); refine goesL_ (some 32) rfl rfl Try.func60 (by kernel_rfl) rfl #[.int .i64 a0, .int .i64 a1] rfl (by (try simp only [List.map_toArray, List.map_cons, List.map_nil]); first | done | rfl | (simp only [List.length_drop, List.length_take]; rfl)) ?_; (with_reducible refine (coin_Mul.calls k a0 a1 t135 t136 _ A5.out).mono ?_); rintro e w41 ⟨rfl, hb⟩; refine ⟨_, rfl, ?_⟩; have n0_ := Aside0.mk (below_step (by repeat (first | (with_reducible first | exact HB.out | apply below_alloc | apply pw_below_drewN | apply below_drew1) | exact HB.out)) hb); clear HB; have HB := n0_; clear n0_; (try clear hb); (try clear hb2); (try clear hk); (try clear hi)) | ((with_reducible refine gate_callee (f := 61) rfl ?_); refine goesL_ (some 38) rfl rfl Try.func61 (by kernel_rfl) rfl #[.int .i64 a0, .int .i64 a1] rfl (by (try simp only [List.map_toArray, List.map_cons, List.map_nil]); first | done | rfl | (simp only [List.length_drop, List.length_take]; rfl)) ?_; (with_reducible refine (jobberref01_Add.calls a0 a1 t137 t138 _ A6.out).mono ?_); rintro e w42 ⟨rfl, hb⟩; refine ⟨_, rfl, ?_⟩; have n0_ := Aside0.mk (below_step (by repeat (first | (with_reducible first | exact HB.out | apply below_alloc | apply pw_below_drewN | apply below_drew1) | exact HB.out)) hb); clear HB; have HB := n0_; clear n0_; (try clear hb); (try clear hb2); (try clear hk); (try clear hi)) | ((with_reducible refine gate_callee (f := 62) rfl ?_); refine goesL_ (some 44) rfl rfl Try.func62 (by kernel_rfl) rfl #[.int .i64 a0, .int .i64 a1] rfl (by (try simp only [List.map_toArray, List.map_cons, List.map_nil]); first | done | rfl | (simp only [List.length_drop, List.length_take]; rfl)) ?_; (with_reducible refine (jobberref01_Sub.calls a0 a1 t139 t140 _ A7.out).mono ?_); rintro e w43 ⟨rfl, hb⟩; refine ⟨_, rfl, ?_⟩; have n0_ := Aside0.mk (below_step (by repeat (first | (with_reducible first | exact HB.out | apply below_alloc | apply pw_below_drewN | apply below_drew1) | exact HB.out)) hb); clear HB; have HB := n0_; clear n0_; (try clear hb); (try clear hb2); (try clear hk); (try clear hi)) | ((with_reducible refine gate_callee (f := 63) rfl ?_); refine goesL_ (some 50) rfl rfl Try.func63 (by kernel_rfl) rfl #[.int .i64 a0, .int .i64 a1] rfl (by (try simp only [List.map_toArray, List.map_cons, List.map_nil]); first | done | rfl | (simp only [List.length_drop, List.length_take]; rfl)) ?_; (with_reducible refine (jobberref01_Mul.calls a0 a1 t141 t142 _ A8.out).mono ?_); rintro e w44 ⟨rfl, hb⟩; refine ⟨_, rfl, ?_⟩; have n0_ := Aside0.mk (below_step (by repeat (first | (with_reducible first | exact HB.out | apply below_alloc | apply pw_below_drewN | apply below_drew1) | exact HB.out)) hb); clear HB; have HB := n0_; clear n0_; (try clear hb); (try clear hb2); (try clear hk); (try clear hi)))
    go_ret
    exact ⟨by first | rfl | (simp [errW_none, errW_some] <;> rfl) | (simp [*, errW_none, errW_some] <;> rfl), by repeat (first | (with_reducible first | exact HB.out | apply below_alloc | apply pw_below_drewN | apply below_drew1) | exact HB.out)⟩

/-! ### jobberref01_parts: function 91 (by hand; for other hand texts alone) -/
theorem setb_zero (r : Nat) (b : Bool) : setb (2 * r) 0 b = 2 * r + (if b then 1 else 0) := by
  apply Nat.eq_of_testBit_eq
  intro j
  rw [tb_setb]
  have h := Nat.testBit_two_pow_mul_add r (i := 1) (b := if b then 1 else 0) (by cases b <;> simp) j
  have h2 := Nat.testBit_two_pow_mul_add r (i := 1) (b := 0) (by simp) j
  simp only [Nat.pow_one, Nat.add_zero] at h h2
  rw [h, h2]
  by_cases e : j = 0
  · subst e; cases b <;> simp
  · rw [if_neg e, if_neg (by omega), if_neg (by omega)]
theorem setb_top (t k : Nat) : setb (2 ^ (k + 1) * t) k true = 2 ^ (k + 1) * t + 2 ^ k := by
  apply Nat.eq_of_testBit_eq
  intro j
  rw [tb_setb]
  have hp : (2 : Nat) ^ k < 2 ^ (k + 1) := Nat.pow_lt_pow_right (by decide) (by omega)
  have h := Nat.testBit_two_pow_mul_add t (i := k + 1) (b := 2 ^ k) hp j
  have h2 := Nat.testBit_two_pow_mul_add t (i := k + 1) (b := 0) (Nat.two_pow_pos _) j
  simp only [Nat.add_zero] at h2
  rw [h, h2]
  by_cases e : j = k
  · subst e; rw [if_pos rfl, if_pos (by omega)]; simp
  · rw [if_neg e]
    by_cases e2 : j < k + 1
    · rw [if_pos e2, if_pos e2, Nat.testBit_two_pow, decide_eq_false (Ne.symm e)]; simp
    · rw [if_neg e2, if_neg e2]
theorem part_eq {a b k : Nat} (hb : 0 < b) {R : Nat} (hR : R = 2 * (a / 2 ^ (k + 1) % b) + (if a.testBit k then 1 else 0)) :
    (R < b → 2 ^ (k + 1) * (a / 2 ^ (k + 1) / b) = 2 ^ k * (a / 2 ^ k / b) ∧ R = a / 2 ^ k % b) ∧ (b ≤ R → setb (2 ^ (k + 1) * (a / 2 ^ (k + 1) / b)) k true = 2 ^ k * (a / 2 ^ k / b) ∧ R - b = a / 2 ^ k % b) := by
  have hA := back_step (m := a) (k := k)
  obtain ⟨B, hB⟩ : ∃ B, a / 2 ^ (k + 1) = B := ⟨_, rfl⟩
  obtain ⟨A, hA2⟩ : ∃ A, a / 2 ^ k = A := ⟨_, rfl⟩
  rw [hB, hA2] at hA
  rw [hB] at hR
  rw [hB, hA2, setb_top]
  have hd := Nat.div_add_mod B b
  have hl := Nat.mod_lt B hb
  obtain ⟨q, hq⟩ : ∃ q, B / b = q := ⟨_, rfl⟩
  obtain ⟨r, hr⟩ : ∃ r, B % b = r := ⟨_, rfl⟩
  rw [hq, hr] at hd
  rw [hr] at hl hR
  rw [hq]
  have hAA : A = b * (2 * q) + R := by
    have e : b * (2 * q) = 2 * (b * q) := by rw [Nat.mul_left_comm]
    rw [e]; omega
  have h2 : R < 2 * b := by
    have : (if a.testBit k then 1 else 0) ≤ 1 := by split <;> omega
    omega
  refine ⟨fun h => ?_, fun h => ?_⟩
  · have e1 : A / b = 2 * q := by rw [hAA, Nat.mul_add_div hb, Nat.div_eq_of_lt h] <;> omega
    have e2 : A % b = R := by rw [hAA, Nat.mul_add_mod, Nat.mod_eq_of_lt h]
    rw [e1, e2]
    refine ⟨?_, rfl⟩
    rw [Nat.pow_succ, Nat.mul_assoc]
  · have hAB : A = b * (2 * q + 1) + (R - b) := by rw [Nat.mul_add, Nat.mul_one]; omega
    have e1 : A / b = 2 * q + 1 := by rw [hAB, Nat.mul_add_div hb, Nat.div_eq_of_lt (by omega)] <;> omega
    have e2 : A % b = R - b := by rw [hAB, Nat.mul_add_mod, Nat.mod_eq_of_lt (by omega)]
    rw [e1, e2]
    refine ⟨?_, rfl⟩
    rw [Nat.mul_add, Nat.pow_succ, Nat.mul_one, Nat.mul_assoc]
set_option maxHeartbeats 8000000 in
set_option maxRecDepth 100000 in
theorem num_parts (a b : Nat) (ga gb : Bool) (ha : a < 2 ^ 136) (hb0 : 0 < b) (hb : b < 2 ^ 65) (w : World) :
    Calls Try.prog 91 #[.agg (numC a ga), .agg (numC b gb)] w fun e w' => e = .returned (.tuple #[.agg (numC (a / b) false), .agg (numC (a % b) false)]) ∧ Below w.heap.size w w' := by
  have HO : Aside0 (Own w w []) := ⟨Own.start w⟩
  have HA := Aside0.mk ha
  have HB0 := Aside0.mk hb0
  have HB65 := Aside0.mk hb
  clear ha hb0 hb
  go_enter Try.func91, Try.ntmps91
  go_wp2_with (first | ((with_reducible refine gate_dst (N := 2) rfl ?_); refine num_new ?hg (N := 2) ?hd (cs := numC a ga) HO.out a ga ?hc ?hr ?_; (case hc => first | rfl | exact zcNum); (case hd => rfl); (case hg => rfl); (case hr => first | (go_simp; done) | (go_simp; rfl)); intro gA w1 hO_; have n0_ : Aside0 (Own w w1 [(gA, a, ga)]) := ⟨hO_⟩; clear HO hO_; have HO := n0_; clear n0_) | ((with_reducible refine gate_dst (N := 3) rfl ?_); refine num_new ?hg (N := 3) ?hd (cs := numC b gb) HO.out b gb ?hc ?hr ?_; (case hc => first | rfl | exact zcNum); (case hd => rfl); (case hg => rfl); (case hr => first | (go_simp; done) | (go_simp; rfl)); intro gB w2 hO_; have n0_ : Aside0 (Own w w2 [(gA, a, ga), (gB, b, gb)]) := ⟨hO_⟩; clear HO hO_; have HO := n0_; clear n0_) | ((with_reducible refine gate_dst (N := 4) rfl ?_); refine num_new ?hg (N := 4) ?hd (cs := Try.zeroCells113) HO.out 0 false ?hc ?hr ?_; (case hc => first | rfl | exact zcNum); (case hd => rfl); (case hg => rfl); (case hr => first | (go_simp; done) | (go_simp; rfl)); intro gQ w3 hO_; have n0_ : Aside0 (Own w w3 [(gA, a, ga), (gB, b, gb), (gQ, 0, false)]) := ⟨hO_⟩; clear HO hO_; have HO := n0_; clear n0_) | ((with_reducible refine gate_dst (N := 5) rfl ?_); refine num_new ?hg (N := 5) ?hd (cs := Try.zeroCells113) HO.out 0 false ?hc ?hr ?_; (case hc => first | rfl | exact zcNum); (case hd => rfl); (case hg => rfl); (case hr => first | (go_simp; done) | (go_simp; rfl)); intro gS w4 hO_; have n0_ : Aside0 (Own w w4 [(gA, a, ga), (gB, b, gb), (gQ, 0, false), (gS, 0, false)]) := ⟨hO_⟩; clear HO hO_; have HO := n0_; clear n0_) | ((with_reducible refine gate_dst (N := 6) rfl ?_); refine num_new ?hg (N := 6) ?hd (cs := Try.zeroCells113) HO.out 0 false ?hc ?hr ?_; (case hc => first | rfl | exact zcNum); (case hd => rfl); (case hg => rfl); (case hr => first | (go_simp; done) | (go_simp; rfl)); intro gq w5 hO_; have n0_ : Aside0 (Own w w5 [(gA, a, ga), (gB, b, gb), (gQ, 0, false), (gS, 0, false), (gq, 0, false)]) := ⟨hO_⟩; clear HO hO_; have HO := n0_; clear n0_) | ((with_reducible refine gate_dst (N := 7) rfl ?_); refine num_new ?hg (N := 7) ?hd (cs := Try.zeroCells113) HO.out 0 false ?hc ?hr ?_; (case hc => first | rfl | exact zcNum); (case hd => rfl); (case hg => rfl); (case hr => first | (go_simp; done) | (go_simp; rfl)); intro gr w6 hO_; have n0_ : Aside0 (Own w w6 [(gA, a, ga), (gB, b, gb), (gQ, 0, false), (gS, 0, false), (gq, 0, false), (gr, 0, false)]) := ⟨hO_⟩; clear HO hO_; have HO := n0_; clear n0_))
  go_loopg [8] 136 (fun kq v8 wr => ∃ i : Int, v8 = .int .i64 i ∧ Aside0 (i + 1 = kq) ∧ Aside0 (kq ≤ 136) ∧ Aside0 (Own w wr [(gA, a, ga), (gB, b, gb), (gQ, 0, false), (gS, 0, false), (gq, (2 ^ (kq) * (a / 2 ^ (kq) / b)), false), (gr, (a / 2 ^ (kq) % b), false)]))
  case atStart => exact ⟨135, rfl, ⟨rfl⟩, ⟨Nat.le_refl _⟩, ⟨by rw [Nat.div_eq_of_lt HA.out, Nat.zero_div, Nat.zero_mod, Nat.mul_zero]; exact HO.out⟩⟩
  case round =>
    clear HO
    obtain ⟨i, rfl, HI, HK, HO⟩ := hrel
    cases gk with
    | zero =>
      obtain rfl : i = -1 := by have := HI.out; omega
      have n0_ : Aside0 (Own w wr [(gA, a, ga), (gB, b, gb), (gQ, 0, false), (gS, 0, false), (gq, (a / b), false), (gr, (a % b), false)]) := ⟨by have h := HO.out; simp only [Nat.pow_zero, Nat.one_mul, Nat.div_one] at h; exact h⟩
      clear HO; have HO := n0_; clear n0_
      go_wp2
      refine wp_region_held_drew (S := (fun w' => ∃ (m4 : Nat) (s4 : Bool) (m5 : Nat) (s5 : Bool), Own w w' [(gA, a, ga), (gB, b, gb), (gQ, m4, s4), (gS, m5, s5), (gq, (a / b), false), (gr, (a % b), false)])) (by kernel_rfl) ⟨_, _, _, _, HO.out.drew⟩ (fun hHeld => ?_)
      refine wpAnyH_take (i := 0) (v := .agg (numC (a / b) false)) (by simp only [List.getElem?_toArray, List.getElem?_cons_succ, List.getElem?_cons_zero]; rfl) (by kernel_rfl) (by kernel_rfl) (by kernel_rfl) (by exact fun _ _ _ h => h) (Or.inl ⟨by rfl, ?hy0⟩) (by assumption) ?r0
      case hy0 => (rintro w_ ⟨_, _, _, _, hO⟩; exact num_load_run (.tmp 6) rfl hO 4 rfl rfl)
      try simp only [Act.put, List.setIfInBounds_toArray, List.set_cons_zero, List.set_cons_succ]
      refine wpAnyH_take (i := 1) (v := .agg (numC (a % b) false)) (by simp only [List.getElem?_toArray, List.getElem?_cons_succ, List.getElem?_cons_zero]; rfl) (by kernel_rfl) (by kernel_rfl) (by kernel_rfl) (by exact fun _ _ _ h => h) (Or.inl ⟨by rfl, ?hy1⟩) (by assumption) ?r1
      case hy1 => (rintro w_ ⟨_, _, _, _, hO⟩; exact num_load_run (.tmp 7) rfl hO 5 rfl rfl)
      try simp only [Act.put, List.setIfInBounds_toArray, List.set_cons_zero, List.set_cons_succ]
      refine wpAnyH_ready (rs := [2]) (by kernel_rfl) (by simp) ?_
      refine AllReadyH.cons (by simp only [List.getElem?_toArray, List.getElem?_cons_succ, List.getElem?_cons_zero]; rfl) (fun K hK => ?_) AllReadyH.nil
      rw [if_pos (by rfl)]
      refine num_store_wp (.tmp 4) (.tmp 31) rfl HO.out.drew 2 (m' := (a / b)) (s' := false) rfl rfl rfl ?_
      intro w21 hO21
      replace hO21 : Own w w21 [(gA, a, ga), (gB, b, gb), (gQ, (a / b), false), (gS, 0, false), (gq, (a / b), false), (gr, (a % b), false)] := hO21
      refine hK.out _ _ ⟨_, _, _, _, hO21⟩ (fun hHeld2 => ?_)
      clear hK K
      try simp only [Act.put, List.setIfInBounds_toArray, List.set_cons_zero, List.set_cons_succ]
      refine wpAnyH_ready (rs := [3]) (by kernel_rfl) (by simp) ?_
      refine AllReadyH.cons (by simp only [List.getElem?_toArray, List.getElem?_cons_succ, List.getElem?_cons_zero]; rfl) (fun K hK => ?_) AllReadyH.nil
      rw [if_pos (by rfl)]
      refine num_store_wp (.tmp 5) (.tmp 32) rfl hO21 3 (m' := (a % b)) (s' := false) rfl rfl rfl ?_
      intro w22 hO22
      replace hO22 : Own w w22 [(gA, a, ga), (gB, b, gb), (gQ, (a / b), false), (gS, (a % b), false), (gq, (a / b), false), (gr, (a % b), false)] := hO22
      refine hK.out _ _ ⟨_, _, _, _, hO22⟩ (fun hHeld3 => ?_)
      clear hK K
      try simp only [Act.put, List.setIfInBounds_toArray, List.set_cons_zero, List.set_cons_succ]
      refine wpAnyH_done (by kernel_rfl) ?_ _
      have HO2 := Aside0.mk hO22
      clear hO21 hO22
      clear hHeld hHeld2 hHeld3
      go_wp2
      exact bodyPost_ret (num_result2 rfl HO2.out 2 3 rfl rfl _ rfl rfl) rfl ⟨rfl, HO2.out.below⟩
    | succ k =>
      obtain rfl : i = (k : Int) := by have := HI.out; omega
      have hd : decide ((0 : Int) ≤ (k : Int)) = true := decide_eq_true (by omega)
      have hd2 : (0 : Int) ≤ (k : Int) := by omega
      have hd3 : (k : Int) < 136 := by have := HK.out; omega
      have HK1 : Aside0 (k < 136) := ⟨by have := HK.out; omega⟩
      have zA := HO.out.cell 0 k rfl HK1.out
      obtain ⟨R, hR⟩ : ∃ R, 2 * (a / 2 ^ (k + 1) % b) + (if a.testBit k then 1 else 0) = R := ⟨_, rfl⟩
      have hst0 := part_eq HB0.out hR.symm
      have hRl : R < 2 ^ 136 := by
        have := Nat.mod_lt (a / 2 ^ (k + 1)) HB0.out
        have h1 := HB65.out
        have h2 : (if a.testBit k then 1 else 0) ≤ 1 := by split <;> omega
        have h3 : (2 : Nat) ^ 136 = 2 ^ 65 * 2 ^ 71 := by decide
        have h4 : (2 : Nat) ^ 71 = 2361183241434822606848 := by decide
        omega
      have HBL := Aside0.mk (fun w => num_below R b false gb hRl (Nat.lt_of_lt_of_le HB65.out (Nat.pow_le_pow_right (by decide) (by decide))) w)
      have hz := setb_zero (a / 2 ^ (k + 1) % b) (a.testBit k)
      rw [hR] at hz
      have HR := Aside0.mk hz
      clear hR hRl hz
      by_cases hlt : R < b
      · have hst := hst0.1 hlt
        rw [decide_eq_true hlt] at HBL
        clear hst0 hlt
        cases hxa : a.testBit k <;> rw [hxa] at HR
        case true =>
          rw [hxa] at zA
          have HS := Aside0.mk hst
          clear hst
          have HX := Aside0.mk hxa
          clear hxa
          go_upto_region 7 with (first | ((with_reducible refine gate_dst (N := 13) rfl ?_); refine num_load ?hg (N := 13) ?hd (.tmp 7) ?ho HO.out 5 (g := gr) (m := (a / 2 ^ (k + 1) % b)) (s := false) ?hi ?hx ?_; (case hd => rfl); (case hg => rfl); (case ho => rfl); (case hi => rfl); (case hx => rfl)) | (go_at_call 93; (with_reducible refine (num_twice _ _ _).mono ?_); rintro e_ w5 ⟨rfl, hb_⟩; clear zA; have n0_ : Aside0 (Own w w5 [(gA, a, ga), (gB, b, gb), (gQ, 0, false), (gS, 0, false), (gq, (2 ^ (k + 1) * (a / 2 ^ (k + 1) / b)), false), (gr, (a / 2 ^ (k + 1) % b), false)]) := ⟨HO.out.call hb_⟩; clear HO hb_; have HO := n0_; clear n0_; have zA := HO.out.cell 0 k rfl HK1.out; rw [HX.out] at zA) | ((with_reducible refine gate_store (t := 113) (p := 7) (v := .tmp 14) rfl ?_); refine num_store ?hg (.tmp 7) (.tmp 14) ?ho HO.out 5 (g := gr) (m := (a / 2 ^ (k + 1) % b)) (s := false) (m' := (2 * (a / 2 ^ (k + 1) % b))) (s' := false) ?hi ?hx ?hy ?_; (case hg => rfl); (case ho => rfl); (case hi => rfl); (case hx => rfl); (case hy => rfl); intro w6 hO_; have n0_ : Aside0 (Own w w6 [(gA, a, ga), (gB, b, gb), (gQ, 0, false), (gS, 0, false), (gq, (2 ^ (k + 1) * (a / 2 ^ (k + 1) / b)), false), (gr, (2 * (a / 2 ^ (k + 1) % b)), false)]) := ⟨hO_⟩; clear HO hO_; have HO := n0_; clear n0_; clear zA; have zA := HO.out.cell 0 k rfl HK1.out; rw [HX.out] at zA; have z0 := HO.out.cell 5 0 rfl (by decide); have zf := HO.out.free 5 0 rfl))
          have n0_ : Aside0 (∀ W : World, Own w W [(gA, a, ga), (gB, b, gb), (gQ, 0, false), (gS, 0, false), (gq, (2 ^ (k + 1) * (a / 2 ^ (k + 1) / b)), false), (gr, (setb (2 * (a / 2 ^ (k + 1) % b)) 0 true), false)] → Own w W [(gA, a, ga), (gB, b, gb), (gQ, 0, false), (gS, 0, false), (gq, (2 ^ (k + 1) * (a / 2 ^ (k + 1) / b)), false), (gr, R, false)]) := ⟨fun W h => by rw [HR.out] at h; exact h⟩
          refine num_abs (w0 := w) (l := [(gA, a, ga), (gB, b, gb), (gQ, 0, false), (gS, 0, false), (gq, (2 ^ (k + 1) * (a / 2 ^ (k + 1) / b)), false), (gr, R, false)]) (n0_.out _ (HO.out.bit 5 0 rfl (by decide) true)) ?_
          intro w8 hO_
          clear HO n0_ z0 zf zA
          have HO := Aside0.mk hO_
          clear hO_
          go_wp2_with (first | ((with_reducible refine gate_dst (N := 21) rfl ?_); refine num_load ?hg (N := 21) ?hd (.tmp 7) ?ho HO.out 5 (g := gr) (m := R) (s := false) ?hi ?hx ?_; (case hd => rfl); (case hg => rfl); (case ho => rfl); (case hi => rfl); (case hx => rfl)) | ((with_reducible refine gate_dst (N := 22) rfl ?_); refine num_load ?hg (N := 22) ?hd (.tmp 3) ?ho HO.out 1 (g := gB) (m := b) (s := gb) ?hi ?hx ?_; (case hd => rfl); (case hg => rfl); (case ho => rfl); (case hi => rfl); (case hx => rfl)) | (go_at_call 94; (with_reducible refine (HBL.out _).mono ?_); rintro e_ w9 ⟨rfl, hb_⟩; have n0_ : Aside0 (Own w w9 [(gA, a, ga), (gB, b, gb), (gQ, 0, false), (gS, 0, false), (gq, (2 ^ (k + 1) * (a / 2 ^ (k + 1) / b)), false), (gr, R, false)]) := ⟨HO.out.call hb_⟩; clear HO hb_; have HO := n0_; clear n0_))
          go_roundg k
          case measure => omega
          case rel => exact ⟨(k : Int) - 1, by first | rfl | go_num, ⟨by omega⟩, ⟨by have := HK.out; omega⟩, ⟨by have h := HO.out; rw [HS.out.1, HS.out.2] at h; exact h⟩⟩
        case false =>
          rw [hxa] at zA
          have HS := Aside0.mk hst
          clear hst
          have HX := Aside0.mk hxa
          clear hxa
          go_upto_region 7 with (first | ((with_reducible refine gate_dst (N := 13) rfl ?_); refine num_load ?hg (N := 13) ?hd (.tmp 7) ?ho HO.out 5 (g := gr) (m := (a / 2 ^ (k + 1) % b)) (s := false) ?hi ?hx ?_; (case hd => rfl); (case hg => rfl); (case ho => rfl); (case hi => rfl); (case hx => rfl)) | (go_at_call 93; (with_reducible refine (num_twice _ _ _).mono ?_); rintro e_ w5 ⟨rfl, hb_⟩; clear zA; have n0_ : Aside0 (Own w w5 [(gA, a, ga), (gB, b, gb), (gQ, 0, false), (gS, 0, false), (gq, (2 ^ (k + 1) * (a / 2 ^ (k + 1) / b)), false), (gr, (a / 2 ^ (k + 1) % b), false)]) := ⟨HO.out.call hb_⟩; clear HO hb_; have HO := n0_; clear n0_; have zA := HO.out.cell 0 k rfl HK1.out; rw [HX.out] at zA) | ((with_reducible refine gate_store (t := 113) (p := 7) (v := .tmp 14) rfl ?_); refine num_store ?hg (.tmp 7) (.tmp 14) ?ho HO.out 5 (g := gr) (m := (a / 2 ^ (k + 1) % b)) (s := false) (m' := (2 * (a / 2 ^ (k + 1) % b))) (s' := false) ?hi ?hx ?hy ?_; (case hg => rfl); (case ho => rfl); (case hi => rfl); (case hx => rfl); (case hy => rfl); intro w6 hO_; have n0_ : Aside0 (Own w w6 [(gA, a, ga), (gB, b, gb), (gQ, 0, false), (gS, 0, false), (gq, (2 ^ (k + 1) * (a / 2 ^ (k + 1) / b)), false), (gr, (2 * (a / 2 ^ (k + 1) % b)), false)]) := ⟨hO_⟩; clear HO hO_; have HO := n0_; clear n0_; clear zA; have zA := HO.out.cell 0 k rfl HK1.out; rw [HX.out] at zA; have z0 := HO.out.cell 5 0 rfl (by decide); have zf := HO.out.free 5 0 rfl))
          have n0_ : Aside0 (∀ W : World, Own w W [(gA, a, ga), (gB, b, gb), (gQ, 0, false), (gS, 0, false), (gq, (2 ^ (k + 1) * (a / 2 ^ (k + 1) / b)), false), (gr, (setb (2 * (a / 2 ^ (k + 1) % b)) 0 false), false)] → Own w W [(gA, a, ga), (gB, b, gb), (gQ, 0, false), (gS, 0, false), (gq, (2 ^ (k + 1) * (a / 2 ^ (k + 1) / b)), false), (gr, R, false)]) := ⟨fun W h => by rw [HR.out] at h; exact h⟩
          refine num_abs (w0 := w) (l := [(gA, a, ga), (gB, b, gb), (gQ, 0, false), (gS, 0, false), (gq, (2 ^ (k + 1) * (a / 2 ^ (k + 1) / b)), false), (gr, R, false)]) (n0_.out _ (HO.out.bit 5 0 rfl (by decide) false)) ?_
          intro w8 hO_
          clear HO n0_ z0 zf zA
          have HO := Aside0.mk hO_
          clear hO_
          go_wp2_with (first | ((with_reducible refine gate_dst (N := 21) rfl ?_); refine num_load ?hg (N := 21) ?hd (.tmp 7) ?ho HO.out 5 (g := gr) (m := R) (s := false) ?hi ?hx ?_; (case hd => rfl); (case hg => rfl); (case ho => rfl); (case hi => rfl); (case hx => rfl)) | ((with_reducible refine gate_dst (N := 22) rfl ?_); refine num_load ?hg (N := 22) ?hd (.tmp 3) ?ho HO.out 1 (g := gB) (m := b) (s := gb) ?hi ?hx ?_; (case hd => rfl); (case hg => rfl); (case ho => rfl); (case hi => rfl); (case hx => rfl)) | (go_at_call 94; (with_reducible refine (HBL.out _).mono ?_); rintro e_ w9 ⟨rfl, hb_⟩; have n0_ : Aside0 (Own w w9 [(gA, a, ga), (gB, b, gb), (gQ, 0, false), (gS, 0, false), (gq, (2 ^ (k + 1) * (a / 2 ^ (k + 1) / b)), false), (gr, R, false)]) := ⟨HO.out.call hb_⟩; clear HO hb_; have HO := n0_; clear n0_))
          go_roundg k
          case measure => omega
          case rel => exact ⟨(k : Int) - 1, by first | rfl | go_num, ⟨by omega⟩, ⟨by have := HK.out; omega⟩, ⟨by have h := HO.out; rw [HS.out.1, HS.out.2] at h; exact h⟩⟩
      · have hst := hst0.2 (Nat.le_of_not_lt hlt)
        rw [decide_eq_false hlt] at HBL
        have HLE := Aside0.mk (Nat.le_of_not_lt hlt)
        clear hst0 hlt
        cases hxa : a.testBit k <;> rw [hxa] at HR
        case true =>
          rw [hxa] at zA
          have HS := Aside0.mk hst
          clear hst
          have HX := Aside0.mk hxa
          clear hxa
          go_upto_region 7 with (first | ((with_reducible refine gate_dst (N := 13) rfl ?_); refine num_load ?hg (N := 13) ?hd (.tmp 7) ?ho HO.out 5 (g := gr) (m := (a / 2 ^ (k + 1) % b)) (s := false) ?hi ?hx ?_; (case hd => rfl); (case hg => rfl); (case ho => rfl); (case hi => rfl); (case hx => rfl)) | (go_at_call 93; (with_reducible refine (num_twice _ _ _).mono ?_); rintro e_ w5 ⟨rfl, hb_⟩; clear zA; have n0_ : Aside0 (Own w w5 [(gA, a, ga), (gB, b, gb), (gQ, 0, false), (gS, 0, false), (gq, (2 ^ (k + 1) * (a / 2 ^ (k + 1) / b)), false), (gr, (a / 2 ^ (k + 1) % b), false)]) := ⟨HO.out.call hb_⟩; clear HO hb_; have HO := n0_; clear n0_; have zA := HO.out.cell 0 k rfl HK1.out; rw [HX.out] at zA) | ((with_reducible refine gate_store (t := 113) (p := 7) (v := .tmp 14) rfl ?_); refine num_store ?hg (.tmp 7) (.tmp 14) ?ho HO.out 5 (g := gr) (m := (a / 2 ^ (k + 1) % b)) (s := false) (m' := (2 * (a / 2 ^ (k + 1) % b))) (s' := false) ?hi ?hx ?hy ?_; (case hg => rfl); (case ho => rfl); (case hi => rfl); (case hx => rfl); (case hy => rfl); intro w6 hO_; have n0_ : Aside0 (Own w w6 [(gA, a, ga), (gB, b, gb), (gQ, 0, false), (gS, 0, false), (gq, (2 ^ (k + 1) * (a / 2 ^ (k + 1) / b)), false), (gr, (2 * (a / 2 ^ (k + 1) % b)), false)]) := ⟨hO_⟩; clear HO hO_; have HO := n0_; clear n0_; clear zA; have zA := HO.out.cell 0 k rfl HK1.out; rw [HX.out] at zA; have z0 := HO.out.cell 5 0 rfl (by decide); have zf := HO.out.free 5 0 rfl))
          have n0_ : Aside0 (∀ W : World, Own w W [(gA, a, ga), (gB, b, gb), (gQ, 0, false), (gS, 0, false), (gq, (2 ^ (k + 1) * (a / 2 ^ (k + 1) / b)), false), (gr, (setb (2 * (a / 2 ^ (k + 1) % b)) 0 true), false)] → Own w W [(gA, a, ga), (gB, b, gb), (gQ, 0, false), (gS, 0, false), (gq, (2 ^ (k + 1) * (a / 2 ^ (k + 1) / b)), false), (gr, R, false)]) := ⟨fun W h => by rw [HR.out] at h; exact h⟩
          refine num_abs (w0 := w) (l := [(gA, a, ga), (gB, b, gb), (gQ, 0, false), (gS, 0, false), (gq, (2 ^ (k + 1) * (a / 2 ^ (k + 1) / b)), false), (gr, R, false)]) (n0_.out _ (HO.out.bit 5 0 rfl (by decide) true)) ?_
          intro w8 hO_
          clear HO n0_ z0 zf zA
          have HO := Aside0.mk hO_
          clear hO_
          go_wp2_with (first | ((with_reducible refine gate_dst (N := 21) rfl ?_); refine num_load ?hg (N := 21) ?hd (.tmp 7) ?ho HO.out 5 (g := gr) (m := R) (s := false) ?hi ?hx ?_; (case hd => rfl); (case hg => rfl); (case ho => rfl); (case hi => rfl); (case hx => rfl)) | ((with_reducible refine gate_dst (N := 22) rfl ?_); refine num_load ?hg (N := 22) ?hd (.tmp 3) ?ho HO.out 1 (g := gB) (m := b) (s := gb) ?hi ?hx ?_; (case hd => rfl); (case hg => rfl); (case ho => rfl); (case hi => rfl); (case hx => rfl)) | (go_at_call 94; (with_reducible refine (HBL.out _).mono ?_); rintro e_ w9 ⟨rfl, hb_⟩; have n0_ : Aside0 (Own w w9 [(gA, a, ga), (gB, b, gb), (gQ, 0, false), (gS, 0, false), (gq, (2 ^ (k + 1) * (a / 2 ^ (k + 1) / b)), false), (gr, R, false)]) := ⟨HO.out.call hb_⟩; clear HO hb_; have HO := n0_; clear n0_) | ((with_reducible refine gate_dst (N := 25) rfl ?_); refine num_load ?hg (N := 25) ?hd (.tmp 7) ?ho HO.out 5 (g := gr) (m := R) (s := false) ?hi ?hx ?_; (case hd => rfl); (case hg => rfl); (case ho => rfl); (case hi => rfl); (case hx => rfl)) | ((with_reducible refine gate_dst (N := 26) rfl ?_); refine num_load ?hg (N := 26) ?hd (.tmp 3) ?ho HO.out 1 (g := gB) (m := b) (s := gb) ?hi ?hx ?_; (case hd => rfl); (case hg => rfl); (case ho => rfl); (case hi => rfl); (case hx => rfl)) | (go_at_call 104; (with_reducible refine (num_less _ _ _ _ HLE.out _).mono ?_); rintro e_ w10 ⟨rfl, hb_⟩; have n0_ : Aside0 (Own w w10 [(gA, a, ga), (gB, b, gb), (gQ, 0, false), (gS, 0, false), (gq, (2 ^ (k + 1) * (a / 2 ^ (k + 1) / b)), false), (gr, R, false)]) := ⟨HO.out.call hb_⟩; clear HO hb_; have HO := n0_; clear n0_) | ((with_reducible refine gate_store (t := 113) (p := 7) (v := .tmp 27) rfl ?_); refine num_store ?hg (.tmp 7) (.tmp 27) ?ho HO.out 5 (g := gr) (m := R) (s := false) (m' := (R - b)) (s' := false) ?hi ?hx ?hy ?_; (case hg => rfl); (case ho => rfl); (case hi => rfl); (case hx => rfl); (case hy => rfl); intro w11 hO_; have n0_ : Aside0 (Own w w11 [(gA, a, ga), (gB, b, gb), (gQ, 0, false), (gS, 0, false), (gq, (2 ^ (k + 1) * (a / 2 ^ (k + 1) / b)), false), (gr, (R - b), false)]) := ⟨hO_⟩; clear HO hO_; have HO := n0_; clear n0_; have zq := HO.out.cell 4 k rfl HK1.out; have zqf := HO.out.free 4 k rfl))
          go_roundg k
          case measure => omega
          case rel => exact ⟨(k : Int) - 1, by first | rfl | go_num, ⟨by omega⟩, ⟨by have := HK.out; omega⟩, ⟨by have h := HO.out.bit 4 k rfl HK1.out true; rw [← HS.out.1, ← HS.out.2]; exact h⟩⟩
        case false =>
          rw [hxa] at zA
          have HS := Aside0.mk hst
          clear hst
          have HX := Aside0.mk hxa
          clear hxa
          go_upto_region 7 with (first | ((with_reducible refine gate_dst (N := 13) rfl ?_); refine num_load ?hg (N := 13) ?hd (.tmp 7) ?ho HO.out 5 (g := gr) (m := (a / 2 ^ (k + 1) % b)) (s := false) ?hi ?hx ?_; (case hd => rfl); (case hg => rfl); (case ho => rfl); (case hi => rfl); (case hx => rfl)) | (go_at_call 93; (with_reducible refine (num_twice _ _ _).mono ?_); rintro e_ w5 ⟨rfl, hb_⟩; clear zA; have n0_ : Aside0 (Own w w5 [(gA, a, ga), (gB, b, gb), (gQ, 0, false), (gS, 0, false), (gq, (2 ^ (k + 1) * (a / 2 ^ (k + 1) / b)), false), (gr, (a / 2 ^ (k + 1) % b), false)]) := ⟨HO.out.call hb_⟩; clear HO hb_; have HO := n0_; clear n0_; have zA := HO.out.cell 0 k rfl HK1.out; rw [HX.out] at zA) | ((with_reducible refine gate_store (t := 113) (p := 7) (v := .tmp 14) rfl ?_); refine num_store ?hg (.tmp 7) (.tmp 14) ?ho HO.out 5 (g := gr) (m := (a / 2 ^ (k + 1) % b)) (s := false) (m' := (2 * (a / 2 ^ (k + 1) % b))) (s' := false) ?hi ?hx ?hy ?_; (case hg => rfl); (case ho => rfl); (case hi => rfl); (case hx => rfl); (case hy => rfl); intro w6 hO_; have n0_ : Aside0 (Own w w6 [(gA, a, ga), (gB, b, gb), (gQ, 0, false), (gS, 0, false), (gq, (2 ^ (k + 1) * (a / 2 ^ (k + 1) / b)), false), (gr, (2 * (a / 2 ^ (k + 1) % b)), false)]) := ⟨hO_⟩; clear HO hO_; have HO := n0_; clear n0_; clear zA; have zA := HO.out.cell 0 k rfl HK1.out; rw [HX.out] at zA; have z0 := HO.out.cell 5 0 rfl (by decide); have zf := HO.out.free 5 0 rfl))
          have n0_ : Aside0 (∀ W : World, Own w W [(gA, a, ga), (gB, b, gb), (gQ, 0, false), (gS, 0, false), (gq, (2 ^ (k + 1) * (a / 2 ^ (k + 1) / b)), false), (gr, (setb (2 * (a / 2 ^ (k + 1) % b)) 0 false), false)] → Own w W [(gA, a, ga), (gB, b, gb), (gQ, 0, false), (gS, 0, false), (gq, (2 ^ (k + 1) * (a / 2 ^ (k + 1) / b)), false), (gr, R, false)]) := ⟨fun W h => by rw [HR.out] at h; exact h⟩
          refine num_abs (w0 := w) (l := [(gA, a, ga), (gB, b, gb), (gQ, 0, false), (gS, 0, false), (gq, (2 ^ (k + 1) * (a / 2 ^ (k + 1) / b)), false), (gr, R, false)]) (n0_.out _ (HO.out.bit 5 0 rfl (by decide) false)) ?_
          intro w8 hO_
          clear HO n0_ z0 zf zA
          have HO := Aside0.mk hO_
          clear hO_
          go_wp2_with (first | ((with_reducible refine gate_dst (N := 21) rfl ?_); refine num_load ?hg (N := 21) ?hd (.tmp 7) ?ho HO.out 5 (g := gr) (m := R) (s := false) ?hi ?hx ?_; (case hd => rfl); (case hg => rfl); (case ho => rfl); (case hi => rfl); (case hx => rfl)) | ((with_reducible refine gate_dst (N := 22) rfl ?_); refine num_load ?hg (N := 22) ?hd (.tmp 3) ?ho HO.out 1 (g := gB) (m := b) (s := gb) ?hi ?hx ?_; (case hd => rfl); (case hg => rfl); (case ho => rfl); (case hi => rfl); (case hx => rfl)) | (go_at_call 94; (with_reducible refine (HBL.out _).mono ?_); rintro e_ w9 ⟨rfl, hb_⟩; have n0_ : Aside0 (Own w w9 [(gA, a, ga), (gB, b, gb), (gQ, 0, false), (gS, 0, false), (gq, (2 ^ (k + 1) * (a / 2 ^ (k + 1) / b)), false), (gr, R, false)]) := ⟨HO.out.call hb_⟩; clear HO hb_; have HO := n0_; clear n0_) | ((with_reducible refine gate_dst (N := 25) rfl ?_); refine num_load ?hg (N := 25) ?hd (.tmp 7) ?ho HO.out 5 (g := gr) (m := R) (s := false) ?hi ?hx ?_; (case hd => rfl); (case hg => rfl); (case ho => rfl); (case hi => rfl); (case hx => rfl)) | ((with_reducible refine gate_dst (N := 26) rfl ?_); refine num_load ?hg (N := 26) ?hd (.tmp 3) ?ho HO.out 1 (g := gB) (m := b) (s := gb) ?hi ?hx ?_; (case hd => rfl); (case hg => rfl); (case ho => rfl); (case hi => rfl); (case hx => rfl)) | (go_at_call 104; (with_reducible refine (num_less _ _ _ _ HLE.out _).mono ?_); rintro e_ w10 ⟨rfl, hb_⟩; have n0_ : Aside0 (Own w w10 [(gA, a, ga), (gB, b, gb), (gQ, 0, false), (gS, 0, false), (gq, (2 ^ (k + 1) * (a / 2 ^ (k + 1) / b)), false), (gr, R, false)]) := ⟨HO.out.call hb_⟩; clear HO hb_; have HO := n0_; clear n0_) | ((with_reducible refine gate_store (t := 113) (p := 7) (v := .tmp 27) rfl ?_); refine num_store ?hg (.tmp 7) (.tmp 27) ?ho HO.out 5 (g := gr) (m := R) (s := false) (m' := (R - b)) (s' := false) ?hi ?hx ?hy ?_; (case hg => rfl); (case ho => rfl); (case hi => rfl); (case hx => rfl); (case hy => rfl); intro w11 hO_; have n0_ : Aside0 (Own w w11 [(gA, a, ga), (gB, b, gb), (gQ, 0, false), (gS, 0, false), (gq, (2 ^ (k + 1) * (a / 2 ^ (k + 1) / b)), false), (gr, (R - b), false)]) := ⟨hO_⟩; clear HO hO_; have HO := n0_; clear n0_; have zq := HO.out.cell 4 k rfl HK1.out; have zqf := HO.out.free 4 k rfl))
          go_roundg k
          case measure => omega
          case rel => exact ⟨(k : Int) - 1, by first | rfl | go_num, ⟨by omega⟩, ⟨by have := HK.out; omega⟩, ⟨by have h := HO.out.bit 4 k rfl HK1.out true; rw [← HS.out.1, ← HS.out.2]; exact h⟩⟩

end Go.Proofs.Ytdfkbdcdgbjgcaa.Num
