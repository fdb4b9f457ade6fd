/- Printed by this session's wip/drive.py over the translation; some functions by hand. -/
import Derived.Test.YthaaghkplbbgdaaShbx0
import Derived.Test.YthaaghkplbbgdaaShbx4
namespace Go.Proofs.Ythaaghkplbbgdaa.Shb
open Go.RowKit Go.Proofs.YthaaghkplbbgdaaW.PrintWords Go.Proofs.YthaaghkplbbgdaaW.PrintLast Go.Proofs.YthaaghkplbbgdaaW.PrintMore
attribute [local go_sem] max2_int min2_int max_two min_two max_three min_three max_four min_four   -- for this text's walks alone
set_option linter.unusedVariables false
set_option linter.unusedSimpArgs false

/-! ### jobberref01_Times: function 55 (by hand; for other hand texts alone) -/
set_option maxHeartbeats 8000000 in
set_option maxRecDepth 100000 in
theorem num_times (a b : Nat) (ga gb : Bool) (hb : b < 2 ^ 64) (hm : a * b < 2 ^ 136) (w : World) :
    Calls Try.prog 55 #[.agg (numC a ga), .agg (numC b gb)] w fun e w' => e = .returned (.agg (numC (a * b) ((ga != gb) && !decide (a * b = 0)))) ∧ Below w.heap.size w w' := by
  have HO : Aside0 (Own w w []) := ⟨Own.start w⟩
  have HB64 := Aside0.mk hb
  obtain ⟨P, hP⟩ : ∃ P, a * b = P := ⟨_, rfl⟩
  rw [hP] at hm ⊢
  have HP := Aside0.mk hP
  have HN := Aside0.mk (fun w => num_nought P false hm w)
  obtain ⟨z, hz⟩ : ∃ z, decide (P = 0) = z := ⟨_, rfl⟩
  rw [hz] at HN ⊢
  clear hb hm hP hz
  cases ga <;> cases gb
  case false.false =>
    go_enter Try.func55, Try.ntmps55
    go_wp2_with (first | ((with_reducible refine gate_dst (N := 2) rfl ?_); refine num_new ?hg (N := 2) ?hd (cs := numC a false) HO.out a false ?hc ?hr ?_; (case hc => first | rfl | exact zcNum); (case hd => rfl); (case hg => rfl); (case hr => first | (go_simp; done) | (go_simp; rfl)); intro gA w1 hO_; have n0_ : Aside0 (Own w w1 [(gA, a, false)]) := ⟨hO_⟩; clear HO hO_; have HO := n0_; clear n0_) | ((with_reducible refine gate_dst (N := 3) rfl ?_); refine num_new ?hg (N := 3) ?hd (cs := numC b false) HO.out b false ?hc ?hr ?_; (case hc => first | rfl | exact zcNum); (case hd => rfl); (case hg => rfl); (case hr => first | (go_simp; done) | (go_simp; rfl)); intro gB w2 hO_; have n0_ : Aside0 (Own w w2 [(gA, a, false), (gB, b, false)]) := ⟨hO_⟩; clear HO hO_; have HO := n0_; clear n0_) | ((with_reducible refine gate_dst (N := 4) rfl ?_); refine num_new ?hg (N := 4) ?hd (cs := Try.zeroCells84) HO.out 0 false ?hc ?hr ?_; (case hc => first | rfl | exact zcNum); (case hd => rfl); (case hg => rfl); (case hr => first | (go_simp; done) | (go_simp; rfl)); intro gR w3 hO_; have n0_ : Aside0 (Own w w3 [(gA, a, false), (gB, b, false), (gR, 0, false)]) := ⟨hO_⟩; clear HO hO_; have HO := n0_; clear n0_) | ((with_reducible refine gate_dst (N := 5) rfl ?_); refine num_new ?hg (N := 5) ?hd (cs := Try.zeroCells84) HO.out 0 false ?hc ?hr ?_; (case hc => first | rfl | exact zcNum); (case hd => rfl); (case hg => rfl); (case hr => first | (go_simp; done) | (go_simp; rfl)); intro gN w4 hO_; have n0_ : Aside0 (Own w w4 [(gA, a, false), (gB, b, false), (gR, 0, false), (gN, 0, false)]) := ⟨hO_⟩; clear HO hO_; have HO := n0_; clear n0_) | ((with_reducible refine gate_dst (N := 8) rfl ?_); refine num_load ?hg (N := 8) ?hd (.tmp 2) ?ho HO.out 0 (g := gA) (m := a) (s := false) ?hi ?hx ?_; (case hd => rfl); (case hg => rfl); (case ho => rfl); (case hi => rfl); (case hx => rfl)) | ((with_reducible refine gate_dst (N := 6) rfl ?_); refine num_new ?hg (N := 6) ?hd (cs := Try.zeroCells84) HO.out 0 false ?hc ?hr ?_; (case hc => first | rfl | exact zcNum); (case hd => rfl); (case hg => rfl); (case hr => first | (go_simp; done) | (go_simp; rfl)); intro gX w5 hO_; have n0_ : Aside0 (Own w w5 [(gA, a, false), (gB, b, false), (gR, 0, false), (gN, 0, false), (gX, 0, false)]) := ⟨hO_⟩; clear HO hO_; have HO := n0_; clear n0_) | ((with_reducible refine gate_store (t := 84) (p := 6) (v := .tmp 8) rfl ?_); refine num_store ?hg (.tmp 6) (.tmp 8) ?ho HO.out 4 (g := gX) (m := 0) (s := false) (m' := a) (s' := false) ?hi ?hx ?hy ?_; (case hg => rfl); (case ho => rfl); (case hi => rfl); (case hx => rfl); (case hy => rfl); intro w6 hO_; have n0_ : Aside0 (Own w w6 [(gA, a, false), (gB, b, false), (gR, 0, false), (gN, 0, false), (gX, a, false)]) := ⟨hO_⟩; clear HO hO_; have HO := n0_; clear n0_))
    go_loopg [7] 64 (fun kq v7 wr => ∃ k : Nat, v7 = .int .i64 k ∧ Aside0 (k + kq = 64) ∧ Aside0 (Own w wr [(gA, a, false), (gB, b, false), (gR, 0, false), (gN, (a * (b % 2 ^ k)), false), (gX, (a * 2 ^ k), false)]))
    case atStart => exact ⟨0, rfl, ⟨rfl⟩, ⟨by have h := HO.out; simp only [Nat.pow_zero, Nat.mod_one, Nat.mul_zero, Nat.mul_one]; exact h⟩⟩
    case round =>
      clear HO
      obtain ⟨k, rfl, HK, HO⟩ := hrel
      by_cases hk : k < 64
      · have hd : decide ((k : Int) < 64) = true := decide_eq_true (by omega)
        have zb_ := HO.out.cell 1 k rfl (by omega)
        have HE2 := Aside0.mk (show 2 * (a * 2 ^ k) = a * 2 ^ (k + 1) by rw [Nat.pow_succ, Nat.mul_left_comm, Nat.mul_comm 2])
        have hm := Nat.mod_pow_succ (b := 2) (k := k) (x := b)
        have ht := tb_div b k
        rw [← ht] at hm
        cases hxb : b.testBit k
        case true =>
          rw [hxb] at zb_ hm
          have HE1 := Aside0.mk (show a * (b % 2 ^ k) + a * 2 ^ k = a * (b % 2 ^ (k + 1)) by rw [hm, ← Nat.mul_add]; simp)
          clear hxb hm ht
          go_wp2_with (first | ((with_reducible refine gate_dst (N := 17) rfl ?_); refine num_load ?hg (N := 17) ?hd (.tmp 5) ?ho HO.out 3 (g := gN) (m := (a * (b % 2 ^ k))) (s := false) ?hi ?hx ?_; (case hd => rfl); (case hg => rfl); (case ho => rfl); (case hi => rfl); (case hx => rfl)) | ((with_reducible refine gate_dst (N := 18) rfl ?_); refine num_load ?hg (N := 18) ?hd (.tmp 6) ?ho HO.out 4 (g := gX) (m := (a * 2 ^ k)) (s := false) ?hi ?hx ?_; (case hd => rfl); (case hg => rfl); (case ho => rfl); (case hi => rfl); (case hx => rfl)) | (go_at_call 66; (with_reducible refine (num_more _ _ _ _ _).mono ?_); rintro e_ w7 ⟨rfl, hb_⟩; have n0_ : Aside0 (Own w w7 [(gA, a, false), (gB, b, false), (gR, 0, false), (gN, (a * (b % 2 ^ k)), false), (gX, (a * 2 ^ k), false)]) := ⟨HO.out.call hb_⟩; clear zb_ HO hb_; have HO := n0_; clear n0_) | ((with_reducible refine gate_store (t := 84) (p := 5) (v := .tmp 19) rfl ?_); refine num_store ?hg (.tmp 5) (.tmp 19) ?ho HO.out 3 (g := gN) (m := (a * (b % 2 ^ k))) (s := false) (m' := (a * (b % 2 ^ k) + a * 2 ^ k)) (s' := false) ?hi ?hx ?hy ?_; (case hg => rfl); (case ho => rfl); (case hi => rfl); (case hx => rfl); (case hy => rfl); intro w8 hO_; have n0_ : Aside0 (Own w w8 [(gA, a, false), (gB, b, false), (gR, 0, false), (gN, (a * (b % 2 ^ k) + a * 2 ^ k), false), (gX, (a * 2 ^ k), false)]) := ⟨hO_⟩; clear HO hO_; have HO := n0_; clear n0_) | ((with_reducible refine gate_dst (N := 20) rfl ?_); refine num_load ?hg (N := 20) ?hd (.tmp 6) ?ho HO.out 4 (g := gX) (m := (a * 2 ^ k)) (s := false) ?hi ?hx ?_; (case hd => rfl); (case hg => rfl); (case ho => rfl); (case hi => rfl); (case hx => rfl)) | (go_at_call 64; (with_reducible refine (num_twice _ _ _).mono ?_); rintro e_ w9 ⟨rfl, hb_⟩; have n0_ : Aside0 (Own w w9 [(gA, a, false), (gB, b, false), (gR, 0, false), (gN, (a * (b % 2 ^ k) + a * 2 ^ k), false), (gX, (a * 2 ^ k), false)]) := ⟨HO.out.call hb_⟩; clear HO hb_; have HO := n0_; clear n0_) | ((with_reducible refine gate_store (t := 84) (p := 6) (v := .tmp 21) rfl ?_); refine num_store ?hg (.tmp 6) (.tmp 21) ?ho HO.out 4 (g := gX) (m := (a * 2 ^ k)) (s := false) (m' := (2 * (a * 2 ^ k))) (s' := false) ?hi ?hx ?hy ?_; (case hg => rfl); (case ho => rfl); (case hi => rfl); (case hx => rfl); (case hy => rfl); intro w10 hO_; have n0_ : Aside0 (Own w w10 [(gA, a, false), (gB, b, false), (gR, 0, false), (gN, (a * (b % 2 ^ k) + a * 2 ^ k), false), (gX, (2 * (a * 2 ^ k)), false)]) := ⟨hO_⟩; clear HO hO_; have HO := n0_; clear n0_))
          go_roundg (gk - 1)
          case measure => have := HK.out; omega
          case rel => exact ⟨k + 1, by go_num, ⟨by have := HK.out; omega⟩, ⟨by have h := HO.out; rw [HE1.out, HE2.out] at h; exact h⟩⟩
        case false =>
          rw [hxb] at zb_ hm
          have HE1 := Aside0.mk (show a * (b % 2 ^ k) = a * (b % 2 ^ (k + 1)) by rw [hm]; simp)
          clear hxb hm ht
          go_wp2_with (first | ((with_reducible refine gate_dst (N := 20) rfl ?_); refine num_load ?hg (N := 20) ?hd (.tmp 6) ?ho HO.out 4 (g := gX) (m := (a * 2 ^ k)) (s := false) ?hi ?hx ?_; (case hd => rfl); (case hg => rfl); (case ho => rfl); (case hi => rfl); (case hx => rfl)) | (go_at_call 64; (with_reducible refine (num_twice _ _ _).mono ?_); rintro e_ w9 ⟨rfl, hb_⟩; have n0_ : Aside0 (Own w w9 [(gA, a, false), (gB, b, false), (gR, 0, false), (gN, (a * (b % 2 ^ k)), false), (gX, (a * 2 ^ k), false)]) := ⟨HO.out.call hb_⟩; clear HO hb_; have HO := n0_; clear n0_) | ((with_reducible refine gate_store (t := 84) (p := 6) (v := .tmp 21) rfl ?_); refine num_store ?hg (.tmp 6) (.tmp 21) ?ho HO.out 4 (g := gX) (m := (a * 2 ^ k)) (s := false) (m' := (2 * (a * 2 ^ k))) (s' := false) ?hi ?hx ?hy ?_; (case hg => rfl); (case ho => rfl); (case hi => rfl); (case hx => rfl); (case hy => rfl); intro w10 hO_; have n0_ : Aside0 (Own w w10 [(gA, a, false), (gB, b, false), (gR, 0, false), (gN, (a * (b % 2 ^ k)), false), (gX, (2 * (a * 2 ^ k)), false)]) := ⟨hO_⟩; clear HO hO_; have HO := n0_; clear n0_))
          go_roundg (gk - 1)
          case measure => have := HK.out; omega
          case rel => exact ⟨k + 1, by go_num, ⟨by have := HK.out; omega⟩, ⟨by have h := HO.out; rw [HE1.out, HE2.out] at h; exact h⟩⟩
      · have hd : decide ((k : Int) < 64) = false := decide_eq_false (by omega)
        have hk64 : k = 64 := by have := HK.out; omega
        have HE := Aside0.mk (show a * (b % 2 ^ k) = a * b by rw [hk64, Nat.mod_eq_of_lt HB64.out])
        clear hk64
        obtain ⟨X, hX⟩ : ∃ X, a * 2 ^ k = X := ⟨_, rfl⟩
        have n0_ : Aside0 (Own w wr [(gA, a, false), (gB, b, false), (gR, 0, false), (gN, P, false), (gX, X, false)]) := ⟨by have h := HO.out; rw [HE.out, hX, HP.out] at h; exact h⟩
        clear HO; have HO := n0_; clear n0_
        clear hX HE
        have z0_ := HO.out.neg 0 rfl
        have z1_ := HO.out.neg 1 rfl
        have zn_ := HO.out.neg 3 rfl
        have zf_ := HO.out.free 3 136 rfl
        go_upto_region 10 with (first | ((with_reducible refine gate_dst (N := 28) rfl ?_); (refine gate_guard (by rfl) ?_; dsimp only); refine num_load ?hg (N := 28) ?hd (.tmp 5) ?ho HO.out 3 (g := gN) (m := P) (s := false) ?hi ?hx ?_; (case hd => rfl); (case hg => rfl); (case ho => rfl); (case hi => rfl); (case hx => rfl)) | (go_at_call 63; (with_reducible refine (HN.out _).mono ?_); rintro e_ w11 ⟨rfl, hb_⟩; clear z0_ z1_ zn_ zf_; have n0_ : Aside0 (Own w w11 [(gA, a, false), (gB, b, false), (gR, 0, false), (gN, P, false), (gX, X, false)]) := ⟨HO.out.call hb_⟩; clear HO hb_; have HO := n0_; clear n0_; have z0_ := HO.out.neg 0 rfl; have z1_ := HO.out.neg 1 rfl; have zn_ := HO.out.neg 3 rfl; have zf_ := HO.out.free 3 136 rfl))
        refine num_abs (w0 := w) (l := [(gA, a, false), (gB, b, false), (gR, 0, false), (gN, P, false), (gX, X, false)]) (HO.out.sign 3 rfl _) ?_
        intro w12 hO_
        clear HO
        have HO := Aside0.mk hO_
        clear hO_
        clear z0_ z1_ zn_ zf_
        go_wp2_with (first | ((with_reducible refine gate_dst (N := 33) rfl ?_); refine num_load ?hg (N := 33) ?hd (.tmp 5) ?ho HO.out 3 (g := gN) (m := P) (s := false) ?hi ?hx ?_; (case hd => rfl); (case hg => rfl); (case ho => rfl); (case hi => rfl); (case hx => rfl)) | ((with_reducible refine gate_store (t := 84) (p := 4) (v := .tmp 33) rfl ?_); refine num_store ?hg (.tmp 4) (.tmp 33) ?ho HO.out 2 (g := gR) (m := 0) (s := false) (m' := P) (s' := false) ?hi ?hx ?hy ?_; (case hg => rfl); (case ho => rfl); (case hi => rfl); (case hx => rfl); (case hy => rfl); intro w13 hO_; have n0_ : Aside0 (Own w w13 [(gA, a, false), (gB, b, false), (gR, P, false), (gN, P, false), (gX, X, false)]) := ⟨hO_⟩; clear HO hO_; have HO := n0_; clear n0_))
        exact bodyPost_ret (num_result rfl HO.out 2 rfl _ rfl) rfl ⟨by first | rfl | simp, HO.out.below⟩
  case false.true =>
    go_enter Try.func55, Try.ntmps55
    go_wp2_with (first | ((with_reducible refine gate_dst (N := 2) rfl ?_); refine num_new ?hg (N := 2) ?hd (cs := numC a false) HO.out a false ?hc ?hr ?_; (case hc => first | rfl | exact zcNum); (case hd => rfl); (case hg => rfl); (case hr => first | (go_simp; done) | (go_simp; rfl)); intro gA w1 hO_; have n0_ : Aside0 (Own w w1 [(gA, a, false)]) := ⟨hO_⟩; clear HO hO_; have HO := n0_; clear n0_) | ((with_reducible refine gate_dst (N := 3) rfl ?_); refine num_new ?hg (N := 3) ?hd (cs := numC b true) HO.out b true ?hc ?hr ?_; (case hc => first | rfl | exact zcNum); (case hd => rfl); (case hg => rfl); (case hr => first | (go_simp; done) | (go_simp; rfl)); intro gB w2 hO_; have n0_ : Aside0 (Own w w2 [(gA, a, false), (gB, b, true)]) := ⟨hO_⟩; clear HO hO_; have HO := n0_; clear n0_) | ((with_reducible refine gate_dst (N := 4) rfl ?_); refine num_new ?hg (N := 4) ?hd (cs := Try.zeroCells84) HO.out 0 false ?hc ?hr ?_; (case hc => first | rfl | exact zcNum); (case hd => rfl); (case hg => rfl); (case hr => first | (go_simp; done) | (go_simp; rfl)); intro gR w3 hO_; have n0_ : Aside0 (Own w w3 [(gA, a, false), (gB, b, true), (gR, 0, false)]) := ⟨hO_⟩; clear HO hO_; have HO := n0_; clear n0_) | ((with_reducible refine gate_dst (N := 5) rfl ?_); refine num_new ?hg (N := 5) ?hd (cs := Try.zeroCells84) HO.out 0 false ?hc ?hr ?_; (case hc => first | rfl | exact zcNum); (case hd => rfl); (case hg => rfl); (case hr => first | (go_simp; done) | (go_simp; rfl)); intro gN w4 hO_; have n0_ : Aside0 (Own w w4 [(gA, a, false), (gB, b, true), (gR, 0, false), (gN, 0, false)]) := ⟨hO_⟩; clear HO hO_; have HO := n0_; clear n0_) | ((with_reducible refine gate_dst (N := 8) rfl ?_); refine num_load ?hg (N := 8) ?hd (.tmp 2) ?ho HO.out 0 (g := gA) (m := a) (s := false) ?hi ?hx ?_; (case hd => rfl); (case hg => rfl); (case ho => rfl); (case hi => rfl); (case hx => rfl)) | ((with_reducible refine gate_dst (N := 6) rfl ?_); refine num_new ?hg (N := 6) ?hd (cs := Try.zeroCells84) HO.out 0 false ?hc ?hr ?_; (case hc => first | rfl | exact zcNum); (case hd => rfl); (case hg => rfl); (case hr => first | (go_simp; done) | (go_simp; rfl)); intro gX w5 hO_; have n0_ : Aside0 (Own w w5 [(gA, a, false), (gB, b, true), (gR, 0, false), (gN, 0, false), (gX, 0, false)]) := ⟨hO_⟩; clear HO hO_; have HO := n0_; clear n0_) | ((with_reducible refine gate_store (t := 84) (p := 6) (v := .tmp 8) rfl ?_); refine num_store ?hg (.tmp 6) (.tmp 8) ?ho HO.out 4 (g := gX) (m := 0) (s := false) (m' := a) (s' := false) ?hi ?hx ?hy ?_; (case hg => rfl); (case ho => rfl); (case hi => rfl); (case hx => rfl); (case hy => rfl); intro w6 hO_; have n0_ : Aside0 (Own w w6 [(gA, a, false), (gB, b, true), (gR, 0, false), (gN, 0, false), (gX, a, false)]) := ⟨hO_⟩; clear HO hO_; have HO := n0_; clear n0_))
    go_loopg [7] 64 (fun kq v7 wr => ∃ k : Nat, v7 = .int .i64 k ∧ Aside0 (k + kq = 64) ∧ Aside0 (Own w wr [(gA, a, false), (gB, b, true), (gR, 0, false), (gN, (a * (b % 2 ^ k)), false), (gX, (a * 2 ^ k), false)]))
    case atStart => exact ⟨0, rfl, ⟨rfl⟩, ⟨by have h := HO.out; simp only [Nat.pow_zero, Nat.mod_one, Nat.mul_zero, Nat.mul_one]; exact h⟩⟩
    case round =>
      clear HO
      obtain ⟨k, rfl, HK, HO⟩ := hrel
      by_cases hk : k < 64
      · have hd : decide ((k : Int) < 64) = true := decide_eq_true (by omega)
        have zb_ := HO.out.cell 1 k rfl (by omega)
        have HE2 := Aside0.mk (show 2 * (a * 2 ^ k) = a * 2 ^ (k + 1) by rw [Nat.pow_succ, Nat.mul_left_comm, Nat.mul_comm 2])
        have hm := Nat.mod_pow_succ (b := 2) (k := k) (x := b)
        have ht := tb_div b k
        rw [← ht] at hm
        cases hxb : b.testBit k
        case true =>
          rw [hxb] at zb_ hm
          have HE1 := Aside0.mk (show a * (b % 2 ^ k) + a * 2 ^ k = a * (b % 2 ^ (k + 1)) by rw [hm, ← Nat.mul_add]; simp)
          clear hxb hm ht
          go_wp2_with (first | ((with_reducible refine gate_dst (N := 17) rfl ?_); refine num_load ?hg (N := 17) ?hd (.tmp 5) ?ho HO.out 3 (g := gN) (m := (a * (b % 2 ^ k))) (s := false) ?hi ?hx ?_; (case hd => rfl); (case hg => rfl); (case ho => rfl); (case hi => rfl); (case hx => rfl)) | ((with_reducible refine gate_dst (N := 18) rfl ?_); refine num_load ?hg (N := 18) ?hd (.tmp 6) ?ho HO.out 4 (g := gX) (m := (a * 2 ^ k)) (s := false) ?hi ?hx ?_; (case hd => rfl); (case hg => rfl); (case ho => rfl); (case hi => rfl); (case hx => rfl)) | (go_at_call 66; (with_reducible refine (num_more _ _ _ _ _).mono ?_); rintro e_ w7 ⟨rfl, hb_⟩; have n0_ : Aside0 (Own w w7 [(gA, a, false), (gB, b, true), (gR, 0, false), (gN, (a * (b % 2 ^ k)), false), (gX, (a * 2 ^ k), false)]) := ⟨HO.out.call hb_⟩; clear zb_ HO hb_; have HO := n0_; clear n0_) | ((with_reducible refine gate_store (t := 84) (p := 5) (v := .tmp 19) rfl ?_); refine num_store ?hg (.tmp 5) (.tmp 19) ?ho HO.out 3 (g := gN) (m := (a * (b % 2 ^ k))) (s := false) (m' := (a * (b % 2 ^ k) + a * 2 ^ k)) (s' := false) ?hi ?hx ?hy ?_; (case hg => rfl); (case ho => rfl); (case hi => rfl); (case hx => rfl); (case hy => rfl); intro w8 hO_; have n0_ : Aside0 (Own w w8 [(gA, a, false), (gB, b, true), (gR, 0, false), (gN, (a * (b % 2 ^ k) + a * 2 ^ k), false), (gX, (a * 2 ^ k), false)]) := ⟨hO_⟩; clear HO hO_; have HO := n0_; clear n0_) | ((with_reducible refine gate_dst (N := 20) rfl ?_); refine num_load ?hg (N := 20) ?hd (.tmp 6) ?ho HO.out 4 (g := gX) (m := (a * 2 ^ k)) (s := false) ?hi ?hx ?_; (case hd => rfl); (case hg => rfl); (case ho => rfl); (case hi => rfl); (case hx => rfl)) | (go_at_call 64; (with_reducible refine (num_twice _ _ _).mono ?_); rintro e_ w9 ⟨rfl, hb_⟩; have n0_ : Aside0 (Own w w9 [(gA, a, false), (gB, b, true), (gR, 0, false), (gN, (a * (b % 2 ^ k) + a * 2 ^ k), false), (gX, (a * 2 ^ k), false)]) := ⟨HO.out.call hb_⟩; clear HO hb_; have HO := n0_; clear n0_) | ((with_reducible refine gate_store (t := 84) (p := 6) (v := .tmp 21) rfl ?_); refine num_store ?hg (.tmp 6) (.tmp 21) ?ho HO.out 4 (g := gX) (m := (a * 2 ^ k)) (s := false) (m' := (2 * (a * 2 ^ k))) (s' := false) ?hi ?hx ?hy ?_; (case hg => rfl); (case ho => rfl); (case hi => rfl); (case hx => rfl); (case hy => rfl); intro w10 hO_; have n0_ : Aside0 (Own w w10 [(gA, a, false), (gB, b, true), (gR, 0, false), (gN, (a * (b % 2 ^ k) + a * 2 ^ k), false), (gX, (2 * (a * 2 ^ k)), false)]) := ⟨hO_⟩; clear HO hO_; have HO := n0_; clear n0_))
          go_roundg (gk - 1)
          case measure => have := HK.out; omega
          case rel => exact ⟨k + 1, by go_num, ⟨by have := HK.out; omega⟩, ⟨by have h := HO.out; rw [HE1.out, HE2.out] at h; exact h⟩⟩
        case false =>
          rw [hxb] at zb_ hm
          have HE1 := Aside0.mk (show a * (b % 2 ^ k) = a * (b % 2 ^ (k + 1)) by rw [hm]; simp)
          clear hxb hm ht
          go_wp2_with (first | ((with_reducible refine gate_dst (N := 20) rfl ?_); refine num_load ?hg (N := 20) ?hd (.tmp 6) ?ho HO.out 4 (g := gX) (m := (a * 2 ^ k)) (s := false) ?hi ?hx ?_; (case hd => rfl); (case hg => rfl); (case ho => rfl); (case hi => rfl); (case hx => rfl)) | (go_at_call 64; (with_reducible refine (num_twice _ _ _).mono ?_); rintro e_ w9 ⟨rfl, hb_⟩; have n0_ : Aside0 (Own w w9 [(gA, a, false), (gB, b, true), (gR, 0, false), (gN, (a * (b % 2 ^ k)), false), (gX, (a * 2 ^ k), false)]) := ⟨HO.out.call hb_⟩; clear HO hb_; have HO := n0_; clear n0_) | ((with_reducible refine gate_store (t := 84) (p := 6) (v := .tmp 21) rfl ?_); refine num_store ?hg (.tmp 6) (.tmp 21) ?ho HO.out 4 (g := gX) (m := (a * 2 ^ k)) (s := false) (m' := (2 * (a * 2 ^ k))) (s' := false) ?hi ?hx ?hy ?_; (case hg => rfl); (case ho => rfl); (case hi => rfl); (case hx => rfl); (case hy => rfl); intro w10 hO_; have n0_ : Aside0 (Own w w10 [(gA, a, false), (gB, b, true), (gR, 0, false), (gN, (a * (b % 2 ^ k)), false), (gX, (2 * (a * 2 ^ k)), false)]) := ⟨hO_⟩; clear HO hO_; have HO := n0_; clear n0_))
          go_roundg (gk - 1)
          case measure => have := HK.out; omega
          case rel => exact ⟨k + 1, by go_num, ⟨by have := HK.out; omega⟩, ⟨by have h := HO.out; rw [HE1.out, HE2.out] at h; exact h⟩⟩
      · have hd : decide ((k : Int) < 64) = false := decide_eq_false (by omega)
        have hk64 : k = 64 := by have := HK.out; omega
        have HE := Aside0.mk (show a * (b % 2 ^ k) = a * b by rw [hk64, Nat.mod_eq_of_lt HB64.out])
        clear hk64
        obtain ⟨X, hX⟩ : ∃ X, a * 2 ^ k = X := ⟨_, rfl⟩
        have n0_ : Aside0 (Own w wr [(gA, a, false), (gB, b, true), (gR, 0, false), (gN, P, false), (gX, X, false)]) := ⟨by have h := HO.out; rw [HE.out, hX, HP.out] at h; exact h⟩
        clear HO; have HO := n0_; clear n0_
        clear hX HE
        have z0_ := HO.out.neg 0 rfl
        have z1_ := HO.out.neg 1 rfl
        have zn_ := HO.out.neg 3 rfl
        have zf_ := HO.out.free 3 136 rfl
        go_upto_region 10 with (first | ((with_reducible refine gate_dst (N := 28) rfl ?_); (refine gate_guard (by rfl) ?_; dsimp only); refine num_load ?hg (N := 28) ?hd (.tmp 5) ?ho HO.out 3 (g := gN) (m := P) (s := false) ?hi ?hx ?_; (case hd => rfl); (case hg => rfl); (case ho => rfl); (case hi => rfl); (case hx => rfl)) | (go_at_call 63; (with_reducible refine (HN.out _).mono ?_); rintro e_ w11 ⟨rfl, hb_⟩; clear z0_ z1_ zn_ zf_; have n0_ : Aside0 (Own w w11 [(gA, a, false), (gB, b, true), (gR, 0, false), (gN, P, false), (gX, X, false)]) := ⟨HO.out.call hb_⟩; clear HO hb_; have HO := n0_; clear n0_; have z0_ := HO.out.neg 0 rfl; have z1_ := HO.out.neg 1 rfl; have zn_ := HO.out.neg 3 rfl; have zf_ := HO.out.free 3 136 rfl))
        refine num_abs (w0 := w) (l := [(gA, a, false), (gB, b, true), (gR, 0, false), (gN, P, (!z)), (gX, X, false)]) (HO.out.sign 3 rfl _) ?_
        intro w12 hO_
        clear HO
        have HO := Aside0.mk hO_
        clear hO_
        clear z0_ z1_ zn_ zf_
        go_wp2_with (first | ((with_reducible refine gate_dst (N := 33) rfl ?_); refine num_load ?hg (N := 33) ?hd (.tmp 5) ?ho HO.out 3 (g := gN) (m := P) (s := (!z)) ?hi ?hx ?_; (case hd => rfl); (case hg => rfl); (case ho => rfl); (case hi => rfl); (case hx => rfl)) | ((with_reducible refine gate_store (t := 84) (p := 4) (v := .tmp 33) rfl ?_); refine num_store ?hg (.tmp 4) (.tmp 33) ?ho HO.out 2 (g := gR) (m := 0) (s := false) (m' := P) (s' := (!z)) ?hi ?hx ?hy ?_; (case hg => rfl); (case ho => rfl); (case hi => rfl); (case hx => rfl); (case hy => rfl); intro w13 hO_; have n0_ : Aside0 (Own w w13 [(gA, a, false), (gB, b, true), (gR, P, (!z)), (gN, P, (!z)), (gX, X, false)]) := ⟨hO_⟩; clear HO hO_; have HO := n0_; clear n0_))
        exact bodyPost_ret (num_result rfl HO.out 2 rfl _ rfl) rfl ⟨by first | rfl | simp, HO.out.below⟩
  case true.false =>
    go_enter Try.func55, Try.ntmps55
    go_wp2_with (first | ((with_reducible refine gate_dst (N := 2) rfl ?_); refine num_new ?hg (N := 2) ?hd (cs := numC a true) HO.out a true ?hc ?hr ?_; (case hc => first | rfl | exact zcNum); (case hd => rfl); (case hg => rfl); (case hr => first | (go_simp; done) | (go_simp; rfl)); intro gA w1 hO_; have n0_ : Aside0 (Own w w1 [(gA, a, true)]) := ⟨hO_⟩; clear HO hO_; have HO := n0_; clear n0_) | ((with_reducible refine gate_dst (N := 3) rfl ?_); refine num_new ?hg (N := 3) ?hd (cs := numC b false) HO.out b false ?hc ?hr ?_; (case hc => first | rfl | exact zcNum); (case hd => rfl); (case hg => rfl); (case hr => first | (go_simp; done) | (go_simp; rfl)); intro gB w2 hO_; have n0_ : Aside0 (Own w w2 [(gA, a, true), (gB, b, false)]) := ⟨hO_⟩; clear HO hO_; have HO := n0_; clear n0_) | ((with_reducible refine gate_dst (N := 4) rfl ?_); refine num_new ?hg (N := 4) ?hd (cs := Try.zeroCells84) HO.out 0 false ?hc ?hr ?_; (case hc => first | rfl | exact zcNum); (case hd => rfl); (case hg => rfl); (case hr => first | (go_simp; done) | (go_simp; rfl)); intro gR w3 hO_; have n0_ : Aside0 (Own w w3 [(gA, a, true), (gB, b, false), (gR, 0, false)]) := ⟨hO_⟩; clear HO hO_; have HO := n0_; clear n0_) | ((with_reducible refine gate_dst (N := 5) rfl ?_); refine num_new ?hg (N := 5) ?hd (cs := Try.zeroCells84) HO.out 0 false ?hc ?hr ?_; (case hc => first | rfl | exact zcNum); (case hd => rfl); (case hg => rfl); (case hr => first | (go_simp; done) | (go_simp; rfl)); intro gN w4 hO_; have n0_ : Aside0 (Own w w4 [(gA, a, true), (gB, b, false), (gR, 0, false), (gN, 0, false)]) := ⟨hO_⟩; clear HO hO_; have HO := n0_; clear n0_) | ((with_reducible refine gate_dst (N := 8) rfl ?_); refine num_load ?hg (N := 8) ?hd (.tmp 2) ?ho HO.out 0 (g := gA) (m := a) (s := true) ?hi ?hx ?_; (case hd => rfl); (case hg => rfl); (case ho => rfl); (case hi => rfl); (case hx => rfl)) | ((with_reducible refine gate_dst (N := 6) rfl ?_); refine num_new ?hg (N := 6) ?hd (cs := Try.zeroCells84) HO.out 0 false ?hc ?hr ?_; (case hc => first | rfl | exact zcNum); (case hd => rfl); (case hg => rfl); (case hr => first | (go_simp; done) | (go_simp; rfl)); intro gX w5 hO_; have n0_ : Aside0 (Own w w5 [(gA, a, true), (gB, b, false), (gR, 0, false), (gN, 0, false), (gX, 0, false)]) := ⟨hO_⟩; clear HO hO_; have HO := n0_; clear n0_) | ((with_reducible refine gate_store (t := 84) (p := 6) (v := .tmp 8) rfl ?_); refine num_store ?hg (.tmp 6) (.tmp 8) ?ho HO.out 4 (g := gX) (m := 0) (s := false) (m' := a) (s' := true) ?hi ?hx ?hy ?_; (case hg => rfl); (case ho => rfl); (case hi => rfl); (case hx => rfl); (case hy => rfl); intro w6 hO_; have n0_ : Aside0 (Own w w6 [(gA, a, true), (gB, b, false), (gR, 0, false), (gN, 0, false), (gX, a, true)]) := ⟨hO_⟩; clear HO hO_; have HO := n0_; clear n0_))
    go_loopg [7] 64 (fun kq v7 wr => ∃ k : Nat, v7 = .int .i64 k ∧ Aside0 (k + kq = 64) ∧ Aside0 (Own w wr [(gA, a, true), (gB, b, false), (gR, 0, false), (gN, (a * (b % 2 ^ k)), false), (gX, (a * 2 ^ k), true)]))
    case atStart => exact ⟨0, rfl, ⟨rfl⟩, ⟨by have h := HO.out; simp only [Nat.pow_zero, Nat.mod_one, Nat.mul_zero, Nat.mul_one]; exact h⟩⟩
    case round =>
      clear HO
      obtain ⟨k, rfl, HK, HO⟩ := hrel
      by_cases hk : k < 64
      · have hd : decide ((k : Int) < 64) = true := decide_eq_true (by omega)
        have zb_ := HO.out.cell 1 k rfl (by omega)
        have HE2 := Aside0.mk (show 2 * (a * 2 ^ k) = a * 2 ^ (k + 1) by rw [Nat.pow_succ, Nat.mul_left_comm, Nat.mul_comm 2])
        have hm := Nat.mod_pow_succ (b := 2) (k := k) (x := b)
        have ht := tb_div b k
        rw [← ht] at hm
        cases hxb : b.testBit k
        case true =>
          rw [hxb] at zb_ hm
          have HE1 := Aside0.mk (show a * (b % 2 ^ k) + a * 2 ^ k = a * (b % 2 ^ (k + 1)) by rw [hm, ← Nat.mul_add]; simp)
          clear hxb hm ht
          go_wp2_with (first | ((with_reducible refine gate_dst (N := 17) rfl ?_); refine num_load ?hg (N := 17) ?hd (.tmp 5) ?ho HO.out 3 (g := gN) (m := (a * (b % 2 ^ k))) (s := false) ?hi ?hx ?_; (case hd => rfl); (case hg => rfl); (case ho => rfl); (case hi => rfl); (case hx => rfl)) | ((with_reducible refine gate_dst (N := 18) rfl ?_); refine num_load ?hg (N := 18) ?hd (.tmp 6) ?ho HO.out 4 (g := gX) (m := (a * 2 ^ k)) (s := true) ?hi ?hx ?_; (case hd => rfl); (case hg => rfl); (case ho => rfl); (case hi => rfl); (case hx => rfl)) | (go_at_call 66; (with_reducible refine (num_more _ _ _ _ _).mono ?_); rintro e_ w7 ⟨rfl, hb_⟩; have n0_ : Aside0 (Own w w7 [(gA, a, true), (gB, b, false), (gR, 0, false), (gN, (a * (b % 2 ^ k)), false), (gX, (a * 2 ^ k), true)]) := ⟨HO.out.call hb_⟩; clear zb_ HO hb_; have HO := n0_; clear n0_) | ((with_reducible refine gate_store (t := 84) (p := 5) (v := .tmp 19) rfl ?_); refine num_store ?hg (.tmp 5) (.tmp 19) ?ho HO.out 3 (g := gN) (m := (a * (b % 2 ^ k))) (s := false) (m' := (a * (b % 2 ^ k) + a * 2 ^ k)) (s' := false) ?hi ?hx ?hy ?_; (case hg => rfl); (case ho => rfl); (case hi => rfl); (case hx => rfl); (case hy => rfl); intro w8 hO_; have n0_ : Aside0 (Own w w8 [(gA, a, true), (gB, b, false), (gR, 0, false), (gN, (a * (b % 2 ^ k) + a * 2 ^ k), false), (gX, (a * 2 ^ k), true)]) := ⟨hO_⟩; clear HO hO_; have HO := n0_; clear n0_) | ((with_reducible refine gate_dst (N := 20) rfl ?_); refine num_load ?hg (N := 20) ?hd (.tmp 6) ?ho HO.out 4 (g := gX) (m := (a * 2 ^ k)) (s := true) ?hi ?hx ?_; (case hd => rfl); (case hg => rfl); (case ho => rfl); (case hi => rfl); (case hx => rfl)) | (go_at_call 64; (with_reducible refine (num_twice _ _ _).mono ?_); rintro e_ w9 ⟨rfl, hb_⟩; have n0_ : Aside0 (Own w w9 [(gA, a, true), (gB, b, false), (gR, 0, false), (gN, (a * (b % 2 ^ k) + a * 2 ^ k), false), (gX, (a * 2 ^ k), true)]) := ⟨HO.out.call hb_⟩; clear HO hb_; have HO := n0_; clear n0_) | ((with_reducible refine gate_store (t := 84) (p := 6) (v := .tmp 21) rfl ?_); refine num_store ?hg (.tmp 6) (.tmp 21) ?ho HO.out 4 (g := gX) (m := (a * 2 ^ k)) (s := true) (m' := (2 * (a * 2 ^ k))) (s' := true) ?hi ?hx ?hy ?_; (case hg => rfl); (case ho => rfl); (case hi => rfl); (case hx => rfl); (case hy => rfl); intro w10 hO_; have n0_ : Aside0 (Own w w10 [(gA, a, true), (gB, b, false), (gR, 0, false), (gN, (a * (b % 2 ^ k) + a * 2 ^ k), false), (gX, (2 * (a * 2 ^ k)), true)]) := ⟨hO_⟩; clear HO hO_; have HO := n0_; clear n0_))
          go_roundg (gk - 1)
          case measure => have := HK.out; omega
          case rel => exact ⟨k + 1, by go_num, ⟨by have := HK.out; omega⟩, ⟨by have h := HO.out; rw [HE1.out, HE2.out] at h; exact h⟩⟩
        case false =>
          rw [hxb] at zb_ hm
          have HE1 := Aside0.mk (show a * (b % 2 ^ k) = a * (b % 2 ^ (k + 1)) by rw [hm]; simp)
          clear hxb hm ht
          go_wp2_with (first | ((with_reducible refine gate_dst (N := 20) rfl ?_); refine num_load ?hg (N := 20) ?hd (.tmp 6) ?ho HO.out 4 (g := gX) (m := (a * 2 ^ k)) (s := true) ?hi ?hx ?_; (case hd => rfl); (case hg => rfl); (case ho => rfl); (case hi => rfl); (case hx => rfl)) | (go_at_call 64; (with_reducible refine (num_twice _ _ _).mono ?_); rintro e_ w9 ⟨rfl, hb_⟩; have n0_ : Aside0 (Own w w9 [(gA, a, true), (gB, b, false), (gR, 0, false), (gN, (a * (b % 2 ^ k)), false), (gX, (a * 2 ^ k), true)]) := ⟨HO.out.call hb_⟩; clear HO hb_; have HO := n0_; clear n0_) | ((with_reducible refine gate_store (t := 84) (p := 6) (v := .tmp 21) rfl ?_); refine num_store ?hg (.tmp 6) (.tmp 21) ?ho HO.out 4 (g := gX) (m := (a * 2 ^ k)) (s := true) (m' := (2 * (a * 2 ^ k))) (s' := true) ?hi ?hx ?hy ?_; (case hg => rfl); (case ho => rfl); (case hi => rfl); (case hx => rfl); (case hy => rfl); intro w10 hO_; have n0_ : Aside0 (Own w w10 [(gA, a, true), (gB, b, false), (gR, 0, false), (gN, (a * (b % 2 ^ k)), false), (gX, (2 * (a * 2 ^ k)), true)]) := ⟨hO_⟩; clear HO hO_; have HO := n0_; clear n0_))
          go_roundg (gk - 1)
          case measure => have := HK.out; omega
          case rel => exact ⟨k + 1, by go_num, ⟨by have := HK.out; omega⟩, ⟨by have h := HO.out; rw [HE1.out, HE2.out] at h; exact h⟩⟩
      · have hd : decide ((k : Int) < 64) = false := decide_eq_false (by omega)
        have hk64 : k = 64 := by have := HK.out; omega
        have HE := Aside0.mk (show a * (b % 2 ^ k) = a * b by rw [hk64, Nat.mod_eq_of_lt HB64.out])
        clear hk64
        obtain ⟨X, hX⟩ : ∃ X, a * 2 ^ k = X := ⟨_, rfl⟩
        have n0_ : Aside0 (Own w wr [(gA, a, true), (gB, b, false), (gR, 0, false), (gN, P, false), (gX, X, true)]) := ⟨by have h := HO.out; rw [HE.out, hX, HP.out] at h; exact h⟩
        clear HO; have HO := n0_; clear n0_
        clear hX HE
        have z0_ := HO.out.neg 0 rfl
        have z1_ := HO.out.neg 1 rfl
        have zn_ := HO.out.neg 3 rfl
        have zf_ := HO.out.free 3 136 rfl
        go_upto_region 10 with (first | ((with_reducible refine gate_dst (N := 28) rfl ?_); (refine gate_guard (by rfl) ?_; dsimp only); refine num_load ?hg (N := 28) ?hd (.tmp 5) ?ho HO.out 3 (g := gN) (m := P) (s := false) ?hi ?hx ?_; (case hd => rfl); (case hg => rfl); (case ho => rfl); (case hi => rfl); (case hx => rfl)) | (go_at_call 63; (with_reducible refine (HN.out _).mono ?_); rintro e_ w11 ⟨rfl, hb_⟩; clear z0_ z1_ zn_ zf_; have n0_ : Aside0 (Own w w11 [(gA, a, true), (gB, b, false), (gR, 0, false), (gN, P, false), (gX, X, true)]) := ⟨HO.out.call hb_⟩; clear HO hb_; have HO := n0_; clear n0_; have z0_ := HO.out.neg 0 rfl; have z1_ := HO.out.neg 1 rfl; have zn_ := HO.out.neg 3 rfl; have zf_ := HO.out.free 3 136 rfl))
        refine num_abs (w0 := w) (l := [(gA, a, true), (gB, b, false), (gR, 0, false), (gN, P, (!z)), (gX, X, true)]) (HO.out.sign 3 rfl _) ?_
        intro w12 hO_
        clear HO
        have HO := Aside0.mk hO_
        clear hO_
        clear z0_ z1_ zn_ zf_
        go_wp2_with (first | ((with_reducible refine gate_dst (N := 33) rfl ?_); refine num_load ?hg (N := 33) ?hd (.tmp 5) ?ho HO.out 3 (g := gN) (m := P) (s := (!z)) ?hi ?hx ?_; (case hd => rfl); (case hg => rfl); (case ho => rfl); (case hi => rfl); (case hx => rfl)) | ((with_reducible refine gate_store (t := 84) (p := 4) (v := .tmp 33) rfl ?_); refine num_store ?hg (.tmp 4) (.tmp 33) ?ho HO.out 2 (g := gR) (m := 0) (s := false) (m' := P) (s' := (!z)) ?hi ?hx ?hy ?_; (case hg => rfl); (case ho => rfl); (case hi => rfl); (case hx => rfl); (case hy => rfl); intro w13 hO_; have n0_ : Aside0 (Own w w13 [(gA, a, true), (gB, b, false), (gR, P, (!z)), (gN, P, (!z)), (gX, X, true)]) := ⟨hO_⟩; clear HO hO_; have HO := n0_; clear n0_))
        exact bodyPost_ret (num_result rfl HO.out 2 rfl _ rfl) rfl ⟨by first | rfl | simp, HO.out.below⟩
  case true.true =>
    go_enter Try.func55, Try.ntmps55
    go_wp2_with (first | ((with_reducible refine gate_dst (N := 2) rfl ?_); refine num_new ?hg (N := 2) ?hd (cs := numC a true) HO.out a true ?hc ?hr ?_; (case hc => first | rfl | exact zcNum); (case hd => rfl); (case hg => rfl); (case hr => first | (go_simp; done) | (go_simp; rfl)); intro gA w1 hO_; have n0_ : Aside0 (Own w w1 [(gA, a, true)]) := ⟨hO_⟩; clear HO hO_; have HO := n0_; clear n0_) | ((with_reducible refine gate_dst (N := 3) rfl ?_); refine num_new ?hg (N := 3) ?hd (cs := numC b true) HO.out b true ?hc ?hr ?_; (case hc => first | rfl | exact zcNum); (case hd => rfl); (case hg => rfl); (case hr => first | (go_simp; done) | (go_simp; rfl)); intro gB w2 hO_; have n0_ : Aside0 (Own w w2 [(gA, a, true), (gB, b, true)]) := ⟨hO_⟩; clear HO hO_; have HO := n0_; clear n0_) | ((with_reducible refine gate_dst (N := 4) rfl ?_); refine num_new ?hg (N := 4) ?hd (cs := Try.zeroCells84) HO.out 0 false ?hc ?hr ?_; (case hc => first | rfl | exact zcNum); (case hd => rfl); (case hg => rfl); (case hr => first | (go_simp; done) | (go_simp; rfl)); intro gR w3 hO_; have n0_ : Aside0 (Own w w3 [(gA, a, true), (gB, b, true), (gR, 0, false)]) := ⟨hO_⟩; clear HO hO_; have HO := n0_; clear n0_) | ((with_reducible refine gate_dst (N := 5) rfl ?_); refine num_new ?hg (N := 5) ?hd (cs := Try.zeroCells84) HO.out 0 false ?hc ?hr ?_; (case hc => first | rfl | exact zcNum); (case hd => rfl); (case hg => rfl); (case hr => first | (go_simp; done) | (go_simp; rfl)); intro gN w4 hO_; have n0_ : Aside0 (Own w w4 [(gA, a, true), (gB, b, true), (gR, 0, false), (gN, 0, false)]) := ⟨hO_⟩; clear HO hO_; have HO := n0_; clear n0_) | ((with_reducible refine gate_dst (N := 8) rfl ?_); refine num_load ?hg (N := 8) ?hd (.tmp 2) ?ho HO.out 0 (g := gA) (m := a) (s := true) ?hi ?hx ?_; (case hd => rfl); (case hg => rfl); (case ho => rfl); (case hi => rfl); (case hx => rfl)) | ((with_reducible refine gate_dst (N := 6) rfl ?_); refine num_new ?hg (N := 6) ?hd (cs := Try.zeroCells84) HO.out 0 false ?hc ?hr ?_; (case hc => first | rfl | exact zcNum); (case hd => rfl); (case hg => rfl); (case hr => first | (go_simp; done) | (go_simp; rfl)); intro gX w5 hO_; have n0_ : Aside0 (Own w w5 [(gA, a, true), (gB, b, true), (gR, 0, false), (gN, 0, false), (gX, 0, false)]) := ⟨hO_⟩; clear HO hO_; have HO := n0_; clear n0_) | ((with_reducible refine gate_store (t := 84) (p := 6) (v := .tmp 8) rfl ?_); refine num_store ?hg (.tmp 6) (.tmp 8) ?ho HO.out 4 (g := gX) (m := 0) (s := false) (m' := a) (s' := true) ?hi ?hx ?hy ?_; (case hg => rfl); (case ho => rfl); (case hi => rfl); (case hx => rfl); (case hy => rfl); intro w6 hO_; have n0_ : Aside0 (Own w w6 [(gA, a, true), (gB, b, true), (gR, 0, false), (gN, 0, false), (gX, a, true)]) := ⟨hO_⟩; clear HO hO_; have HO := n0_; clear n0_))
    go_loopg [7] 64 (fun kq v7 wr => ∃ k : Nat, v7 = .int .i64 k ∧ Aside0 (k + kq = 64) ∧ Aside0 (Own w wr [(gA, a, true), (gB, b, true), (gR, 0, false), (gN, (a * (b % 2 ^ k)), false), (gX, (a * 2 ^ k), true)]))
    case atStart => exact ⟨0, rfl, ⟨rfl⟩, ⟨by have h := HO.out; simp only [Nat.pow_zero, Nat.mod_one, Nat.mul_zero, Nat.mul_one]; exact h⟩⟩
    case round =>
      clear HO
      obtain ⟨k, rfl, HK, HO⟩ := hrel
      by_cases hk : k < 64
      · have hd : decide ((k : Int) < 64) = true := decide_eq_true (by omega)
        have zb_ := HO.out.cell 1 k rfl (by omega)
        have HE2 := Aside0.mk (show 2 * (a * 2 ^ k) = a * 2 ^ (k + 1) by rw [Nat.pow_succ, Nat.mul_left_comm, Nat.mul_comm 2])
        have hm := Nat.mod_pow_succ (b := 2) (k := k) (x := b)
        have ht := tb_div b k
        rw [← ht] at hm
        cases hxb : b.testBit k
        case true =>
          rw [hxb] at zb_ hm
          have HE1 := Aside0.mk (show a * (b % 2 ^ k) + a * 2 ^ k = a * (b % 2 ^ (k + 1)) by rw [hm, ← Nat.mul_add]; simp)
          clear hxb hm ht
          go_wp2_with (first | ((with_reducible refine gate_dst (N := 17) rfl ?_); refine num_load ?hg (N := 17) ?hd (.tmp 5) ?ho HO.out 3 (g := gN) (m := (a * (b % 2 ^ k))) (s := false) ?hi ?hx ?_; (case hd => rfl); (case hg => rfl); (case ho => rfl); (case hi => rfl); (case hx => rfl)) | ((with_reducible refine gate_dst (N := 18) rfl ?_); refine num_load ?hg (N := 18) ?hd (.tmp 6) ?ho HO.out 4 (g := gX) (m := (a * 2 ^ k)) (s := true) ?hi ?hx ?_; (case hd => rfl); (case hg => rfl); (case ho => rfl); (case hi => rfl); (case hx => rfl)) | (go_at_call 66; (with_reducible refine (num_more _ _ _ _ _).mono ?_); rintro e_ w7 ⟨rfl, hb_⟩; have n0_ : Aside0 (Own w w7 [(gA, a, true), (gB, b, true), (gR, 0, false), (gN, (a * (b % 2 ^ k)), false), (gX, (a * 2 ^ k), true)]) := ⟨HO.out.call hb_⟩; clear zb_ HO hb_; have HO := n0_; clear n0_) | ((with_reducible refine gate_store (t := 84) (p := 5) (v := .tmp 19) rfl ?_); refine num_store ?hg (.tmp 5) (.tmp 19) ?ho HO.out 3 (g := gN) (m := (a * (b % 2 ^ k))) (s := false) (m' := (a * (b % 2 ^ k) + a * 2 ^ k)) (s' := false) ?hi ?hx ?hy ?_; (case hg => rfl); (case ho => rfl); (case hi => rfl); (case hx => rfl); (case hy => rfl); intro w8 hO_; have n0_ : Aside0 (Own w w8 [(gA, a, true), (gB, b, true), (gR, 0, false), (gN, (a * (b % 2 ^ k) + a * 2 ^ k), false), (gX, (a * 2 ^ k), true)]) := ⟨hO_⟩; clear HO hO_; have HO := n0_; clear n0_) | ((with_reducible refine gate_dst (N := 20) rfl ?_); refine num_load ?hg (N := 20) ?hd (.tmp 6) ?ho HO.out 4 (g := gX) (m := (a * 2 ^ k)) (s := true) ?hi ?hx ?_; (case hd => rfl); (case hg => rfl); (case ho => rfl); (case hi => rfl); (case hx => rfl)) | (go_at_call 64; (with_reducible refine (num_twice _ _ _).mono ?_); rintro e_ w9 ⟨rfl, hb_⟩; have n0_ : Aside0 (Own w w9 [(gA, a, true), (gB, b, true), (gR, 0, false), (gN, (a * (b % 2 ^ k) + a * 2 ^ k), false), (gX, (a * 2 ^ k), true)]) := ⟨HO.out.call hb_⟩; clear HO hb_; have HO := n0_; clear n0_) | ((with_reducible refine gate_store (t := 84) (p := 6) (v := .tmp 21) rfl ?_); refine num_store ?hg (.tmp 6) (.tmp 21) ?ho HO.out 4 (g := gX) (m := (a * 2 ^ k)) (s := true) (m' := (2 * (a * 2 ^ k))) (s' := true) ?hi ?hx ?hy ?_; (case hg => rfl); (case ho => rfl); (case hi => rfl); (case hx => rfl); (case hy => rfl); intro w10 hO_; have n0_ : Aside0 (Own w w10 [(gA, a, true), (gB, b, true), (gR, 0, false), (gN, (a * (b % 2 ^ k) + a * 2 ^ k), false), (gX, (2 * (a * 2 ^ k)), true)]) := ⟨hO_⟩; clear HO hO_; have HO := n0_; clear n0_))
          go_roundg (gk - 1)
          case measure => have := HK.out; omega
          case rel => exact ⟨k + 1, by go_num, ⟨by have := HK.out; omega⟩, ⟨by have h := HO.out; rw [HE1.out, HE2.out] at h; exact h⟩⟩
        case false =>
          rw [hxb] at zb_ hm
          have HE1 := Aside0.mk (show a * (b % 2 ^ k) = a * (b % 2 ^ (k + 1)) by rw [hm]; simp)
          clear hxb hm ht
          go_wp2_with (first | ((with_reducible refine gate_dst (N := 20) rfl ?_); refine num_load ?hg (N := 20) ?hd (.tmp 6) ?ho HO.out 4 (g := gX) (m := (a * 2 ^ k)) (s := true) ?hi ?hx ?_; (case hd => rfl); (case hg => rfl); (case ho => rfl); (case hi => rfl); (case hx => rfl)) | (go_at_call 64; (with_reducible refine (num_twice _ _ _).mono ?_); rintro e_ w9 ⟨rfl, hb_⟩; have n0_ : Aside0 (Own w w9 [(gA, a, true), (gB, b, true), (gR, 0, false), (gN, (a * (b % 2 ^ k)), false), (gX, (a * 2 ^ k), true)]) := ⟨HO.out.call hb_⟩; clear HO hb_; have HO := n0_; clear n0_) | ((with_reducible refine gate_store (t := 84) (p := 6) (v := .tmp 21) rfl ?_); refine num_store ?hg (.tmp 6) (.tmp 21) ?ho HO.out 4 (g := gX) (m := (a * 2 ^ k)) (s := true) (m' := (2 * (a * 2 ^ k))) (s' := true) ?hi ?hx ?hy ?_; (case hg => rfl); (case ho => rfl); (case hi => rfl); (case hx => rfl); (case hy => rfl); intro w10 hO_; have n0_ : Aside0 (Own w w10 [(gA, a, true), (gB, b, true), (gR, 0, false), (gN, (a * (b % 2 ^ k)), false), (gX, (2 * (a * 2 ^ k)), true)]) := ⟨hO_⟩; clear HO hO_; have HO := n0_; clear n0_))
          go_roundg (gk - 1)
          case measure => have := HK.out; omega
          case rel => exact ⟨k + 1, by go_num, ⟨by have := HK.out; omega⟩, ⟨by have h := HO.out; rw [HE1.out, HE2.out] at h; exact h⟩⟩
      · have hd : decide ((k : Int) < 64) = false := decide_eq_false (by omega)
        have hk64 : k = 64 := by have := HK.out; omega
        have HE := Aside0.mk (show a * (b % 2 ^ k) = a * b by rw [hk64, Nat.mod_eq_of_lt HB64.out])
        clear hk64
        obtain ⟨X, hX⟩ : ∃ X, a * 2 ^ k = X := ⟨_, rfl⟩
        have n0_ : Aside0 (Own w wr [(gA, a, true), (gB, b, true), (gR, 0, false), (gN, P, false), (gX, X, true)]) := ⟨by have h := HO.out; rw [HE.out, hX, HP.out] at h; exact h⟩
        clear HO; have HO := n0_; clear n0_
        clear hX HE
        have z0_ := HO.out.neg 0 rfl
        have z1_ := HO.out.neg 1 rfl
        have zn_ := HO.out.neg 3 rfl
        have zf_ := HO.out.free 3 136 rfl
        go_upto_region 10 with (first | ((with_reducible refine gate_dst (N := 28) rfl ?_); (refine gate_guard (by rfl) ?_; dsimp only); refine num_load ?hg (N := 28) ?hd (.tmp 5) ?ho HO.out 3 (g := gN) (m := P) (s := false) ?hi ?hx ?_; (case hd => rfl); (case hg => rfl); (case ho => rfl); (case hi => rfl); (case hx => rfl)) | (go_at_call 63; (with_reducible refine (HN.out _).mono ?_); rintro e_ w11 ⟨rfl, hb_⟩; clear z0_ z1_ zn_ zf_; have n0_ : Aside0 (Own w w11 [(gA, a, true), (gB, b, true), (gR, 0, false), (gN, P, false), (gX, X, true)]) := ⟨HO.out.call hb_⟩; clear HO hb_; have HO := n0_; clear n0_; have z0_ := HO.out.neg 0 rfl; have z1_ := HO.out.neg 1 rfl; have zn_ := HO.out.neg 3 rfl; have zf_ := HO.out.free 3 136 rfl))
        refine num_abs (w0 := w) (l := [(gA, a, true), (gB, b, true), (gR, 0, false), (gN, P, false), (gX, X, true)]) (HO.out.sign 3 rfl _) ?_
        intro w12 hO_
        clear HO
        have HO := Aside0.mk hO_
        clear hO_
        clear z0_ z1_ zn_ zf_
        go_wp2_with (first | ((with_reducible refine gate_dst (N := 33) rfl ?_); refine num_load ?hg (N := 33) ?hd (.tmp 5) ?ho HO.out 3 (g := gN) (m := P) (s := false) ?hi ?hx ?_; (case hd => rfl); (case hg => rfl); (case ho => rfl); (case hi => rfl); (case hx => rfl)) | ((with_reducible refine gate_store (t := 84) (p := 4) (v := .tmp 33) rfl ?_); refine num_store ?hg (.tmp 4) (.tmp 33) ?ho HO.out 2 (g := gR) (m := 0) (s := false) (m' := P) (s' := false) ?hi ?hx ?hy ?_; (case hg => rfl); (case ho => rfl); (case hi => rfl); (case hx => rfl); (case hy => rfl); intro w13 hO_; have n0_ : Aside0 (Own w w13 [(gA, a, true), (gB, b, true), (gR, P, false), (gN, P, false), (gX, X, true)]) := ⟨hO_⟩; clear HO hO_; have HO := n0_; clear n0_))
        exact bodyPost_ret (num_result rfl HO.out 2 rfl _ rfl) rfl ⟨by first | rfl | simp, HO.out.below⟩

/-! ### jobberref01_Of: function 56 (by hand; for other hand texts alone) -/
theorem of_step {y V k : Nat} (x : Nat) (h : Upto V x k) (hy : y = x / 2 ^ k) : Upto (setb V k (decide (y % 2 = 1))) x (k + 1) := h.step (by rw [hy, Nat.testBit_eq_decide_div_mod_eq])
theorem abs_rng {x : Int} (h0 : -9223372036854775808 ≤ x) (h1 : x ≤ 9223372036854775807) : x.natAbs < 2 ^ 64 := by omega
theorem abs_bits {x k : Nat} (hx : x < 2 ^ 64) (h : 64 ≤ k) : x.testBit k = false := Nat.testBit_lt_two_pow (Nat.lt_of_lt_of_le hx (Nat.pow_le_pow_right (by decide) h))
set_option maxHeartbeats 8000000 in
set_option maxRecDepth 100000 in
theorem num_of (x : Int) (h0 : -9223372036854775808 ≤ x) (h1 : x ≤ 9223372036854775807) (w : World) :
    Calls Try.prog 56 #[.int .i64 x] w fun e w' => e = .returned (.agg (numC x.natAbs (decide (x < 0)))) ∧ Below w.heap.size w w' := by
  have HO : Aside0 (Own w w []) := ⟨Own.start w⟩
  have HX := Aside0.mk (abs_rng h0 h1)
  obtain ⟨u, hu⟩ : ∃ u : Nat, x.natAbs = u := ⟨_, rfl⟩
  have hs : (x < 0 ∧ IntKind.u64.wrap (IntKind.u64.wrap (18446744073709551615 - IntKind.u64.wrap x) + 1) = (u : Int)) ∨ (¬ x < 0 ∧ IntKind.u64.wrap x = (u : Int)) := by
    have e : ∀ z : Int, IntKind.u64.wrap z = z % 18446744073709551616 := fun _ => rfl
    by_cases c : x < 0
    · refine .inl ⟨c, ?_⟩
      rw [e, e, e]
      omega
    · exact .inr ⟨c, by rw [e]; omega⟩
  rw [hu] at HX ⊢
  clear h0 h1 hu
  rcases hs with ⟨c, hv⟩ | ⟨c, hv⟩
  · have d : decide (x < 0) = true := decide_eq_true c
    rw [d]
    have HV := Aside0.mk hv
    clear c hv
    go_enter Try.func56, Try.ntmps56
    go_upto_region 3 with (first | ((with_reducible refine gate_dst (N := 2) rfl ?_); refine num_new ?hg (N := 2) ?hd (cs := Try.zeroCells84) HO.out 0 false ?hc ?hr ?_; (case hc => first | rfl | exact zcNum); (case hd => rfl); (case hg => rfl); (case hr => first | (go_simp; done) | (go_simp; rfl)); intro gR w1 hO_; have n0_ : Aside0 (Own w w1 [(gR, 0, false)]) := ⟨hO_⟩; clear HO hO_; have HO := n0_; clear n0_) | ((with_reducible refine gate_dst (N := 3) rfl ?_); refine num_new ?hg (N := 3) ?hd (cs := Try.zeroCells84) HO.out 0 false ?hc ?hr ?_; (case hc => first | rfl | exact zcNum); (case hd => rfl); (case hg => rfl); (case hr => first | (go_simp; done) | (go_simp; rfl)); intro gN w2 hO_; have n0_ : Aside0 (Own w w2 [(gR, 0, false), (gN, 0, false)]) := ⟨hO_⟩; clear HO hO_; have HO := n0_; clear n0_; have z_ := HO.out.neg 1 rfl; have zf_ := HO.out.free 1 136 rfl))
    refine num_abs (w0 := w) (l := [(gR, 0, false), (gN, 0, true)]) (HO.out.sign 1 rfl _) ?_
    intro w3 hO_
    clear HO
    have HO := Aside0.mk hO_
    clear hO_
    clear z_ zf_
    have z_ := HO.out.neg 1 rfl
    go_wp2
    go_loopg [4, 5] 64 (fun kq v4 v5 wr => ∃ (k y V : Nat), v5 = .int .i64 k ∧ v4 = .int .u64 y ∧ Aside0 (k + kq = 64) ∧ Aside0 (y = u / 2 ^ k) ∧ Aside0 (Upto V u k) ∧ Aside0 (Own w wr [(gR, 0, false), (gN, V, true)]))
    case atStart => exact ⟨0, u, 0, rfl, by congr 1; exact HV.out, ⟨rfl⟩, ⟨by simp⟩, ⟨Upto.zero _⟩, HO⟩
    case round =>
      clear HO z_
      obtain ⟨k, y, V, rfl, rfl, HK, HY, HVV, HO⟩ := hrel
      have HYB : Aside0 (y < 2 ^ 64) := ⟨by rw [HY.out]; exact Nat.lt_of_le_of_lt (Nat.div_le_self _ _) HX.out⟩
      by_cases hk : k < 64
      · have hd : decide ((k : Int) < 64) = true := decide_eq_true (by omega)
        have hk2 : k < 136 := by omega
        have zc_ := HO.out.cell 1 k rfl hk2
        have zf_ := HO.out.free 1 k rfl
        have HK2 := Aside0.mk hk2
        have hw2 := Aside0.mk (show IntKind.u64.wrap ((y : Int) / 2) = ((y / 2 : Nat) : Int) by
          have e : IntKind.u64.wrap ((y : Int) / 2) = ((y : Int) / 2) % 18446744073709551616 := rfl
          have := HYB.out
          omega)
        have hy2 := Aside0.mk (show y / 2 = u / 2 ^ (k + 1) by rw [HY.out, Nat.pow_succ, Nat.div_div_eq_div_mul])
        have HST := Aside0.mk (of_step u HVV.out HY.out)
        clear hk2
        cases hb : decide (y % 2 = 1)
        all_goals
          have hq : ((y : Int) % 2 == 1) = decide (y % 2 = 1) := by rw [Bool.eq_iff_iff]; simp; omega
          rw [hb] at hq HST
          clear hb
          go_wp2
          go_roundg (gk - 1)
          case measure => have := HK.out; omega
          case rel => exact ⟨k + 1, y / 2, _, by go_num, by first | rfl | (rw [hw2.out]), ⟨by have := HK.out; omega⟩, hy2, HST, ⟨HO.out.bit 1 k rfl HK2.out _⟩⟩
      · have hd : decide ((k : Int) < 64) = false := decide_eq_false (by omega)
        have HEQ : Aside0 (numC V true = numC u true) := ⟨numC_congr fun j hj => by
          rw [HVV.out j hj]
          by_cases c : j < k
          · rw [if_pos c]
          · rw [if_neg c, abs_bits HX.out (by omega)]⟩
        go_wp2_with (first | ((with_reducible refine gate_dst (N := 28) rfl ?_); refine num_load ?hg (N := 28) ?hd (.tmp 3) ?ho HO.out 1 (g := gN) (m := V) (s := true) ?hi ?hx ?_; (case hd => rfl); (case hg => rfl); (case ho => rfl); (case hi => rfl); (case hx => rfl)) | ((with_reducible refine gate_store (t := 84) (p := 2) (v := .tmp 28) rfl ?_); refine num_store ?hg (.tmp 2) (.tmp 28) ?ho HO.out 0 (g := gR) (m := 0) (s := false) (m' := V) (s' := true) ?hi ?hx ?hy ?_; (case hg => rfl); (case ho => rfl); (case hi => rfl); (case hx => rfl); (case hy => rfl); intro w9 hO_; have n0_ : Aside0 (Own w w9 [(gR, V, true), (gN, V, true)]) := ⟨hO_⟩; clear HO hO_; have HO := n0_; clear n0_))
        exact bodyPost_ret (num_result rfl HO.out 0 rfl _ rfl) rfl ⟨by rw [HEQ.out], HO.out.below⟩
  · have d : decide (x < 0) = false := decide_eq_false c
    rw [d]
    have HV := Aside0.mk hv
    clear c hv
    go_enter Try.func56, Try.ntmps56
    go_upto_region 3 with (first | ((with_reducible refine gate_dst (N := 2) rfl ?_); refine num_new ?hg (N := 2) ?hd (cs := Try.zeroCells84) HO.out 0 false ?hc ?hr ?_; (case hc => first | rfl | exact zcNum); (case hd => rfl); (case hg => rfl); (case hr => first | (go_simp; done) | (go_simp; rfl)); intro gR w1 hO_; have n0_ : Aside0 (Own w w1 [(gR, 0, false)]) := ⟨hO_⟩; clear HO hO_; have HO := n0_; clear n0_) | ((with_reducible refine gate_dst (N := 3) rfl ?_); refine num_new ?hg (N := 3) ?hd (cs := Try.zeroCells84) HO.out 0 false ?hc ?hr ?_; (case hc => first | rfl | exact zcNum); (case hd => rfl); (case hg => rfl); (case hr => first | (go_simp; done) | (go_simp; rfl)); intro gN w2 hO_; have n0_ : Aside0 (Own w w2 [(gR, 0, false), (gN, 0, false)]) := ⟨hO_⟩; clear HO hO_; have HO := n0_; clear n0_; have z_ := HO.out.neg 1 rfl; have zf_ := HO.out.free 1 136 rfl))
    refine num_abs (w0 := w) (l := [(gR, 0, false), (gN, 0, false)]) (HO.out.sign 1 rfl _) ?_
    intro w3 hO_
    clear HO
    have HO := Aside0.mk hO_
    clear hO_
    clear z_ zf_
    have z_ := HO.out.neg 1 rfl
    go_wp2
    go_loopg [4, 5] 64 (fun kq v4 v5 wr => ∃ (k y V : Nat), v5 = .int .i64 k ∧ v4 = .int .u64 y ∧ Aside0 (k + kq = 64) ∧ Aside0 (y = u / 2 ^ k) ∧ Aside0 (Upto V u k) ∧ Aside0 (Own w wr [(gR, 0, false), (gN, V, false)]))
    case atStart => exact ⟨0, u, 0, rfl, by congr 1; exact HV.out, ⟨rfl⟩, ⟨by simp⟩, ⟨Upto.zero _⟩, HO⟩
    case round =>
      clear HO z_
      obtain ⟨k, y, V, rfl, rfl, HK, HY, HVV, HO⟩ := hrel
      have HYB : Aside0 (y < 2 ^ 64) := ⟨by rw [HY.out]; exact Nat.lt_of_le_of_lt (Nat.div_le_self _ _) HX.out⟩
      by_cases hk : k < 64
      · have hd : decide ((k : Int) < 64) = true := decide_eq_true (by omega)
        have hk2 : k < 136 := by omega
        have zc_ := HO.out.cell 1 k rfl hk2
        have zf_ := HO.out.free 1 k rfl
        have HK2 := Aside0.mk hk2
        have hw2 := Aside0.mk (show IntKind.u64.wrap ((y : Int) / 2) = ((y / 2 : Nat) : Int) by
          have e : IntKind.u64.wrap ((y : Int) / 2) = ((y : Int) / 2) % 18446744073709551616 := rfl
          have := HYB.out
          omega)
        have hy2 := Aside0.mk (show y / 2 = u / 2 ^ (k + 1) by rw [HY.out, Nat.pow_succ, Nat.div_div_eq_div_mul])
        have HST := Aside0.mk (of_step u HVV.out HY.out)
        clear hk2
        cases hb : decide (y % 2 = 1)
        all_goals
          have hq : ((y : Int) % 2 == 1) = decide (y % 2 = 1) := by rw [Bool.eq_iff_iff]; simp; omega
          rw [hb] at hq HST
          clear hb
          go_wp2
          go_roundg (gk - 1)
          case measure => have := HK.out; omega
          case rel => exact ⟨k + 1, y / 2, _, by go_num, by first | rfl | (rw [hw2.out]), ⟨by have := HK.out; omega⟩, hy2, HST, ⟨HO.out.bit 1 k rfl HK2.out _⟩⟩
      · have hd : decide ((k : Int) < 64) = false := decide_eq_false (by omega)
        have HEQ : Aside0 (numC V false = numC u false) := ⟨numC_congr fun j hj => by
          rw [HVV.out j hj]
          by_cases c : j < k
          · rw [if_pos c]
          · rw [if_neg c, abs_bits HX.out (by omega)]⟩
        go_wp2_with (first | ((with_reducible refine gate_dst (N := 28) rfl ?_); refine num_load ?hg (N := 28) ?hd (.tmp 3) ?ho HO.out 1 (g := gN) (m := V) (s := false) ?hi ?hx ?_; (case hd => rfl); (case hg => rfl); (case ho => rfl); (case hi => rfl); (case hx => rfl)) | ((with_reducible refine gate_store (t := 84) (p := 2) (v := .tmp 28) rfl ?_); refine num_store ?hg (.tmp 2) (.tmp 28) ?ho HO.out 0 (g := gR) (m := 0) (s := false) (m' := V) (s' := false) ?hi ?hx ?hy ?_; (case hg => rfl); (case ho => rfl); (case hi => rfl); (case hx => rfl); (case hy => rfl); intro w9 hO_; have n0_ : Aside0 (Own w w9 [(gR, V, false), (gN, V, false)]) := ⟨hO_⟩; clear HO hO_; have HO := n0_; clear n0_))
        exact bodyPost_ret (num_result rfl HO.out 0 rfl _ rfl) rfl ⟨by rw [HEQ.out], HO.out.below⟩

/-! ### jobberref01_below: function 65 (by hand; for other hand texts alone) -/
theorem below_hit {a b k : Nat} (h : a / 2 ^ (k + 1) = b / 2 ^ (k + 1)) (hn : a.testBit k ≠ b.testBit k) : decide (a < b) = b.testBit k := by
  rw [Nat.testBit_eq_decide_div_mod_eq, Nat.testBit_eq_decide_div_mod_eq] at hn
  rw [Nat.testBit_eq_decide_div_mod_eq]
  rw [Nat.pow_succ, ← Nat.div_div_eq_div_mul, ← Nat.div_div_eq_div_mul] at h
  have c1 := Nat.mod_two_eq_zero_or_one (a / 2 ^ k)
  have c2 := Nat.mod_two_eq_zero_or_one (b / 2 ^ k)
  have e1 := Nat.div_add_mod (a / 2 ^ k) 2
  have e2 := Nat.div_add_mod (b / 2 ^ k) 2
  rcases c1 with c1 | c1 <;> rcases c2 with c2 | c2
  · simp [c1, c2] at hn
  · rw [c2]
    have hl : a / 2 ^ k < b / 2 ^ k := by omega
    have : a < b := by
      rcases Nat.lt_or_ge a b with h1 | h1
      · exact h1
      · have := Nat.div_le_div_right (c := 2 ^ k) h1; omega
    simp [this]
  · rw [c2]
    have hl : b / 2 ^ k < a / 2 ^ k := by omega
    have : ¬ a < b := by
      intro h1
      have := Nat.div_le_div_right (c := 2 ^ k) (Nat.le_of_lt h1); omega
    simp [this]
  · simp [c1, c2] at hn
theorem below_go {a b k : Nat} (h : a / 2 ^ (k + 1) = b / 2 ^ (k + 1)) (hn : a.testBit k = b.testBit k) : a / 2 ^ k = b / 2 ^ k := by
  rw [Nat.testBit_eq_decide_div_mod_eq, Nat.testBit_eq_decide_div_mod_eq] at hn
  rw [Nat.pow_succ, ← Nat.div_div_eq_div_mul, ← Nat.div_div_eq_div_mul] at h
  have c1 := Nat.mod_two_eq_zero_or_one (a / 2 ^ k)
  have c2 := Nat.mod_two_eq_zero_or_one (b / 2 ^ k)
  rcases c1 with c1 | c1 <;> rcases c2 with c2 | c2 <;> simp [c1, c2] at hn <;> omega
set_option maxHeartbeats 8000000 in
set_option maxRecDepth 100000 in
theorem num_below (a b : Nat) (ga gb : Bool) (ha : a < 2 ^ 136) (hb : b < 2 ^ 136) (w : World) :
    Calls Try.prog 65 #[.agg (numC a ga), .agg (numC b gb)] w fun e w' => e = .returned (.bool (decide (a < b))) ∧ Below w.heap.size w w' := by
  have HO : Aside0 (Own w w []) := ⟨Own.start w⟩
  have HAB := Aside0.mk (show a / 2 ^ 136 = b / 2 ^ 136 by rw [Nat.div_eq_of_lt ha, Nat.div_eq_of_lt hb])
  clear ha hb
  go_enter Try.func65, Try.ntmps65
  go_wp2_with (first | ((with_reducible refine gate_dst (N := 2) rfl ?_); refine num_new ?hg (N := 2) ?hd (cs := numC a ga) HO.out a ga ?hc ?hr ?_; (case hc => first | rfl | exact zcNum); (case hd => rfl); (case hg => rfl); (case hr => first | (go_simp; done) | (go_simp; rfl)); intro gA w1 hO_; have n0_ : Aside0 (Own w w1 [(gA, a, ga)]) := ⟨hO_⟩; clear HO hO_; have HO := n0_; clear n0_) | ((with_reducible refine gate_dst (N := 3) rfl ?_); refine num_new ?hg (N := 3) ?hd (cs := numC b gb) HO.out b gb ?hc ?hr ?_; (case hc => first | rfl | exact zcNum); (case hd => rfl); (case hg => rfl); (case hr => first | (go_simp; done) | (go_simp; rfl)); intro gB w2 hO_; have n0_ : Aside0 (Own w w2 [(gA, a, ga), (gB, b, gb)]) := ⟨hO_⟩; clear HO hO_; have HO := n0_; clear n0_))
  go_loopg [5] 136 (fun kq v5 wr => ∃ i : Int, v5 = .int .i64 i ∧ Aside0 (i + 1 = kq) ∧ Aside0 (kq ≤ 136) ∧ Aside0 (a / 2 ^ kq = b / 2 ^ kq) ∧ Aside0 (Own w wr [(gA, a, ga), (gB, b, gb)]))
  case atStart => exact ⟨135, rfl, ⟨rfl⟩, ⟨Nat.le_refl _⟩, HAB, HO⟩
  case round =>
    clear HO HAB
    obtain ⟨i, rfl, HI, HK, HAB, HO⟩ := hrel
    cases gk with
    | zero =>
      obtain rfl : i = -1 := by have := HI.out; omega
      have HE : Aside0 (decide (a < b) = false) := ⟨decide_eq_false (by have := HAB.out; simp at this; omega)⟩
      go_wp2
      go_ret
      exact ⟨by rw [HE.out]; rfl, HO.out.below⟩
    | succ k =>
      obtain rfl : i = (k : Int) := by have := HI.out; omega
      have hd : decide ((0 : Int) ≤ (k : Int)) = true := decide_eq_true (by omega)
      have hd2 : (0 : Int) ≤ (k : Int) := by omega
      have hd3 : (k : Int) < 136 := by have := HK.out; omega
      have zA := HO.out.cell 0 k rfl (by omega)
      have zB := HO.out.cell 1 k rfl (by omega)
      have HH := Aside0.mk (below_hit HAB.out)
      have HG := Aside0.mk (below_go HAB.out)
      cases hxa : a.testBit k <;> cases hxb : b.testBit k <;> rw [hxa] at zA HH HG <;> rw [hxb] at zB HH HG
      all_goals clear hxa hxb
      case false.false | true.true =>
        have HGG := Aside0.mk (HG.out rfl)
        clear HG HH
        go_wp2
        go_quiet (fail)
        go_wp2
        go_roundg k
        case measure => omega
        case rel => exact ⟨(k : Int) - 1, by first | rfl | go_num, ⟨by omega⟩, ⟨by have := HK.out; omega⟩, HGG, ⟨HO.out.call (pw_below_drewN (Below.refl _ _) _)⟩⟩
      case false.true | true.false =>
        have HGG := Aside0.mk (HH.out (by decide))
        clear HG HH
        go_wp2
        go_quiet (fail)
        go_wp2
        go_ret
        exact ⟨by rw [HGG.out]; rfl, (HO.out.call (pw_below_drewN (Below.refl _ _) _)).below⟩

/-! ### jobberref01_less: function 69 (by hand; for other hand texts alone) -/
set_option maxHeartbeats 8000000 in
set_option maxRecDepth 100000 in
theorem num_less (a b : Nat) (ga gb : Bool) (hab : b ≤ a) (w : World) :
    Calls Try.prog 69 #[.agg (numC a ga), .agg (numC b gb)] w fun e w' => e = .returned (.agg (numC (a - b) false)) ∧ Below w.heap.size w w' := by
  have HO : Aside0 (Own w w []) := ⟨Own.start w⟩
  have HAB := Aside0.mk hab
  clear hab
  go_enter Try.func69, Try.ntmps69
  go_wp2_with (first | ((with_reducible refine gate_dst (N := 2) rfl ?_); refine num_new ?hg (N := 2) ?hd (cs := numC a ga) HO.out a ga ?hc ?hr ?_; (case hc => first | rfl | exact zcNum); (case hd => rfl); (case hg => rfl); (case hr => first | (go_simp; done) | (go_simp; rfl)); intro gA w1 hO_; have n0_ : Aside0 (Own w w1 [(gA, a, ga)]) := ⟨hO_⟩; clear HO hO_; have HO := n0_; clear n0_) | ((with_reducible refine gate_dst (N := 3) rfl ?_); refine num_new ?hg (N := 3) ?hd (cs := numC b gb) HO.out b gb ?hc ?hr ?_; (case hc => first | rfl | exact zcNum); (case hd => rfl); (case hg => rfl); (case hr => first | (go_simp; done) | (go_simp; rfl)); intro gB w2 hO_; have n0_ : Aside0 (Own w w2 [(gA, a, ga), (gB, b, gb)]) := ⟨hO_⟩; clear HO hO_; have HO := n0_; clear n0_) | ((with_reducible refine gate_dst (N := 4) rfl ?_); refine num_new ?hg (N := 4) ?hd (cs := Try.zeroCells84) HO.out 0 false ?hc ?hr ?_; (case hc => first | rfl | exact zcNum); (case hd => rfl); (case hg => rfl); (case hr => first | (go_simp; done) | (go_simp; rfl)); intro gR w3 hO_; have n0_ : Aside0 (Own w w3 [(gA, a, ga), (gB, b, gb), (gR, 0, false)]) := ⟨hO_⟩; clear HO hO_; have HO := n0_; clear n0_) | ((with_reducible refine gate_dst (N := 5) rfl ?_); refine num_new ?hg (N := 5) ?hd (cs := Try.zeroCells84) HO.out 0 false ?hc ?hr ?_; (case hc => first | rfl | exact zcNum); (case hd => rfl); (case hg => rfl); (case hr => first | (go_simp; done) | (go_simp; rfl)); intro gN w4 hO_; have n0_ : Aside0 (Own w w4 [(gA, a, ga), (gB, b, gb), (gR, 0, false), (gN, 0, false)]) := ⟨hO_⟩; clear HO hO_; have HO := n0_; clear n0_))
  go_loopg [6, 7] 136 (fun kq v6 v7 wr => ∃ (k : Nat) (z : Int) (c : Bool) (V : Nat), v7 = .int .i64 k ∧ v6 = .int .i64 z ∧ Aside0 (z = 0 ∧ c = false ∨ z = 1 ∧ c = true) ∧ Aside0 (k + kq = 136) ∧ Aside0 (c = bor a b k) ∧ Aside0 (Upto V (a - b) k) ∧ Aside0 (Own w wr [(gA, a, ga), (gB, b, gb), (gR, 0, false), (gN, V, false)]))
  case atStart => exact ⟨0, 0, false, 0, rfl, rfl, ⟨.inl ⟨rfl, rfl⟩⟩, ⟨rfl⟩, ⟨by simp [bor, Nat.mod_one]⟩, ⟨Upto.zero _⟩, HO⟩
  case round =>
    clear HO
    obtain ⟨k, z, c, V, rfl, rfl, HZ, HK, HC, HV, HO⟩ := hrel
    by_cases hk : k < 136
    · have hd : decide ((k : Int) < 136) = true := decide_eq_true (by omega)
      have hca := HO.out.cell 0 k rfl hk
      have hcb := HO.out.cell 1 k rfl hk
      have hcn := HO.out.cell 3 k rfl hk
      have hfn := HO.out.free 3 k rfl
      have HKK := Aside0.mk hk
      have hs := sub_tb HAB.out k
      have hc := bor_tb a b k
      rw [← HC.out] at hs hc
      rcases HZ.out with ⟨rfl, rfl⟩ | ⟨rfl, rfl⟩ <;> cases hxa : a.testBit k <;> cases hxb : b.testBit k <;> rw [hxa] at hca hs hc <;> rw [hxb] at hcb hs hc
      all_goals
        simp at hs hc
        have HS := Aside0.mk hs
        have HC' := Aside0.mk hc
        clear hs hc hxa hxb HZ
        go_wp2
        go_roundg (gk - 1)
        case measure => have := HK.out; omega
        case rel => exact ⟨k + 1, _, _, _, by go_num, rfl, ⟨by first | exact .inl ⟨rfl, rfl⟩ | exact .inr ⟨rfl, rfl⟩⟩, ⟨by have := HK.out; omega⟩, ⟨HC'.out.symm⟩, ⟨HV.out.step HS.out⟩, ⟨HO.out.bit 3 k rfl HKK.out _⟩⟩
    · have hd : decide ((k : Int) < 136) = false := decide_eq_false (by omega)
      have HEQ := Aside0.mk (HV.out.done (g := false) (by omega))
      go_wp2_with (first | ((with_reducible refine gate_dst (N := 35) rfl ?_); refine num_load ?hg (N := 35) ?hd (.tmp 5) ?ho HO.out 3 (g := gN) (m := V) (s := false) ?hi ?hx ?_; (case hd => rfl); (case hg => rfl); (case ho => rfl); (case hi => rfl); (case hx => rfl)) | ((with_reducible refine gate_store (t := 84) (p := 4) (v := .tmp 35) rfl ?_); refine num_store ?hg (.tmp 4) (.tmp 35) ?ho HO.out 2 (g := gR) (m := 0) (s := false) (m' := V) (s' := false) ?hi ?hx ?hy ?_; (case hg => rfl); (case ho => rfl); (case hi => rfl); (case hx => rfl); (case hy => rfl); intro w9 hO_; have n0_ : Aside0 (Own w w9 [(gA, a, ga), (gB, b, gb), (gR, V, false), (gN, V, false)]) := ⟨hO_⟩; clear HO hO_; have HO := n0_; clear n0_))
      exact bodyPost_ret (num_result rfl HO.out 2 rfl _ rfl) rfl ⟨by rw [HEQ.out], HO.out.below⟩

/-! ### jobberref01_Plus: function 54 (by hand; for other hand texts alone) -/
def sv (m : Nat) (s : Bool) : Int := if s then -(m : Int) else m
/-- what is known of a sum -/
def PlusR (a b : Nat) (ga gb : Bool) (m : Nat) (s : Bool) : Prop := sv m s = sv a ga + sv b gb ∧ m ≤ a + b ∧ (s = true → m ≠ 0)
theorem nz_of {m : Nat} (h : (!decide (m = 0)) = true) : m ≠ 0 := by simpa using h
theorem sv_nz (m : Nat) : sv m (!decide (m = 0)) = -(m : Int) := by
  unfold sv
  by_cases h : m = 0 <;> simp [h]
set_option maxHeartbeats 8000000 in
set_option maxRecDepth 100000 in
theorem num_plus (a b : Nat) (ga gb : Bool) (ha : a < 2 ^ 135) (hb : b < 2 ^ 135) (w : World) :
    Calls Try.prog 54 #[.agg (numC a ga), .agg (numC b gb)] w fun e w' => ∃ m s, e = .returned (.agg (numC m s)) ∧ PlusR a b ga gb m s ∧ Below w.heap.size w w' := by
  have HO : Aside0 (Own w w []) := ⟨Own.start w⟩
  have hp : (2 : Nat) ^ 136 = 2 ^ 135 + 2 ^ 135 := by decide
  have HBL := Aside0.mk (fun w => num_below a b ga gb (by omega) (by omega) w)
  have HPW := Aside0.mk hp
  have HA := Aside0.mk ha
  have HBB := Aside0.mk hb
  clear ha hb hp
  cases ga <;> cases gb
  case false.false =>
    clear HBL
    have HM : Aside0 (a + b < 2 ^ 136) := ⟨by have := HPW.out; have := HA.out; have := HBB.out; omega⟩
    have HR : Aside0 (PlusR a b false false (a + b) false) := ⟨by unfold PlusR; exact ⟨by unfold sv; simp, by omega, fun h => by cases h⟩⟩
    have HN := Aside0.mk (fun w => num_nought (a + b) false HM.out w)
    obtain ⟨z, hz⟩ : ∃ z, decide ((a + b) = 0) = z := ⟨_, rfl⟩
    rw [hz] at HN
    clear hz
    go_enter Try.func54, Try.ntmps54
    go_upto_region 10 with (first | ((with_reducible refine gate_dst (N := 2) rfl ?_); refine num_new ?hg (N := 2) ?hd (cs := numC a false) HO.out a false ?hc ?hr ?_; (case hc => first | rfl | exact zcNum); (case hd => rfl); (case hg => rfl); (case hr => first | (go_simp; done) | (go_simp; rfl)); intro gA w1 hO_; have n0_ : Aside0 (Own w w1 [(gA, a, false)]) := ⟨hO_⟩; clear HO hO_; have HO := n0_; clear n0_) | ((with_reducible refine gate_dst (N := 3) rfl ?_); refine num_new ?hg (N := 3) ?hd (cs := numC b false) HO.out b false ?hc ?hr ?_; (case hc => first | rfl | exact zcNum); (case hd => rfl); (case hg => rfl); (case hr => first | (go_simp; done) | (go_simp; rfl)); intro gB w2 hO_; have n0_ : Aside0 (Own w w2 [(gA, a, false), (gB, b, false)]) := ⟨hO_⟩; clear HO hO_; have HO := n0_; clear n0_) | ((with_reducible refine gate_dst (N := 4) rfl ?_); refine num_new ?hg (N := 4) ?hd (cs := Try.zeroCells84) HO.out 0 false ?hc ?hr ?_; (case hc => first | rfl | exact zcNum); (case hd => rfl); (case hg => rfl); (case hr => first | (go_simp; done) | (go_simp; rfl)); intro gR w3 hO_; have n0_ : Aside0 (Own w w3 [(gA, a, false), (gB, b, false), (gR, 0, false)]) := ⟨hO_⟩; clear HO hO_; have HO := n0_; clear n0_) | ((with_reducible refine gate_dst (N := 5) rfl ?_); refine num_new ?hg (N := 5) ?hd (cs := Try.zeroCells84) HO.out 0 false ?hc ?hr ?_; (case hc => first | rfl | exact zcNum); (case hd => rfl); (case hg => rfl); (case hr => first | (go_simp; done) | (go_simp; rfl)); intro gN w4 hO_; have n0_ : Aside0 (Own w w4 [(gA, a, false), (gB, b, false), (gR, 0, false), (gN, 0, false)]) := ⟨hO_⟩; clear HO hO_; have HO := n0_; clear n0_; have z0_ := HO.out.neg 0 rfl; have z1_ := HO.out.neg 1 rfl; have zf_ := HO.out.free 3 136 rfl) | ((with_reducible refine gate_dst (N := 11) rfl ?_); refine num_load ?hg (N := 11) ?hd (.tmp 2) ?ho HO.out 0 (g := gA) (m := a) (s := false) ?hi ?hx ?_; (case hd => rfl); (case hg => rfl); (case ho => rfl); (case hi => rfl); (case hx => rfl)) | ((with_reducible refine gate_dst (N := 12) rfl ?_); refine num_load ?hg (N := 12) ?hd (.tmp 3) ?ho HO.out 1 (g := gB) (m := b) (s := false) ?hi ?hx ?_; (case hd => rfl); (case hg => rfl); (case ho => rfl); (case hi => rfl); (case hx => rfl)) | (go_at_call 66; (with_reducible refine (num_more _ _ _ _ _).mono ?_); rintro e_ w6 ⟨rfl, hb_⟩; clear z0_ z1_ zf_; have n0_ : Aside0 (Own w w6 [(gA, a, false), (gB, b, false), (gR, 0, false), (gN, 0, false)]) := ⟨HO.out.call hb_⟩; clear HO hb_; have HO := n0_; clear n0_) | ((with_reducible refine gate_store (t := 84) (p := 5) (v := .tmp 13) rfl ?_); refine num_store ?hg (.tmp 5) (.tmp 13) ?ho HO.out 3 (g := gN) (m := 0) (s := false) (m' := (a + b)) (s' := false) ?hi ?hx ?hy ?_; (case hg => rfl); (case ho => rfl); (case hi => rfl); (case hx => rfl); (case hy => rfl); intro w7 hO_; have n0_ : Aside0 (Own w w7 [(gA, a, false), (gB, b, false), (gR, 0, false), (gN, (a + b), false)]) := ⟨hO_⟩; clear HO hO_; have HO := n0_; clear n0_; have z0_ := HO.out.neg 0 rfl; have z1_ := HO.out.neg 1 rfl; have zn_ := HO.out.neg 3 rfl; have zf_ := HO.out.free 3 136 rfl))
    refine num_abs (w0 := w) (l := [(gA, a, false), (gB, b, false), (gR, 0, false), (gN, (a + b), false)]) (HO.out.sign 3 rfl _) ?_
    intro w8 hO_
    clear HO
    have HO := Aside0.mk hO_
    clear hO_
    clear z0_ z1_ zn_ zf_
    have zn_ := HO.out.neg 3 rfl
    have zf_ := HO.out.free 3 136 rfl
    go_upto_region 11 with (first | ((with_reducible refine gate_dst (N := 35) rfl ?_); (refine gate_guard (by rfl) ?_; dsimp only); refine num_load ?hg (N := 35) ?hd (.tmp 5) ?ho HO.out 3 (g := gN) (m := (a + b)) (s := false) ?hi ?hx ?_; (case hd => rfl); (case hg => rfl); (case ho => rfl); (case hi => rfl); (case hx => rfl)) | (go_at_call 63; (with_reducible refine (HN.out _).mono ?_); rintro e_ w9 ⟨rfl, hb_⟩; clear zn_ zf_; have n0_ : Aside0 (Own w w9 [(gA, a, false), (gB, b, false), (gR, 0, false), (gN, (a + b), false)]) := ⟨HO.out.call hb_⟩; clear HO hb_; have HO := n0_; clear n0_; have zn_ := HO.out.neg 3 rfl; have zf_ := HO.out.free 3 136 rfl))
    refine num_abs (w0 := w) (l := [(gA, a, false), (gB, b, false), (gR, 0, false), (gN, (a + b), false)]) (HO.out.sign 3 rfl _) ?_
    intro w10 hO_
    clear HO
    have HO := Aside0.mk hO_
    clear hO_
    clear zn_ zf_
    go_wp2_with (first | ((with_reducible refine gate_dst (N := 40) rfl ?_); refine num_load ?hg (N := 40) ?hd (.tmp 5) ?ho HO.out 3 (g := gN) (m := (a + b)) (s := false) ?hi ?hx ?_; (case hd => rfl); (case hg => rfl); (case ho => rfl); (case hi => rfl); (case hx => rfl)) | ((with_reducible refine gate_store (t := 84) (p := 4) (v := .tmp 40) rfl ?_); refine num_store ?hg (.tmp 4) (.tmp 40) ?ho HO.out 2 (g := gR) (m := 0) (s := false) (m' := (a + b)) (s' := false) ?hi ?hx ?hy ?_; (case hg => rfl); (case ho => rfl); (case hi => rfl); (case hx => rfl); (case hy => rfl); intro w11 hO_; have n0_ : Aside0 (Own w w11 [(gA, a, false), (gB, b, false), (gR, (a + b), false), (gN, (a + b), false)]) := ⟨hO_⟩; clear HO hO_; have HO := n0_; clear n0_))
    exact bodyPost_ret (num_result rfl HO.out 2 rfl _ rfl) rfl ⟨(a + b), false, rfl, HR.out, HO.out.below⟩
  case false.true =>
    by_cases hlt : a < b
    · rw [decide_eq_true hlt] at HBL
      have HL := Aside0.mk hlt
      have HM : Aside0 (b - a < 2 ^ 136) := ⟨by have := HPW.out; have := HA.out; have := HBB.out; omega⟩
      have HR : Aside0 (PlusR a b false true (b - a) (!decide (b - a = 0))) := ⟨by unfold PlusR; exact ⟨by rw [sv_nz]; unfold sv; simp; omega, by omega, nz_of⟩⟩
      clear hlt
      have HN := Aside0.mk (fun w => num_nought (b - a) true HM.out w)
      obtain ⟨z, hz⟩ : ∃ z, decide ((b - a) = 0) = z := ⟨_, rfl⟩
      rw [hz] at HN
      rw [hz] at HR
      clear hz
      go_enter Try.func54, Try.ntmps54
      go_upto_region 10 with (first | ((with_reducible refine gate_dst (N := 2) rfl ?_); refine num_new ?hg (N := 2) ?hd (cs := numC a false) HO.out a false ?hc ?hr ?_; (case hc => first | rfl | exact zcNum); (case hd => rfl); (case hg => rfl); (case hr => first | (go_simp; done) | (go_simp; rfl)); intro gA w1 hO_; have n0_ : Aside0 (Own w w1 [(gA, a, false)]) := ⟨hO_⟩; clear HO hO_; have HO := n0_; clear n0_) | ((with_reducible refine gate_dst (N := 3) rfl ?_); refine num_new ?hg (N := 3) ?hd (cs := numC b true) HO.out b true ?hc ?hr ?_; (case hc => first | rfl | exact zcNum); (case hd => rfl); (case hg => rfl); (case hr => first | (go_simp; done) | (go_simp; rfl)); intro gB w2 hO_; have n0_ : Aside0 (Own w w2 [(gA, a, false), (gB, b, true)]) := ⟨hO_⟩; clear HO hO_; have HO := n0_; clear n0_) | ((with_reducible refine gate_dst (N := 4) rfl ?_); refine num_new ?hg (N := 4) ?hd (cs := Try.zeroCells84) HO.out 0 false ?hc ?hr ?_; (case hc => first | rfl | exact zcNum); (case hd => rfl); (case hg => rfl); (case hr => first | (go_simp; done) | (go_simp; rfl)); intro gR w3 hO_; have n0_ : Aside0 (Own w w3 [(gA, a, false), (gB, b, true), (gR, 0, false)]) := ⟨hO_⟩; clear HO hO_; have HO := n0_; clear n0_) | ((with_reducible refine gate_dst (N := 5) rfl ?_); refine num_new ?hg (N := 5) ?hd (cs := Try.zeroCells84) HO.out 0 false ?hc ?hr ?_; (case hc => first | rfl | exact zcNum); (case hd => rfl); (case hg => rfl); (case hr => first | (go_simp; done) | (go_simp; rfl)); intro gN w4 hO_; have n0_ : Aside0 (Own w w4 [(gA, a, false), (gB, b, true), (gR, 0, false), (gN, 0, false)]) := ⟨hO_⟩; clear HO hO_; have HO := n0_; clear n0_; have z0_ := HO.out.neg 0 rfl; have z1_ := HO.out.neg 1 rfl; have zf_ := HO.out.free 3 136 rfl) | ((with_reducible refine gate_dst (N := 17) rfl ?_); refine num_load ?hg (N := 17) ?hd (.tmp 2) ?ho HO.out 0 (g := gA) (m := a) (s := false) ?hi ?hx ?_; (case hd => rfl); (case hg => rfl); (case ho => rfl); (case hi => rfl); (case hx => rfl)) | ((with_reducible refine gate_dst (N := 18) rfl ?_); refine num_load ?hg (N := 18) ?hd (.tmp 3) ?ho HO.out 1 (g := gB) (m := b) (s := true) ?hi ?hx ?_; (case hd => rfl); (case hg => rfl); (case ho => rfl); (case hi => rfl); (case hx => rfl)) | (go_at_call 65; (with_reducible refine (HBL.out _).mono ?_); rintro e_ w5 ⟨rfl, hb_⟩; clear z0_ z1_ zf_; have n0_ : Aside0 (Own w w5 [(gA, a, false), (gB, b, true), (gR, 0, false), (gN, 0, false)]) := ⟨HO.out.call hb_⟩; clear HO hb_; have HO := n0_; clear n0_; have z0_ := HO.out.neg 0 rfl; have z1_ := HO.out.neg 1 rfl; have zf_ := HO.out.free 3 136 rfl) | ((with_reducible refine gate_dst (N := 20) rfl ?_); refine num_load ?hg (N := 20) ?hd (.tmp 3) ?ho HO.out 1 (g := gB) (m := b) (s := true) ?hi ?hx ?_; (case hd => rfl); (case hg => rfl); (case ho => rfl); (case hi => rfl); (case hx => rfl)) | ((with_reducible refine gate_dst (N := 21) rfl ?_); refine num_load ?hg (N := 21) ?hd (.tmp 2) ?ho HO.out 0 (g := gA) (m := a) (s := false) ?hi ?hx ?_; (case hd => rfl); (case hg => rfl); (case ho => rfl); (case hi => rfl); (case hx => rfl)) | (go_at_call 69; (with_reducible refine (num_less _ _ _ _ (Nat.le_of_lt HL.out) _).mono ?_); rintro e_ w6 ⟨rfl, hb_⟩; clear z0_ z1_ zf_; have n0_ : Aside0 (Own w w6 [(gA, a, false), (gB, b, true), (gR, 0, false), (gN, 0, false)]) := ⟨HO.out.call hb_⟩; clear HO hb_; have HO := n0_; clear n0_) | ((with_reducible refine gate_store (t := 84) (p := 5) (v := .tmp 22) rfl ?_); refine num_store ?hg (.tmp 5) (.tmp 22) ?ho HO.out 3 (g := gN) (m := 0) (s := false) (m' := (b - a)) (s' := false) ?hi ?hx ?hy ?_; (case hg => rfl); (case ho => rfl); (case hi => rfl); (case hx => rfl); (case hy => rfl); intro w7 hO_; have n0_ : Aside0 (Own w w7 [(gA, a, false), (gB, b, true), (gR, 0, false), (gN, (b - a), false)]) := ⟨hO_⟩; clear HO hO_; have HO := n0_; clear n0_; have z0_ := HO.out.neg 0 rfl; have z1_ := HO.out.neg 1 rfl; have zn_ := HO.out.neg 3 rfl; have zf_ := HO.out.free 3 136 rfl))
      refine num_abs (w0 := w) (l := [(gA, a, false), (gB, b, true), (gR, 0, false), (gN, (b - a), true)]) (HO.out.sign 3 rfl _) ?_
      intro w8 hO_
      clear HO
      have HO := Aside0.mk hO_
      clear hO_
      clear z0_ z1_ zn_ zf_
      have zn_ := HO.out.neg 3 rfl
      have zf_ := HO.out.free 3 136 rfl
      go_upto_region 11 with (first | ((with_reducible refine gate_dst (N := 35) rfl ?_); (refine gate_guard (by rfl) ?_; dsimp only); refine num_load ?hg (N := 35) ?hd (.tmp 5) ?ho HO.out 3 (g := gN) (m := (b - a)) (s := true) ?hi ?hx ?_; (case hd => rfl); (case hg => rfl); (case ho => rfl); (case hi => rfl); (case hx => rfl)) | (go_at_call 63; (with_reducible refine (HN.out _).mono ?_); rintro e_ w9 ⟨rfl, hb_⟩; clear zn_ zf_; have n0_ : Aside0 (Own w w9 [(gA, a, false), (gB, b, true), (gR, 0, false), (gN, (b - a), true)]) := ⟨HO.out.call hb_⟩; clear HO hb_; have HO := n0_; clear n0_; have zn_ := HO.out.neg 3 rfl; have zf_ := HO.out.free 3 136 rfl))
      refine num_abs (w0 := w) (l := [(gA, a, false), (gB, b, true), (gR, 0, false), (gN, (b - a), (!z))]) (HO.out.sign 3 rfl _) ?_
      intro w10 hO_
      clear HO
      have HO := Aside0.mk hO_
      clear hO_
      clear zn_ zf_
      go_wp2_with (first | ((with_reducible refine gate_dst (N := 40) rfl ?_); refine num_load ?hg (N := 40) ?hd (.tmp 5) ?ho HO.out 3 (g := gN) (m := (b - a)) (s := (!z)) ?hi ?hx ?_; (case hd => rfl); (case hg => rfl); (case ho => rfl); (case hi => rfl); (case hx => rfl)) | ((with_reducible refine gate_store (t := 84) (p := 4) (v := .tmp 40) rfl ?_); refine num_store ?hg (.tmp 4) (.tmp 40) ?ho HO.out 2 (g := gR) (m := 0) (s := false) (m' := (b - a)) (s' := (!z)) ?hi ?hx ?hy ?_; (case hg => rfl); (case ho => rfl); (case hi => rfl); (case hx => rfl); (case hy => rfl); intro w11 hO_; have n0_ : Aside0 (Own w w11 [(gA, a, false), (gB, b, true), (gR, (b - a), (!z)), (gN, (b - a), (!z))]) := ⟨hO_⟩; clear HO hO_; have HO := n0_; clear n0_))
      exact bodyPost_ret (num_result rfl HO.out 2 rfl _ rfl) rfl ⟨(b - a), (!z), rfl, HR.out, HO.out.below⟩
    · rw [decide_eq_false hlt] at HBL
      have HL := Aside0.mk (Nat.le_of_not_lt hlt)
      have HM : Aside0 (a - b < 2 ^ 136) := ⟨by have := HPW.out; have := HA.out; have := HBB.out; omega⟩
      have HR : Aside0 (PlusR a b false true (a - b) false) := ⟨by unfold PlusR; exact ⟨by unfold sv; simp; omega, by omega, fun h => by cases h⟩⟩
      clear hlt
      have HN := Aside0.mk (fun w => num_nought (a - b) false HM.out w)
      obtain ⟨z, hz⟩ : ∃ z, decide ((a - b) = 0) = z := ⟨_, rfl⟩
      rw [hz] at HN
      clear hz
      go_enter Try.func54, Try.ntmps54
      go_upto_region 10 with (first | ((with_reducible refine gate_dst (N := 2) rfl ?_); refine num_new ?hg (N := 2) ?hd (cs := numC a false) HO.out a false ?hc ?hr ?_; (case hc => first | rfl | exact zcNum); (case hd => rfl); (case hg => rfl); (case hr => first | (go_simp; done) | (go_simp; rfl)); intro gA w1 hO_; have n0_ : Aside0 (Own w w1 [(gA, a, false)]) := ⟨hO_⟩; clear HO hO_; have HO := n0_; clear n0_) | ((with_reducible refine gate_dst (N := 3) rfl ?_); refine num_new ?hg (N := 3) ?hd (cs := numC b true) HO.out b true ?hc ?hr ?_; (case hc => first | rfl | exact zcNum); (case hd => rfl); (case hg => rfl); (case hr => first | (go_simp; done) | (go_simp; rfl)); intro gB w2 hO_; have n0_ : Aside0 (Own w w2 [(gA, a, false), (gB, b, true)]) := ⟨hO_⟩; clear HO hO_; have HO := n0_; clear n0_) | ((with_reducible refine gate_dst (N := 4) rfl ?_); refine num_new ?hg (N := 4) ?hd (cs := Try.zeroCells84) HO.out 0 false ?hc ?hr ?_; (case hc => first | rfl | exact zcNum); (case hd => rfl); (case hg => rfl); (case hr => first | (go_simp; done) | (go_simp; rfl)); intro gR w3 hO_; have n0_ : Aside0 (Own w w3 [(gA, a, false), (gB, b, true), (gR, 0, false)]) := ⟨hO_⟩; clear HO hO_; have HO := n0_; clear n0_) | ((with_reducible refine gate_dst (N := 5) rfl ?_); refine num_new ?hg (N := 5) ?hd (cs := Try.zeroCells84) HO.out 0 false ?hc ?hr ?_; (case hc => first | rfl | exact zcNum); (case hd => rfl); (case hg => rfl); (case hr => first | (go_simp; done) | (go_simp; rfl)); intro gN w4 hO_; have n0_ : Aside0 (Own w w4 [(gA, a, false), (gB, b, true), (gR, 0, false), (gN, 0, false)]) := ⟨hO_⟩; clear HO hO_; have HO := n0_; clear n0_; have z0_ := HO.out.neg 0 rfl; have z1_ := HO.out.neg 1 rfl; have zf_ := HO.out.free 3 136 rfl) | ((with_reducible refine gate_dst (N := 17) rfl ?_); refine num_load ?hg (N := 17) ?hd (.tmp 2) ?ho HO.out 0 (g := gA) (m := a) (s := false) ?hi ?hx ?_; (case hd => rfl); (case hg => rfl); (case ho => rfl); (case hi => rfl); (case hx => rfl)) | ((with_reducible refine gate_dst (N := 18) rfl ?_); refine num_load ?hg (N := 18) ?hd (.tmp 3) ?ho HO.out 1 (g := gB) (m := b) (s := true) ?hi ?hx ?_; (case hd => rfl); (case hg => rfl); (case ho => rfl); (case hi => rfl); (case hx => rfl)) | (go_at_call 65; (with_reducible refine (HBL.out _).mono ?_); rintro e_ w5 ⟨rfl, hb_⟩; clear z0_ z1_ zf_; have n0_ : Aside0 (Own w w5 [(gA, a, false), (gB, b, true), (gR, 0, false), (gN, 0, false)]) := ⟨HO.out.call hb_⟩; clear HO hb_; have HO := n0_; clear n0_; have z0_ := HO.out.neg 0 rfl; have z1_ := HO.out.neg 1 rfl; have zf_ := HO.out.free 3 136 rfl) | ((with_reducible refine gate_dst (N := 26) rfl ?_); refine num_load ?hg (N := 26) ?hd (.tmp 2) ?ho HO.out 0 (g := gA) (m := a) (s := false) ?hi ?hx ?_; (case hd => rfl); (case hg => rfl); (case ho => rfl); (case hi => rfl); (case hx => rfl)) | ((with_reducible refine gate_dst (N := 27) rfl ?_); refine num_load ?hg (N := 27) ?hd (.tmp 3) ?ho HO.out 1 (g := gB) (m := b) (s := true) ?hi ?hx ?_; (case hd => rfl); (case hg => rfl); (case ho => rfl); (case hi => rfl); (case hx => rfl)) | (go_at_call 69; (with_reducible refine (num_less _ _ _ _ HL.out _).mono ?_); rintro e_ w6 ⟨rfl, hb_⟩; clear z0_ z1_ zf_; have n0_ : Aside0 (Own w w6 [(gA, a, false), (gB, b, true), (gR, 0, false), (gN, 0, false)]) := ⟨HO.out.call hb_⟩; clear HO hb_; have HO := n0_; clear n0_) | ((with_reducible refine gate_store (t := 84) (p := 5) (v := .tmp 28) rfl ?_); refine num_store ?hg (.tmp 5) (.tmp 28) ?ho HO.out 3 (g := gN) (m := 0) (s := false) (m' := (a - b)) (s' := false) ?hi ?hx ?hy ?_; (case hg => rfl); (case ho => rfl); (case hi => rfl); (case hx => rfl); (case hy => rfl); intro w7 hO_; have n0_ : Aside0 (Own w w7 [(gA, a, false), (gB, b, true), (gR, 0, false), (gN, (a - b), false)]) := ⟨hO_⟩; clear HO hO_; have HO := n0_; clear n0_; have z0_ := HO.out.neg 0 rfl; have z1_ := HO.out.neg 1 rfl; have zn_ := HO.out.neg 3 rfl; have zf_ := HO.out.free 3 136 rfl))
      refine num_abs (w0 := w) (l := [(gA, a, false), (gB, b, true), (gR, 0, false), (gN, (a - b), false)]) (HO.out.sign 3 rfl _) ?_
      intro w8 hO_
      clear HO
      have HO := Aside0.mk hO_
      clear hO_
      clear z0_ z1_ zn_ zf_
      have zn_ := HO.out.neg 3 rfl
      have zf_ := HO.out.free 3 136 rfl
      go_upto_region 11 with (first | ((with_reducible refine gate_dst (N := 35) rfl ?_); (refine gate_guard (by rfl) ?_; dsimp only); refine num_load ?hg (N := 35) ?hd (.tmp 5) ?ho HO.out 3 (g := gN) (m := (a - b)) (s := false) ?hi ?hx ?_; (case hd => rfl); (case hg => rfl); (case ho => rfl); (case hi => rfl); (case hx => rfl)) | (go_at_call 63; (with_reducible refine (HN.out _).mono ?_); rintro e_ w9 ⟨rfl, hb_⟩; clear zn_ zf_; have n0_ : Aside0 (Own w w9 [(gA, a, false), (gB, b, true), (gR, 0, false), (gN, (a - b), false)]) := ⟨HO.out.call hb_⟩; clear HO hb_; have HO := n0_; clear n0_; have zn_ := HO.out.neg 3 rfl; have zf_ := HO.out.free 3 136 rfl))
      refine num_abs (w0 := w) (l := [(gA, a, false), (gB, b, true), (gR, 0, false), (gN, (a - b), false)]) (HO.out.sign 3 rfl _) ?_
      intro w10 hO_
      clear HO
      have HO := Aside0.mk hO_
      clear hO_
      clear zn_ zf_
      go_wp2_with (first | ((with_reducible refine gate_dst (N := 40) rfl ?_); refine num_load ?hg (N := 40) ?hd (.tmp 5) ?ho HO.out 3 (g := gN) (m := (a - b)) (s := false) ?hi ?hx ?_; (case hd => rfl); (case hg => rfl); (case ho => rfl); (case hi => rfl); (case hx => rfl)) | ((with_reducible refine gate_store (t := 84) (p := 4) (v := .tmp 40) rfl ?_); refine num_store ?hg (.tmp 4) (.tmp 40) ?ho HO.out 2 (g := gR) (m := 0) (s := false) (m' := (a - b)) (s' := false) ?hi ?hx ?hy ?_; (case hg => rfl); (case ho => rfl); (case hi => rfl); (case hx => rfl); (case hy => rfl); intro w11 hO_; have n0_ : Aside0 (Own w w11 [(gA, a, false), (gB, b, true), (gR, (a - b), false), (gN, (a - b), false)]) := ⟨hO_⟩; clear HO hO_; have HO := n0_; clear n0_))
      exact bodyPost_ret (num_result rfl HO.out 2 rfl _ rfl) rfl ⟨(a - b), false, rfl, HR.out, HO.out.below⟩
  case true.false =>
    by_cases hlt : a < b
    · rw [decide_eq_true hlt] at HBL
      have HL := Aside0.mk hlt
      have HM : Aside0 (b - a < 2 ^ 136) := ⟨by have := HPW.out; have := HA.out; have := HBB.out; omega⟩
      have HR : Aside0 (PlusR a b true false (b - a) false) := ⟨by unfold PlusR; exact ⟨by unfold sv; simp; omega, by omega, fun h => by cases h⟩⟩
      clear hlt
      have HN := Aside0.mk (fun w => num_nought (b - a) false HM.out w)
      obtain ⟨z, hz⟩ : ∃ z, decide ((b - a) = 0) = z := ⟨_, rfl⟩
      rw [hz] at HN
      clear hz
      go_enter Try.func54, Try.ntmps54
      go_upto_region 10 with (first | ((with_reducible refine gate_dst (N := 2) rfl ?_); refine num_new ?hg (N := 2) ?hd (cs := numC a true) HO.out a true ?hc ?hr ?_; (case hc => first | rfl | exact zcNum); (case hd => rfl); (case hg => rfl); (case hr => first | (go_simp; done) | (go_simp; rfl)); intro gA w1 hO_; have n0_ : Aside0 (Own w w1 [(gA, a, true)]) := ⟨hO_⟩; clear HO hO_; have HO := n0_; clear n0_) | ((with_reducible refine gate_dst (N := 3) rfl ?_); refine num_new ?hg (N := 3) ?hd (cs := numC b false) HO.out b false ?hc ?hr ?_; (case hc => first | rfl | exact zcNum); (case hd => rfl); (case hg => rfl); (case hr => first | (go_simp; done) | (go_simp; rfl)); intro gB w2 hO_; have n0_ : Aside0 (Own w w2 [(gA, a, true), (gB, b, false)]) := ⟨hO_⟩; clear HO hO_; have HO := n0_; clear n0_) | ((with_reducible refine gate_dst (N := 4) rfl ?_); refine num_new ?hg (N := 4) ?hd (cs := Try.zeroCells84) HO.out 0 false ?hc ?hr ?_; (case hc => first | rfl | exact zcNum); (case hd => rfl); (case hg => rfl); (case hr => first | (go_simp; done) | (go_simp; rfl)); intro gR w3 hO_; have n0_ : Aside0 (Own w w3 [(gA, a, true), (gB, b, false), (gR, 0, false)]) := ⟨hO_⟩; clear HO hO_; have HO := n0_; clear n0_) | ((with_reducible refine gate_dst (N := 5) rfl ?_); refine num_new ?hg (N := 5) ?hd (cs := Try.zeroCells84) HO.out 0 false ?hc ?hr ?_; (case hc => first | rfl | exact zcNum); (case hd => rfl); (case hg => rfl); (case hr => first | (go_simp; done) | (go_simp; rfl)); intro gN w4 hO_; have n0_ : Aside0 (Own w w4 [(gA, a, true), (gB, b, false), (gR, 0, false), (gN, 0, false)]) := ⟨hO_⟩; clear HO hO_; have HO := n0_; clear n0_; have z0_ := HO.out.neg 0 rfl; have z1_ := HO.out.neg 1 rfl; have zf_ := HO.out.free 3 136 rfl) | ((with_reducible refine gate_dst (N := 17) rfl ?_); refine num_load ?hg (N := 17) ?hd (.tmp 2) ?ho HO.out 0 (g := gA) (m := a) (s := true) ?hi ?hx ?_; (case hd => rfl); (case hg => rfl); (case ho => rfl); (case hi => rfl); (case hx => rfl)) | ((with_reducible refine gate_dst (N := 18) rfl ?_); refine num_load ?hg (N := 18) ?hd (.tmp 3) ?ho HO.out 1 (g := gB) (m := b) (s := false) ?hi ?hx ?_; (case hd => rfl); (case hg => rfl); (case ho => rfl); (case hi => rfl); (case hx => rfl)) | (go_at_call 65; (with_reducible refine (HBL.out _).mono ?_); rintro e_ w5 ⟨rfl, hb_⟩; clear z0_ z1_ zf_; have n0_ : Aside0 (Own w w5 [(gA, a, true), (gB, b, false), (gR, 0, false), (gN, 0, false)]) := ⟨HO.out.call hb_⟩; clear HO hb_; have HO := n0_; clear n0_; have z0_ := HO.out.neg 0 rfl; have z1_ := HO.out.neg 1 rfl; have zf_ := HO.out.free 3 136 rfl) | ((with_reducible refine gate_dst (N := 20) rfl ?_); refine num_load ?hg (N := 20) ?hd (.tmp 3) ?ho HO.out 1 (g := gB) (m := b) (s := false) ?hi ?hx ?_; (case hd => rfl); (case hg => rfl); (case ho => rfl); (case hi => rfl); (case hx => rfl)) | ((with_reducible refine gate_dst (N := 21) rfl ?_); refine num_load ?hg (N := 21) ?hd (.tmp 2) ?ho HO.out 0 (g := gA) (m := a) (s := true) ?hi ?hx ?_; (case hd => rfl); (case hg => rfl); (case ho => rfl); (case hi => rfl); (case hx => rfl)) | (go_at_call 69; (with_reducible refine (num_less _ _ _ _ (Nat.le_of_lt HL.out) _).mono ?_); rintro e_ w6 ⟨rfl, hb_⟩; clear z0_ z1_ zf_; have n0_ : Aside0 (Own w w6 [(gA, a, true), (gB, b, false), (gR, 0, false), (gN, 0, false)]) := ⟨HO.out.call hb_⟩; clear HO hb_; have HO := n0_; clear n0_) | ((with_reducible refine gate_store (t := 84) (p := 5) (v := .tmp 22) rfl ?_); refine num_store ?hg (.tmp 5) (.tmp 22) ?ho HO.out 3 (g := gN) (m := 0) (s := false) (m' := (b - a)) (s' := false) ?hi ?hx ?hy ?_; (case hg => rfl); (case ho => rfl); (case hi => rfl); (case hx => rfl); (case hy => rfl); intro w7 hO_; have n0_ : Aside0 (Own w w7 [(gA, a, true), (gB, b, false), (gR, 0, false), (gN, (b - a), false)]) := ⟨hO_⟩; clear HO hO_; have HO := n0_; clear n0_; have z0_ := HO.out.neg 0 rfl; have z1_ := HO.out.neg 1 rfl; have zn_ := HO.out.neg 3 rfl; have zf_ := HO.out.free 3 136 rfl))
      refine num_abs (w0 := w) (l := [(gA, a, true), (gB, b, false), (gR, 0, false), (gN, (b - a), false)]) (HO.out.sign 3 rfl _) ?_
      intro w8 hO_
      clear HO
      have HO := Aside0.mk hO_
      clear hO_
      clear z0_ z1_ zn_ zf_
      have zn_ := HO.out.neg 3 rfl
      have zf_ := HO.out.free 3 136 rfl
      go_upto_region 11 with (first | ((with_reducible refine gate_dst (N := 35) rfl ?_); (refine gate_guard (by rfl) ?_; dsimp only); refine num_load ?hg (N := 35) ?hd (.tmp 5) ?ho HO.out 3 (g := gN) (m := (b - a)) (s := false) ?hi ?hx ?_; (case hd => rfl); (case hg => rfl); (case ho => rfl); (case hi => rfl); (case hx => rfl)) | (go_at_call 63; (with_reducible refine (HN.out _).mono ?_); rintro e_ w9 ⟨rfl, hb_⟩; clear zn_ zf_; have n0_ : Aside0 (Own w w9 [(gA, a, true), (gB, b, false), (gR, 0, false), (gN, (b - a), false)]) := ⟨HO.out.call hb_⟩; clear HO hb_; have HO := n0_; clear n0_; have zn_ := HO.out.neg 3 rfl; have zf_ := HO.out.free 3 136 rfl))
      refine num_abs (w0 := w) (l := [(gA, a, true), (gB, b, false), (gR, 0, false), (gN, (b - a), false)]) (HO.out.sign 3 rfl _) ?_
      intro w10 hO_
      clear HO
      have HO := Aside0.mk hO_
      clear hO_
      clear zn_ zf_
      go_wp2_with (first | ((with_reducible refine gate_dst (N := 40) rfl ?_); refine num_load ?hg (N := 40) ?hd (.tmp 5) ?ho HO.out 3 (g := gN) (m := (b - a)) (s := false) ?hi ?hx ?_; (case hd => rfl); (case hg => rfl); (case ho => rfl); (case hi => rfl); (case hx => rfl)) | ((with_reducible refine gate_store (t := 84) (p := 4) (v := .tmp 40) rfl ?_); refine num_store ?hg (.tmp 4) (.tmp 40) ?ho HO.out 2 (g := gR) (m := 0) (s := false) (m' := (b - a)) (s' := false) ?hi ?hx ?hy ?_; (case hg => rfl); (case ho => rfl); (case hi => rfl); (case hx => rfl); (case hy => rfl); intro w11 hO_; have n0_ : Aside0 (Own w w11 [(gA, a, true), (gB, b, false), (gR, (b - a), false), (gN, (b - a), false)]) := ⟨hO_⟩; clear HO hO_; have HO := n0_; clear n0_))
      exact bodyPost_ret (num_result rfl HO.out 2 rfl _ rfl) rfl ⟨(b - a), false, rfl, HR.out, HO.out.below⟩
    · rw [decide_eq_false hlt] at HBL
      have HL := Aside0.mk (Nat.le_of_not_lt hlt)
      have HM : Aside0 (a - b < 2 ^ 136) := ⟨by have := HPW.out; have := HA.out; have := HBB.out; omega⟩
      have HR : Aside0 (PlusR a b true false (a - b) (!decide (a - b = 0))) := ⟨by unfold PlusR; exact ⟨by rw [sv_nz]; unfold sv; simp; omega, by omega, nz_of⟩⟩
      clear hlt
      have HN := Aside0.mk (fun w => num_nought (a - b) true HM.out w)
      obtain ⟨z, hz⟩ : ∃ z, decide ((a - b) = 0) = z := ⟨_, rfl⟩
      rw [hz] at HN
      rw [hz] at HR
      clear hz
      go_enter Try.func54, Try.ntmps54
      go_upto_region 10 with (first | ((with_reducible refine gate_dst (N := 2) rfl ?_); refine num_new ?hg (N := 2) ?hd (cs := numC a true) HO.out a true ?hc ?hr ?_; (case hc => first | rfl | exact zcNum); (case hd => rfl); (case hg => rfl); (case hr => first | (go_simp; done) | (go_simp; rfl)); intro gA w1 hO_; have n0_ : Aside0 (Own w w1 [(gA, a, true)]) := ⟨hO_⟩; clear HO hO_; have HO := n0_; clear n0_) | ((with_reducible refine gate_dst (N := 3) rfl ?_); refine num_new ?hg (N := 3) ?hd (cs := numC b false) HO.out b false ?hc ?hr ?_; (case hc => first | rfl | exact zcNum); (case hd => rfl); (case hg => rfl); (case hr => first | (go_simp; done) | (go_simp; rfl)); intro gB w2 hO_; have n0_ : Aside0 (Own w w2 [(gA, a, true), (gB, b, false)]) := ⟨hO_⟩; clear HO hO_; have HO := n0_; clear n0_) | ((with_reducible refine gate_dst (N := 4) rfl ?_); refine num_new ?hg (N := 4) ?hd (cs := Try.zeroCells84) HO.out 0 false ?hc ?hr ?_; (case hc => first | rfl | exact zcNum); (case hd => rfl); (case hg => rfl); (case hr => first | (go_simp; done) | (go_simp; rfl)); intro gR w3 hO_; have n0_ : Aside0 (Own w w3 [(gA, a, true), (gB, b, false), (gR, 0, false)]) := ⟨hO_⟩; clear HO hO_; have HO := n0_; clear n0_) | ((with_reducible refine gate_dst (N := 5) rfl ?_); refine num_new ?hg (N := 5) ?hd (cs := Try.zeroCells84) HO.out 0 false ?hc ?hr ?_; (case hc => first | rfl | exact zcNum); (case hd => rfl); (case hg => rfl); (case hr => first | (go_simp; done) | (go_simp; rfl)); intro gN w4 hO_; have n0_ : Aside0 (Own w w4 [(gA, a, true), (gB, b, false), (gR, 0, false), (gN, 0, false)]) := ⟨hO_⟩; clear HO hO_; have HO := n0_; clear n0_; have z0_ := HO.out.neg 0 rfl; have z1_ := HO.out.neg 1 rfl; have zf_ := HO.out.free 3 136 rfl) | ((with_reducible refine gate_dst (N := 17) rfl ?_); refine num_load ?hg (N := 17) ?hd (.tmp 2) ?ho HO.out 0 (g := gA) (m := a) (s := true) ?hi ?hx ?_; (case hd => rfl); (case hg => rfl); (case ho => rfl); (case hi => rfl); (case hx => rfl)) | ((with_reducible refine gate_dst (N := 18) rfl ?_); refine num_load ?hg (N := 18) ?hd (.tmp 3) ?ho HO.out 1 (g := gB) (m := b) (s := false) ?hi ?hx ?_; (case hd => rfl); (case hg => rfl); (case ho => rfl); (case hi => rfl); (case hx => rfl)) | (go_at_call 65; (with_reducible refine (HBL.out _).mono ?_); rintro e_ w5 ⟨rfl, hb_⟩; clear z0_ z1_ zf_; have n0_ : Aside0 (Own w w5 [(gA, a, true), (gB, b, false), (gR, 0, false), (gN, 0, false)]) := ⟨HO.out.call hb_⟩; clear HO hb_; have HO := n0_; clear n0_; have z0_ := HO.out.neg 0 rfl; have z1_ := HO.out.neg 1 rfl; have zf_ := HO.out.free 3 136 rfl) | ((with_reducible refine gate_dst (N := 26) rfl ?_); refine num_load ?hg (N := 26) ?hd (.tmp 2) ?ho HO.out 0 (g := gA) (m := a) (s := true) ?hi ?hx ?_; (case hd => rfl); (case hg => rfl); (case ho => rfl); (case hi => rfl); (case hx => rfl)) | ((with_reducible refine gate_dst (N := 27) rfl ?_); refine num_load ?hg (N := 27) ?hd (.tmp 3) ?ho HO.out 1 (g := gB) (m := b) (s := false) ?hi ?hx ?_; (case hd => rfl); (case hg => rfl); (case ho => rfl); (case hi => rfl); (case hx => rfl)) | (go_at_call 69; (with_reducible refine (num_less _ _ _ _ HL.out _).mono ?_); rintro e_ w6 ⟨rfl, hb_⟩; clear z0_ z1_ zf_; have n0_ : Aside0 (Own w w6 [(gA, a, true), (gB, b, false), (gR, 0, false), (gN, 0, false)]) := ⟨HO.out.call hb_⟩; clear HO hb_; have HO := n0_; clear n0_) | ((with_reducible refine gate_store (t := 84) (p := 5) (v := .tmp 28) rfl ?_); refine num_store ?hg (.tmp 5) (.tmp 28) ?ho HO.out 3 (g := gN) (m := 0) (s := false) (m' := (a - b)) (s' := false) ?hi ?hx ?hy ?_; (case hg => rfl); (case ho => rfl); (case hi => rfl); (case hx => rfl); (case hy => rfl); intro w7 hO_; have n0_ : Aside0 (Own w w7 [(gA, a, true), (gB, b, false), (gR, 0, false), (gN, (a - b), false)]) := ⟨hO_⟩; clear HO hO_; have HO := n0_; clear n0_; have z0_ := HO.out.neg 0 rfl; have z1_ := HO.out.neg 1 rfl; have zn_ := HO.out.neg 3 rfl; have zf_ := HO.out.free 3 136 rfl))
      refine num_abs (w0 := w) (l := [(gA, a, true), (gB, b, false), (gR, 0, false), (gN, (a - b), true)]) (HO.out.sign 3 rfl _) ?_
      intro w8 hO_
      clear HO
      have HO := Aside0.mk hO_
      clear hO_
      clear z0_ z1_ zn_ zf_
      have zn_ := HO.out.neg 3 rfl
      have zf_ := HO.out.free 3 136 rfl
      go_upto_region 11 with (first | ((with_reducible refine gate_dst (N := 35) rfl ?_); (refine gate_guard (by rfl) ?_; dsimp only); refine num_load ?hg (N := 35) ?hd (.tmp 5) ?ho HO.out 3 (g := gN) (m := (a - b)) (s := true) ?hi ?hx ?_; (case hd => rfl); (case hg => rfl); (case ho => rfl); (case hi => rfl); (case hx => rfl)) | (go_at_call 63; (with_reducible refine (HN.out _).mono ?_); rintro e_ w9 ⟨rfl, hb_⟩; clear zn_ zf_; have n0_ : Aside0 (Own w w9 [(gA, a, true), (gB, b, false), (gR, 0, false), (gN, (a - b), true)]) := ⟨HO.out.call hb_⟩; clear HO hb_; have HO := n0_; clear n0_; have zn_ := HO.out.neg 3 rfl; have zf_ := HO.out.free 3 136 rfl))
      refine num_abs (w0 := w) (l := [(gA, a, true), (gB, b, false), (gR, 0, false), (gN, (a - b), (!z))]) (HO.out.sign 3 rfl _) ?_
      intro w10 hO_
      clear HO
      have HO := Aside0.mk hO_
      clear hO_
      clear zn_ zf_
      go_wp2_with (first | ((with_reducible refine gate_dst (N := 40) rfl ?_); refine num_load ?hg (N := 40) ?hd (.tmp 5) ?ho HO.out 3 (g := gN) (m := (a - b)) (s := (!z)) ?hi ?hx ?_; (case hd => rfl); (case hg => rfl); (case ho => rfl); (case hi => rfl); (case hx => rfl)) | ((with_reducible refine gate_store (t := 84) (p := 4) (v := .tmp 40) rfl ?_); refine num_store ?hg (.tmp 4) (.tmp 40) ?ho HO.out 2 (g := gR) (m := 0) (s := false) (m' := (a - b)) (s' := (!z)) ?hi ?hx ?hy ?_; (case hg => rfl); (case ho => rfl); (case hi => rfl); (case hx => rfl); (case hy => rfl); intro w11 hO_; have n0_ : Aside0 (Own w w11 [(gA, a, true), (gB, b, false), (gR, (a - b), (!z)), (gN, (a - b), (!z))]) := ⟨hO_⟩; clear HO hO_; have HO := n0_; clear n0_))
      exact bodyPost_ret (num_result rfl HO.out 2 rfl _ rfl) rfl ⟨(a - b), (!z), rfl, HR.out, HO.out.below⟩
  case true.true =>
    clear HBL
    have HM : Aside0 (a + b < 2 ^ 136) := ⟨by have := HPW.out; have := HA.out; have := HBB.out; omega⟩
    have HR : Aside0 (PlusR a b true true (a + b) (!decide (a + b = 0))) := ⟨by unfold PlusR; exact ⟨by rw [sv_nz]; unfold sv; simp; omega, by omega, nz_of⟩⟩
    have HN := Aside0.mk (fun w => num_nought (a + b) true HM.out w)
    obtain ⟨z, hz⟩ : ∃ z, decide ((a + b) = 0) = z := ⟨_, rfl⟩
    rw [hz] at HN
    rw [hz] at HR
    clear hz
    go_enter Try.func54, Try.ntmps54
    go_upto_region 10 with (first | ((with_reducible refine gate_dst (N := 2) rfl ?_); refine num_new ?hg (N := 2) ?hd (cs := numC a true) HO.out a true ?hc ?hr ?_; (case hc => first | rfl | exact zcNum); (case hd => rfl); (case hg => rfl); (case hr => first | (go_simp; done) | (go_simp; rfl)); intro gA w1 hO_; have n0_ : Aside0 (Own w w1 [(gA, a, true)]) := ⟨hO_⟩; clear HO hO_; have HO := n0_; clear n0_) | ((with_reducible refine gate_dst (N := 3) rfl ?_); refine num_new ?hg (N := 3) ?hd (cs := numC b true) HO.out b true ?hc ?hr ?_; (case hc => first | rfl | exact zcNum); (case hd => rfl); (case hg => rfl); (case hr => first | (go_simp; done) | (go_simp; rfl)); intro gB w2 hO_; have n0_ : Aside0 (Own w w2 [(gA, a, true), (gB, b, true)]) := ⟨hO_⟩; clear HO hO_; have HO := n0_; clear n0_) | ((with_reducible refine gate_dst (N := 4) rfl ?_); refine num_new ?hg (N := 4) ?hd (cs := Try.zeroCells84) HO.out 0 false ?hc ?hr ?_; (case hc => first | rfl | exact zcNum); (case hd => rfl); (case hg => rfl); (case hr => first | (go_simp; done) | (go_simp; rfl)); intro gR w3 hO_; have n0_ : Aside0 (Own w w3 [(gA, a, true), (gB, b, true), (gR, 0, false)]) := ⟨hO_⟩; clear HO hO_; have HO := n0_; clear n0_) | ((with_reducible refine gate_dst (N := 5) rfl ?_); refine num_new ?hg (N := 5) ?hd (cs := Try.zeroCells84) HO.out 0 false ?hc ?hr ?_; (case hc => first | rfl | exact zcNum); (case hd => rfl); (case hg => rfl); (case hr => first | (go_simp; done) | (go_simp; rfl)); intro gN w4 hO_; have n0_ : Aside0 (Own w w4 [(gA, a, true), (gB, b, true), (gR, 0, false), (gN, 0, false)]) := ⟨hO_⟩; clear HO hO_; have HO := n0_; clear n0_; have z0_ := HO.out.neg 0 rfl; have z1_ := HO.out.neg 1 rfl; have zf_ := HO.out.free 3 136 rfl) | ((with_reducible refine gate_dst (N := 11) rfl ?_); refine num_load ?hg (N := 11) ?hd (.tmp 2) ?ho HO.out 0 (g := gA) (m := a) (s := true) ?hi ?hx ?_; (case hd => rfl); (case hg => rfl); (case ho => rfl); (case hi => rfl); (case hx => rfl)) | ((with_reducible refine gate_dst (N := 12) rfl ?_); refine num_load ?hg (N := 12) ?hd (.tmp 3) ?ho HO.out 1 (g := gB) (m := b) (s := true) ?hi ?hx ?_; (case hd => rfl); (case hg => rfl); (case ho => rfl); (case hi => rfl); (case hx => rfl)) | (go_at_call 66; (with_reducible refine (num_more _ _ _ _ _).mono ?_); rintro e_ w6 ⟨rfl, hb_⟩; clear z0_ z1_ zf_; have n0_ : Aside0 (Own w w6 [(gA, a, true), (gB, b, true), (gR, 0, false), (gN, 0, false)]) := ⟨HO.out.call hb_⟩; clear HO hb_; have HO := n0_; clear n0_) | ((with_reducible refine gate_store (t := 84) (p := 5) (v := .tmp 13) rfl ?_); refine num_store ?hg (.tmp 5) (.tmp 13) ?ho HO.out 3 (g := gN) (m := 0) (s := false) (m' := (a + b)) (s' := false) ?hi ?hx ?hy ?_; (case hg => rfl); (case ho => rfl); (case hi => rfl); (case hx => rfl); (case hy => rfl); intro w7 hO_; have n0_ : Aside0 (Own w w7 [(gA, a, true), (gB, b, true), (gR, 0, false), (gN, (a + b), false)]) := ⟨hO_⟩; clear HO hO_; have HO := n0_; clear n0_; have z0_ := HO.out.neg 0 rfl; have z1_ := HO.out.neg 1 rfl; have zn_ := HO.out.neg 3 rfl; have zf_ := HO.out.free 3 136 rfl))
    refine num_abs (w0 := w) (l := [(gA, a, true), (gB, b, true), (gR, 0, false), (gN, (a + b), true)]) (HO.out.sign 3 rfl _) ?_
    intro w8 hO_
    clear HO
    have HO := Aside0.mk hO_
    clear hO_
    clear z0_ z1_ zn_ zf_
    have zn_ := HO.out.neg 3 rfl
    have zf_ := HO.out.free 3 136 rfl
    go_upto_region 11 with (first | ((with_reducible refine gate_dst (N := 35) rfl ?_); (refine gate_guard (by rfl) ?_; dsimp only); refine num_load ?hg (N := 35) ?hd (.tmp 5) ?ho HO.out 3 (g := gN) (m := (a + b)) (s := true) ?hi ?hx ?_; (case hd => rfl); (case hg => rfl); (case ho => rfl); (case hi => rfl); (case hx => rfl)) | (go_at_call 63; (with_reducible refine (HN.out _).mono ?_); rintro e_ w9 ⟨rfl, hb_⟩; clear zn_ zf_; have n0_ : Aside0 (Own w w9 [(gA, a, true), (gB, b, true), (gR, 0, false), (gN, (a + b), true)]) := ⟨HO.out.call hb_⟩; clear HO hb_; have HO := n0_; clear n0_; have zn_ := HO.out.neg 3 rfl; have zf_ := HO.out.free 3 136 rfl))
    refine num_abs (w0 := w) (l := [(gA, a, true), (gB, b, true), (gR, 0, false), (gN, (a + b), (!z))]) (HO.out.sign 3 rfl _) ?_
    intro w10 hO_
    clear HO
    have HO := Aside0.mk hO_
    clear hO_
    clear zn_ zf_
    go_wp2_with (first | ((with_reducible refine gate_dst (N := 40) rfl ?_); refine num_load ?hg (N := 40) ?hd (.tmp 5) ?ho HO.out 3 (g := gN) (m := (a + b)) (s := (!z)) ?hi ?hx ?_; (case hd => rfl); (case hg => rfl); (case ho => rfl); (case hi => rfl); (case hx => rfl)) | ((with_reducible refine gate_store (t := 84) (p := 4) (v := .tmp 40) rfl ?_); refine num_store ?hg (.tmp 4) (.tmp 40) ?ho HO.out 2 (g := gR) (m := 0) (s := false) (m' := (a + b)) (s' := (!z)) ?hi ?hx ?hy ?_; (case hg => rfl); (case ho => rfl); (case hi => rfl); (case hx => rfl); (case hy => rfl); intro w11 hO_; have n0_ : Aside0 (Own w w11 [(gA, a, true), (gB, b, true), (gR, (a + b), (!z)), (gN, (a + b), (!z))]) := ⟨hO_⟩; clear HO hO_; have HO := n0_; clear n0_))
    exact bodyPost_ret (num_result rfl HO.out 2 rfl _ rfl) rfl ⟨(a + b), (!z), rfl, HR.out, HO.out.below⟩

/-! ### jobberref01_Back: function 71 (by hand; for other hand texts alone) -/
def Fits (v : Int) : Prop := -9223372036854775808 ≤ v ∧ v ≤ 9223372036854775807
def BackR (m : Nat) (s : Bool) (x : Int) (ok : Bool) : Prop := (ok = true → x = sv m s) ∧ (ok = true ↔ Fits (sv m s))
theorem back_big {m : Nat} {s : Bool} {k : Nat} (hk : 64 ≤ k) (hb : m.testBit k = true) : BackR m s 0 false := by
  have h1 : 2 ^ k ≤ m := Nat.ge_two_pow_of_testBit hb
  have h2 : (2 : Nat) ^ 64 ≤ 2 ^ k := Nat.pow_le_pow_right (by decide) hk
  refine ⟨fun h => (by cases h), ⟨fun h => (by cases h), fun h => ?_⟩⟩
  unfold Fits sv at h
  cases s <;> simp at h <;> omega
theorem back_step {m k : Nat} : m / 2 ^ k = 2 * (m / 2 ^ (k + 1)) + (if m.testBit k then 1 else 0) := by
  rw [tb_div, Nat.pow_succ, ← Nat.div_div_eq_div_mul]
  have := Nat.div_add_mod (m / 2 ^ k) 2
  omega
set_option maxHeartbeats 8000000 in
set_option maxRecDepth 100000 in
theorem num_back (m : Nat) (s : Bool) (hm : m < 2 ^ 136) (w : World) :
    Calls Try.prog 71 #[.agg (numC m s)] w fun e w' => ∃ x ok, e = .returned (.tuple #[.int .i64 x, .bool ok]) ∧ BackR m s x ok ∧ Below w.heap.size w w' := by
  have HO : Aside0 (Own w w []) := ⟨Own.start w⟩
  have HM := Aside0.mk hm
  clear hm
  go_enter Try.func71, Try.ntmps71
  go_wp2_with (first | ((with_reducible refine gate_dst (N := 1) rfl ?_); refine num_new ?hg (N := 1) ?hd (cs := numC m s) HO.out m s ?hc ?hr ?_; (case hc => first | rfl | exact zcNum); (case hd => rfl); (case hg => rfl); (case hr => first | (go_simp; done) | (go_simp; rfl)); intro gA w1 hO_; have n0_ : Aside0 (Own w w1 [(gA, m, s)]) := ⟨hO_⟩; clear HO hO_; have HO := n0_; clear n0_))
  go_loopg [4] 72 (fun kq v4 wr => ∃ k : Nat, v4 = .int .i64 k ∧ Aside0 (k + kq = 136 ∧ 64 ≤ k) ∧ Aside0 (∀ j, 64 ≤ j → j < k → m.testBit j = false) ∧ Aside0 (Own w wr [(gA, m, s)]))
  case atStart => exact ⟨64, rfl, ⟨by omega⟩, ⟨fun j h1 h2 => by omega⟩, HO⟩
  case round =>
    clear HO
    obtain ⟨k, rfl, HK, HA, HO⟩ := hrel
    by_cases hk : k < 136
    · have hd : decide ((k : Int) < 136) = true := decide_eq_true (by omega)
      have z_ := HO.out.cell 0 k rfl hk
      have HBG := Aside0.mk (fun h => back_big (m := m) (s := s) HK.out.2 h)
      have HST := Aside0.mk (fun (h : m.testBit k = false) => (fun j h1 h2 => by
        by_cases e : j = k
        · rw [e]; exact h
        · exact HA.out j h1 (by omega) : ∀ j, 64 ≤ j → j < k + 1 → m.testBit j = false))
      cases hx : m.testBit k
      · rw [hx] at z_
        have HS2 := Aside0.mk (HST.out hx)
        clear hx HST
        go_wp2
        go_roundg (gk - 1)
        case measure => have := HK.out; omega
        case rel => exact ⟨k + 1, by go_num, ⟨by have := HK.out; omega⟩, HS2, HO⟩
      · rw [hx] at z_
        have HB2 := Aside0.mk (HBG.out hx)
        clear hx HST HBG
        go_wp2
        go_ret2
        exact ⟨_, _, rfl, HB2.out, HO.out.below⟩
    · have hd : decide ((k : Int) < 136) = false := decide_eq_false (by omega)
      have HM64 : Aside0 (m < 2 ^ 64) := ⟨Nat.lt_pow_two_of_testBit m fun i hi => by
        by_cases c : i < 136
        · exact HA.out i hi (by omega)
        · exact Nat.testBit_lt_two_pow (Nat.lt_of_lt_of_le HM.out (Nat.pow_le_pow_right (by decide) (by omega)))⟩
      clear HA HK hk
      go_wp2
      go_loopg [5, 6] 64 (fun kq v5 v6 w2 => ∃ (i : Int) (y : Nat), v6 = .int .i64 i ∧ v5 = .int .u64 (y : Int) ∧ Aside0 (y = m / 2 ^ kq) ∧ Aside0 (i + 1 = kq ∧ kq ≤ 64) ∧ Aside0 (Own w w2 [(gA, m, s)]))
      case atStart => exact ⟨63, 0, rfl, rfl, ⟨(Nat.div_eq_of_lt HM64.out).symm⟩, ⟨by omega⟩, HO⟩
      case round =>
        clear HO
        obtain ⟨i, y, rfl, rfl, HY, HI, HO⟩ := hrel
        cases gk with
        | zero =>
          obtain rfl : i = -1 := by have := HI.out; omega
          obtain rfl : y = m := by have := HY.out; simpa using this
          have z_ := HO.out.neg 0 rfl
          have e : ∀ z : Int, IntKind.u64.wrap z = z % 18446744073709551616 := fun _ => rfl
          have hlt := HM64.out
          cases s with
          | true =>
            by_cases c : y > 9223372036854775808
            · have d : decide ((9223372036854775808 : Int) < (y : Int)) = true := decide_eq_true (by omega)
              have HR : Aside0 (BackR y true 0 false) := ⟨⟨fun h => (by cases h), ⟨fun h => (by cases h), fun h => (by unfold Fits sv at h; simp at h; omega)⟩⟩⟩
              clear e hlt c
              go_wp2
              go_ret2
              exact ⟨_, _, rfl, HR.out, HO.out.below⟩
            · have d : decide ((9223372036854775808 : Int) < (y : Int)) = false := decide_eq_false (by omega)
              have HR : Aside0 (∀ x, x = wrap64 (IntKind.u64.wrap (IntKind.u64.wrap (18446744073709551615 - (y : Int)) + 1)) → BackR y true x true) := ⟨fun x hx => ⟨fun _ => (by rw [hx, e, e]; unfold wrap64 sv; simp; omega), ⟨fun _ => (by unfold Fits sv; simp; omega), fun _ => rfl⟩⟩⟩
              clear e hlt c
              go_wp2
              go_ret2
              exact ⟨_, _, rfl, HR.out _ rfl, HO.out.below⟩
          | false =>
            by_cases c : y < 9223372036854775808
            · have d : decide ((y : Int) < (9223372036854775808 : Int)) = true := decide_eq_true (by omega)
              have HR : Aside0 (∀ x, x = wrap64 (y : Int) → BackR y false x true) := ⟨fun x hx => ⟨fun _ => (by rw [hx]; unfold wrap64 sv; simp; omega), ⟨fun _ => (by unfold Fits sv; simp; omega), fun _ => rfl⟩⟩⟩
              clear e hlt c
              go_wp2
              go_ret2
              exact ⟨_, _, rfl, HR.out _ rfl, HO.out.below⟩
            · have d : decide ((y : Int) < (9223372036854775808 : Int)) = false := decide_eq_false (by omega)
              have HR : Aside0 (∀ x, BackR y false x false) := ⟨fun x => ⟨fun h => (by cases h), ⟨fun h => (by cases h), fun h => (by unfold Fits sv at h; simp at h; omega)⟩⟩⟩
              clear e hlt c
              go_wp2
              go_ret2
              exact ⟨_, _, rfl, HR.out _, HO.out.below⟩
        | succ k =>
          obtain rfl : i = (k : Int) := by have := HI.out; omega
          have hd : decide ((0 : Int) ≤ (k : Int)) = true := decide_eq_true (by omega)
          have hd2 : (0 : Int) ≤ (k : Int) := by omega
          have hd3 : (k : Int) < 136 := by have := HI.out; omega
          have z_ := HO.out.cell 0 k rfl (by have := HI.out; omega)
          have hb := back_step (m := m) (k := k)
          have hyb : m / 2 ^ k < 2 ^ 64 := Nat.lt_of_le_of_lt (Nat.div_le_self _ _) HM64.out
          rw [← HY.out] at hb
          have e : ∀ z : Int, IntKind.u64.wrap z = z % 18446744073709551616 := fun _ => rfl
          cases hx : m.testBit k
          · rw [hx] at z_ hb
            simp at hb
            have hw := Aside0.mk (show IntKind.u64.wrap (2 * (y : Int)) = ((2 * y : Nat) : Int) by rw [e]; omega)
            have HYY := Aside0.mk hb.symm
            clear hx e hb hyb
            go_wp2
            go_roundg k
            case measure => omega
            case rel => exact ⟨(k : Int) - 1, 2 * y, by first | rfl | go_num, by first | rfl | (rw [hw.out]) | (congr 1; omega), HYY, ⟨by have := HI.out; omega⟩, HO⟩
          · rw [hx] at z_ hb
            simp at hb
            have hw := Aside0.mk (show IntKind.u64.wrap (IntKind.u64.wrap (2 * (y : Int)) + 1) = ((2 * y + 1 : Nat) : Int) by rw [e, e]; omega)
            have HYY := Aside0.mk hb.symm
            clear hx e hb hyb
            go_wp2
            go_roundg k
            case measure => omega
            case rel => exact ⟨(k : Int) - 1, 2 * y + 1, by first | rfl | go_num, by first | rfl | (rw [hw.out]) | (congr 1; omega), HYY, ⟨by have := HI.out; omega⟩, HO⟩

end Go.Proofs.Ythaaghkplbbgdaa.Shb
