/- Printed by this session's wip/drive.py over the translation; some functions by hand. -/
import Derived.Test.YthaaghkplbbgdaaLiax0
import Derived.Test.YthaaghkplbbgdaaLiax1
import Derived.Test.YthaaghkplbbgdaaLiax2
namespace Go.Proofs.Ythaaghkplbbgdaa.Lia
open Go.RowKit Go.Proofs.YthaaghkplbbgdaaW.PrintWords Go.Proofs.YthaaghkplbbgdaaW.PrintLast Go.Proofs.YthaaghkplbbgdaaW.PrintMore
attribute [local go_sem] max2_int min2_int max_two min_two max_three min_three max_four min_four   -- for this text's walks alone
set_option linter.unusedVariables false
set_option linter.unusedSimpArgs false

/-! ### jobberref01_Times: function 55 (by hand; for other hand texts alone) -/
set_option maxHeartbeats 8000000 in
set_option maxRecDepth 100000 in
theorem num_times (a b : Nat) (ga gb : Bool) (hb : b < 2 ^ 64) (hm : a * b < 2 ^ 136) (w : World) :
    Calls Try.prog 55 #[.agg (numC a ga), .agg (numC b gb)] w fun e w' => e = .returned (.agg (numC (a * b) ((ga != gb) && !decide (a * b = 0)))) ∧ Below w.heap.size w w' := by
  have HO : Aside0 (Own w w []) := ⟨Own.start w⟩
  have HB64 := Aside0.mk hb
  obtain ⟨P, hP⟩ : ∃ P, a * b = P := ⟨_, rfl⟩
  rw [hP] at hm ⊢
  have HP := Aside0.mk hP
  have HN := Aside0.mk (fun w => num_nought P false hm w)
  obtain ⟨z, hz⟩ : ∃ z, decide (P = 0) = z := ⟨_, rfl⟩
  rw [hz] at HN ⊢
  clear hb hm hP hz
  cases ga <;> cases gb
  case false.false =>
    go_enter Try.func55, Try.ntmps55
    go_wp2_with (first | ((with_reducible refine gate_dst (N := 2) rfl ?_); refine num_new ?hg (N := 2) ?hd (cs := numC a false) HO.out a false ?hc ?hr ?_; (case hc => first | rfl | exact zcNum); (case hd => rfl); (case hg => rfl); (case hr => first | (go_simp; done) | (go_simp; rfl)); intro gA w1 hO_; have n0_ : Aside0 (Own w w1 [(gA, a, false)]) := ⟨hO_⟩; clear HO hO_; have HO := n0_; clear n0_) | ((with_reducible refine gate_dst (N := 3) rfl ?_); refine num_new ?hg (N := 3) ?hd (cs := numC b false) HO.out b false ?hc ?hr ?_; (case hc => first | rfl | exact zcNum); (case hd => rfl); (case hg => rfl); (case hr => first | (go_simp; done) | (go_simp; rfl)); intro gB w2 hO_; have n0_ : Aside0 (Own w w2 [(gA, a, false), (gB, b, false)]) := ⟨hO_⟩; clear HO hO_; have HO := n0_; clear n0_) | ((with_reducible refine gate_dst (N := 4) rfl ?_); refine num_new ?hg (N := 4) ?hd (cs := Try.zeroCells84) HO.out 0 false ?hc ?hr ?_; (case hc => first | rfl | exact zcNum); (case hd => rfl); (case hg => rfl); (case hr => first | (go_simp; done) | (go_simp; rfl)); intro gR w3 hO_; have n0_ : Aside0 (Own w w3 [(gA, a, false), (gB, b, false), (gR, 0, false)]) := ⟨hO_⟩; clear HO hO_; have HO := n0_; clear n0_) | ((with_reducible refine gate_dst (N := 5) rfl ?_); refine num_new ?hg (N := 5) ?hd (cs := Try.zeroCells84) HO.out 0 false ?hc ?hr ?_; (case hc => first | rfl | exact zcNum); (case hd => rfl); (case hg => rfl); (case hr => first | (go_simp; done) | (go_simp; rfl)); intro gN w4 hO_; have n0_ : Aside0 (Own w w4 [(gA, a, false), (gB, b, false), (gR, 0, false), (gN, 0, false)]) := ⟨hO_⟩; clear HO hO_; have HO := n0_; clear n0_) | ((with_reducible refine gate_dst (N := 8) rfl ?_); refine num_load ?hg (N := 8) ?hd (.tmp 2) ?ho HO.out 0 (g := gA) (m := a) (s := false) ?hi ?hx ?_; (case hd => rfl); (case hg => rfl); (case ho => rfl); (case hi => rfl); (case hx => rfl)) | ((with_reducible refine gate_dst (N := 6) rfl ?_); refine num_new ?hg (N := 6) ?hd (cs := Try.zeroCells84) HO.out 0 false ?hc ?hr ?_; (case hc => first | rfl | exact zcNum); (case hd => rfl); (case hg => rfl); (case hr => first | (go_simp; done) | (go_simp; rfl)); intro gX w5 hO_; have n0_ : Aside0 (Own w w5 [(gA, a, false), (gB, b, false), (gR, 0, false), (gN, 0, false), (gX, 0, false)]) := ⟨hO_⟩; clear HO hO_; have HO := n0_; clear n0_) | ((with_reducible refine gate_store (t := 84) (p := 6) (v := .tmp 8) rfl ?_); refine num_store ?hg (.tmp 6) (.tmp 8) ?ho HO.out 4 (g := gX) (m := 0) (s := false) (m' := a) (s' := false) ?hi ?hx ?hy ?_; (case hg => rfl); (case ho => rfl); (case hi => rfl); (case hx => rfl); (case hy => rfl); intro w6 hO_; have n0_ : Aside0 (Own w w6 [(gA, a, false), (gB, b, false), (gR, 0, false), (gN, 0, false), (gX, a, false)]) := ⟨hO_⟩; clear HO hO_; have HO := n0_; clear n0_))
    go_loopg [7] 64 (fun kq v7 wr => ∃ k : Nat, v7 = .int .i64 k ∧ Aside0 (k + kq = 64) ∧ Aside0 (Own w wr [(gA, a, false), (gB, b, false), (gR, 0, false), (gN, (a * (b % 2 ^ k)), false), (gX, (a * 2 ^ k), false)]))
    case atStart => exact ⟨0, rfl, ⟨rfl⟩, ⟨by have h := HO.out; simp only [Nat.pow_zero, Nat.mod_one, Nat.mul_zero, Nat.mul_one]; exact h⟩⟩
    case round =>
      clear HO
      obtain ⟨k, rfl, HK, HO⟩ := hrel
      by_cases hk : k < 64
      · have hd : decide ((k : Int) < 64) = true := decide_eq_true (by omega)
        have zb_ := HO.out.cell 1 k rfl (by omega)
        have HE2 := Aside0.mk (show 2 * (a * 2 ^ k) = a * 2 ^ (k + 1) by rw [Nat.pow_succ, Nat.mul_left_comm, Nat.mul_comm 2])
        have hm := Nat.mod_pow_succ (b := 2) (k := k) (x := b)
        have ht := tb_div b k
        rw [← ht] at hm
        cases hxb : b.testBit k
        case true =>
          rw [hxb] at zb_ hm
          have HE1 := Aside0.mk (show a * (b % 2 ^ k) + a * 2 ^ k = a * (b % 2 ^ (k + 1)) by rw [hm, ← Nat.mul_add]; simp)
          clear hxb hm ht
          go_wp2_with (first | ((with_reducible refine gate_dst (N := 17) rfl ?_); refine num_load ?hg (N := 17) ?hd (.tmp 5) ?ho HO.out 3 (g := gN) (m := (a * (b % 2 ^ k))) (s := false) ?hi ?hx ?_; (case hd => rfl); (case hg => rfl); (case ho => rfl); (case hi => rfl); (case hx => rfl)) | ((with_reducible refine gate_dst (N := 18) rfl ?_); refine num_load ?hg (N := 18) ?hd (.tmp 6) ?ho HO.out 4 (g := gX) (m := (a * 2 ^ k)) (s := false) ?hi ?hx ?_; (case hd => rfl); (case hg => rfl); (case ho => rfl); (case hi => rfl); (case hx => rfl)) | (go_at_call 66; (with_reducible refine (num_more _ _ _ _ _).mono ?_); rintro e_ w7 ⟨rfl, hb_⟩; have n0_ : Aside0 (Own w w7 [(gA, a, false), (gB, b, false), (gR, 0, false), (gN, (a * (b % 2 ^ k)), false), (gX, (a * 2 ^ k), false)]) := ⟨HO.out.call hb_⟩; clear zb_ HO hb_; have HO := n0_; clear n0_) | ((with_reducible refine gate_store (t := 84) (p := 5) (v := .tmp 19) rfl ?_); refine num_store ?hg (.tmp 5) (.tmp 19) ?ho HO.out 3 (g := gN) (m := (a * (b % 2 ^ k))) (s := false) (m' := (a * (b % 2 ^ k) + a * 2 ^ k)) (s' := false) ?hi ?hx ?hy ?_; (case hg => rfl); (case ho => rfl); (case hi => rfl); (case hx => rfl); (case hy => rfl); intro w8 hO_; have n0_ : Aside0 (Own w w8 [(gA, a, false), (gB, b, false), (gR, 0, false), (gN, (a * (b % 2 ^ k) + a * 2 ^ k), false), (gX, (a * 2 ^ k), false)]) := ⟨hO_⟩; clear HO hO_; have HO := n0_; clear n0_) | ((with_reducible refine gate_dst (N := 20) rfl ?_); refine num_load ?hg (N := 20) ?hd (.tmp 6) ?ho HO.out 4 (g := gX) (m := (a * 2 ^ k)) (s := false) ?hi ?hx ?_; (case hd => rfl); (case hg => rfl); (case ho => rfl); (case hi => rfl); (case hx => rfl)) | (go_at_call 64; (with_reducible refine (num_twice _ _ _).mono ?_); rintro e_ w9 ⟨rfl, hb_⟩; have n0_ : Aside0 (Own w w9 [(gA, a, false), (gB, b, false), (gR, 0, false), (gN, (a * (b % 2 ^ k) + a * 2 ^ k), false), (gX, (a * 2 ^ k), false)]) := ⟨HO.out.call hb_⟩; clear HO hb_; have HO := n0_; clear n0_) | ((with_reducible refine gate_store (t := 84) (p := 6) (v := .tmp 21) rfl ?_); refine num_store ?hg (.tmp 6) (.tmp 21) ?ho HO.out 4 (g := gX) (m := (a * 2 ^ k)) (s := false) (m' := (2 * (a * 2 ^ k))) (s' := false) ?hi ?hx ?hy ?_; (case hg => rfl); (case ho => rfl); (case hi => rfl); (case hx => rfl); (case hy => rfl); intro w10 hO_; have n0_ : Aside0 (Own w w10 [(gA, a, false), (gB, b, false), (gR, 0, false), (gN, (a * (b % 2 ^ k) + a * 2 ^ k), false), (gX, (2 * (a * 2 ^ k)), false)]) := ⟨hO_⟩; clear HO hO_; have HO := n0_; clear n0_))
          go_roundg (gk - 1)
          case measure => have := HK.out; omega
          case rel => exact ⟨k + 1, by go_num, ⟨by have := HK.out; omega⟩, ⟨by have h := HO.out; rw [HE1.out, HE2.out] at h; exact h⟩⟩
        case false =>
          rw [hxb] at zb_ hm
          have HE1 := Aside0.mk (show a * (b % 2 ^ k) = a * (b % 2 ^ (k + 1)) by rw [hm]; simp)
          clear hxb hm ht
          go_wp2_with (first | ((with_reducible refine gate_dst (N := 20) rfl ?_); refine num_load ?hg (N := 20) ?hd (.tmp 6) ?ho HO.out 4 (g := gX) (m := (a * 2 ^ k)) (s := false) ?hi ?hx ?_; (case hd => rfl); (case hg => rfl); (case ho => rfl); (case hi => rfl); (case hx => rfl)) | (go_at_call 64; (with_reducible refine (num_twice _ _ _).mono ?_); rintro e_ w9 ⟨rfl, hb_⟩; have n0_ : Aside0 (Own w w9 [(gA, a, false), (gB, b, false), (gR, 0, false), (gN, (a * (b % 2 ^ k)), false), (gX, (a * 2 ^ k), false)]) := ⟨HO.out.call hb_⟩; clear HO hb_; have HO := n0_; clear n0_) | ((with_reducible refine gate_store (t := 84) (p := 6) (v := .tmp 21) rfl ?_); refine num_store ?hg (.tmp 6) (.tmp 21) ?ho HO.out 4 (g := gX) (m := (a * 2 ^ k)) (s := false) (m' := (2 * (a * 2 ^ k))) (s' := false) ?hi ?hx ?hy ?_; (case hg => rfl); (case ho => rfl); (case hi => rfl); (case hx => rfl); (case hy => rfl); intro w10 hO_; have n0_ : Aside0 (Own w w10 [(gA, a, false), (gB, b, false), (gR, 0, false), (gN, (a * (b % 2 ^ k)), false), (gX, (2 * (a * 2 ^ k)), false)]) := ⟨hO_⟩; clear HO hO_; have HO := n0_; clear n0_))
          go_roundg (gk - 1)
          case measure => have := HK.out; omega
          case rel => exact ⟨k + 1, by go_num, ⟨by have := HK.out; omega⟩, ⟨by have h := HO.out; rw [HE1.out, HE2.out] at h; exact h⟩⟩
      · have hd : decide ((k : Int) < 64) = false := decide_eq_false (by omega)
        have hk64 : k = 64 := by have := HK.out; omega
        have HE := Aside0.mk (show a * (b % 2 ^ k) = a * b by rw [hk64, Nat.mod_eq_of_lt HB64.out])
        clear hk64
        obtain ⟨X, hX⟩ : ∃ X, a * 2 ^ k = X := ⟨_, rfl⟩
        have n0_ : Aside0 (Own w wr [(gA, a, false), (gB, b, false), (gR, 0, false), (gN, P, false), (gX, X, false)]) := ⟨by have h := HO.out; rw [HE.out, hX, HP.out] at h; exact h⟩
        clear HO; have HO := n0_; clear n0_
        clear hX HE
        have z0_ := HO.out.neg 0 rfl
        have z1_ := HO.out.neg 1 rfl
        have zn_ := HO.out.neg 3 rfl
        have zf_ := HO.out.free 3 136 rfl
        go_upto_region 10 with (first | ((with_reducible refine gate_dst (N := 28) rfl ?_); (refine gate_guard (by rfl) ?_; dsimp only); refine num_load ?hg (N := 28) ?hd (.tmp 5) ?ho HO.out 3 (g := gN) (m := P) (s := false) ?hi ?hx ?_; (case hd => rfl); (case hg => rfl); (case ho => rfl); (case hi => rfl); (case hx => rfl)) | (go_at_call 63; (with_reducible refine (HN.out _).mono ?_); rintro e_ w11 ⟨rfl, hb_⟩; clear z0_ z1_ zn_ zf_; have n0_ : Aside0 (Own w w11 [(gA, a, false), (gB, b, false), (gR, 0, false), (gN, P, false), (gX, X, false)]) := ⟨HO.out.call hb_⟩; clear HO hb_; have HO := n0_; clear n0_; have z0_ := HO.out.neg 0 rfl; have z1_ := HO.out.neg 1 rfl; have zn_ := HO.out.neg 3 rfl; have zf_ := HO.out.free 3 136 rfl))
        refine num_abs (w0 := w) (l := [(gA, a, false), (gB, b, false), (gR, 0, false), (gN, P, false), (gX, X, false)]) (HO.out.sign 3 rfl _) ?_
        intro w12 hO_
        clear HO
        have HO := Aside0.mk hO_
        clear hO_
        clear z0_ z1_ zn_ zf_
        go_wp2_with (first | ((with_reducible refine gate_dst (N := 33) rfl ?_); refine num_load ?hg (N := 33) ?hd (.tmp 5) ?ho HO.out 3 (g := gN) (m := P) (s := false) ?hi ?hx ?_; (case hd => rfl); (case hg => rfl); (case ho => rfl); (case hi => rfl); (case hx => rfl)) | ((with_reducible refine gate_store (t := 84) (p := 4) (v := .tmp 33) rfl ?_); refine num_store ?hg (.tmp 4) (.tmp 33) ?ho HO.out 2 (g := gR) (m := 0) (s := false) (m' := P) (s' := false) ?hi ?hx ?hy ?_; (case hg => rfl); (case ho => rfl); (case hi => rfl); (case hx => rfl); (case hy => rfl); intro w13 hO_; have n0_ : Aside0 (Own w w13 [(gA, a, false), (gB, b, false), (gR, P, false), (gN, P, false), (gX, X, false)]) := ⟨hO_⟩; clear HO hO_; have HO := n0_; clear n0_))
        exact bodyPost_ret (num_result rfl HO.out 2 rfl _ rfl) rfl ⟨by first | rfl | simp, HO.out.below⟩
  case false.true =>
    go_enter Try.func55, Try.ntmps55
    go_wp2_with (first | ((with_reducible refine gate_dst (N := 2) rfl ?_); refine num_new ?hg (N := 2) ?hd (cs := numC a false) HO.out a false ?hc ?hr ?_; (case hc => first | rfl | exact zcNum); (case hd => rfl); (case hg => rfl); (case hr => first | (go_simp; done) | (go_simp; rfl)); intro gA w1 hO_; have n0_ : Aside0 (Own w w1 [(gA, a, false)]) := ⟨hO_⟩; clear HO hO_; have HO := n0_; clear n0_) | ((with_reducible refine gate_dst (N := 3) rfl ?_); refine num_new ?hg (N := 3) ?hd (cs := numC b true) HO.out b true ?hc ?hr ?_; (case hc => first | rfl | exact zcNum); (case hd => rfl); (case hg => rfl); (case hr => first | (go_simp; done) | (go_simp; rfl)); intro gB w2 hO_; have n0_ : Aside0 (Own w w2 [(gA, a, false), (gB, b, true)]) := ⟨hO_⟩; clear HO hO_; have HO := n0_; clear n0_) | ((with_reducible refine gate_dst (N := 4) rfl ?_); refine num_new ?hg (N := 4) ?hd (cs := Try.zeroCells84) HO.out 0 false ?hc ?hr ?_; (case hc => first | rfl | exact zcNum); (case hd => rfl); (case hg => rfl); (case hr => first | (go_simp; done) | (go_simp; rfl)); intro gR w3 hO_; have n0_ : Aside0 (Own w w3 [(gA, a, false), (gB, b, true), (gR, 0, false)]) := ⟨hO_⟩; clear HO hO_; have HO := n0_; clear n0_) | ((with_reducible refine gate_dst (N := 5) rfl ?_); refine num_new ?hg (N := 5) ?hd (cs := Try.zeroCells84) HO.out 0 false ?hc ?hr ?_; (case hc => first | rfl | exact zcNum); (case hd => rfl); (case hg => rfl); (case hr => first | (go_simp; done) | (go_simp; rfl)); intro gN w4 hO_; have n0_ : Aside0 (Own w w4 [(gA, a, false), (gB, b, true), (gR, 0, false), (gN, 0, false)]) := ⟨hO_⟩; clear HO hO_; have HO := n0_; clear n0_) | ((with_reducible refine gate_dst (N := 8) rfl ?_); refine num_load ?hg (N := 8) ?hd (.tmp 2) ?ho HO.out 0 (g := gA) (m := a) (s := false) ?hi ?hx ?_; (case hd => rfl); (case hg => rfl); (case ho => rfl); (case hi => rfl); (case hx => rfl)) | ((with_reducible refine gate_dst (N := 6) rfl ?_); refine num_new ?hg (N := 6) ?hd (cs := Try.zeroCells84) HO.out 0 false ?hc ?hr ?_; (case hc => first | rfl | exact zcNum); (case hd => rfl); (case hg => rfl); (case hr => first | (go_simp; done) | (go_simp; rfl)); intro gX w5 hO_; have n0_ : Aside0 (Own w w5 [(gA, a, false), (gB, b, true), (gR, 0, false), (gN, 0, false), (gX, 0, false)]) := ⟨hO_⟩; clear HO hO_; have HO := n0_; clear n0_) | ((with_reducible refine gate_store (t := 84) (p := 6) (v := .tmp 8) rfl ?_); refine num_store ?hg (.tmp 6) (.tmp 8) ?ho HO.out 4 (g := gX) (m := 0) (s := false) (m' := a) (s' := false) ?hi ?hx ?hy ?_; (case hg => rfl); (case ho => rfl); (case hi => rfl); (case hx => rfl); (case hy => rfl); intro w6 hO_; have n0_ : Aside0 (Own w w6 [(gA, a, false), (gB, b, true), (gR, 0, false), (gN, 0, false), (gX, a, false)]) := ⟨hO_⟩; clear HO hO_; have HO := n0_; clear n0_))
    go_loopg [7] 64 (fun kq v7 wr => ∃ k : Nat, v7 = .int .i64 k ∧ Aside0 (k + kq = 64) ∧ Aside0 (Own w wr [(gA, a, false), (gB, b, true), (gR, 0, false), (gN, (a * (b % 2 ^ k)), false), (gX, (a * 2 ^ k), false)]))
    case atStart => exact ⟨0, rfl, ⟨rfl⟩, ⟨by have h := HO.out; simp only [Nat.pow_zero, Nat.mod_one, Nat.mul_zero, Nat.mul_one]; exact h⟩⟩
    case round =>
      clear HO
      obtain ⟨k, rfl, HK, HO⟩ := hrel
      by_cases hk : k < 64
      · have hd : decide ((k : Int) < 64) = true := decide_eq_true (by omega)
        have zb_ := HO.out.cell 1 k rfl (by omega)
        have HE2 := Aside0.mk (show 2 * (a * 2 ^ k) = a * 2 ^ (k + 1) by rw [Nat.pow_succ, Nat.mul_left_comm, Nat.mul_comm 2])
        have hm := Nat.mod_pow_succ (b := 2) (k := k) (x := b)
        have ht := tb_div b k
        rw [← ht] at hm
        cases hxb : b.testBit k
        case true =>
          rw [hxb] at zb_ hm
          have HE1 := Aside0.mk (show a * (b % 2 ^ k) + a * 2 ^ k = a * (b % 2 ^ (k + 1)) by rw [hm, ← Nat.mul_add]; simp)
          clear hxb hm ht
          go_wp2_with (first | ((with_reducible refine gate_dst (N := 17) rfl ?_); refine num_load ?hg (N := 17) ?hd (.tmp 5) ?ho HO.out 3 (g := gN) (m := (a * (b % 2 ^ k))) (s := false) ?hi ?hx ?_; (case hd => rfl); (case hg => rfl); (case ho => rfl); (case hi => rfl); (case hx => rfl)) | ((with_reducible refine gate_dst (N := 18) rfl ?_); refine num_load ?hg (N := 18) ?hd (.tmp 6) ?ho HO.out 4 (g := gX) (m := (a * 2 ^ k)) (s := false) ?hi ?hx ?_; (case hd => rfl); (case hg => rfl); (case ho => rfl); (case hi => rfl); (case hx => rfl)) | (go_at_call 66; (with_reducible refine (num_more _ _ _ _ _).mono ?_); rintro e_ w7 ⟨rfl, hb_⟩; have n0_ : Aside0 (Own w w7 [(gA, a, false), (gB, b, true), (gR, 0, false), (gN, (a * (b % 2 ^ k)), false), (gX, (a * 2 ^ k), false)]) := ⟨HO.out.call hb_⟩; clear zb_ HO hb_; have HO := n0_; clear n0_) | ((with_reducible refine gate_store (t := 84) (p := 5) (v := .tmp 19) rfl ?_); refine num_store ?hg (.tmp 5) (.tmp 19) ?ho HO.out 3 (g := gN) (m := (a * (b % 2 ^ k))) (s := false) (m' := (a * (b % 2 ^ k) + a * 2 ^ k)) (s' := false) ?hi ?hx ?hy ?_; (case hg => rfl); (case ho => rfl); (case hi => rfl); (case hx => rfl); (case hy => rfl); intro w8 hO_; have n0_ : Aside0 (Own w w8 [(gA, a, false), (gB, b, true), (gR, 0, false), (gN, (a * (b % 2 ^ k) + a * 2 ^ k), false), (gX, (a * 2 ^ k), false)]) := ⟨hO_⟩; clear HO hO_; have HO := n0_; clear n0_) | ((with_reducible refine gate_dst (N := 20) rfl ?_); refine num_load ?hg (N := 20) ?hd (.tmp 6) ?ho HO.out 4 (g := gX) (m := (a * 2 ^ k)) (s := false) ?hi ?hx ?_; (case hd => rfl); (case hg => rfl); (case ho => rfl); (case hi => rfl); (case hx => rfl)) | (go_at_call 64; (with_reducible refine (num_twice _ _ _).mono ?_); rintro e_ w9 ⟨rfl, hb_⟩; have n0_ : Aside0 (Own w w9 [(gA, a, false), (gB, b, true), (gR, 0, false), (gN, (a * (b % 2 ^ k) + a * 2 ^ k), false), (gX, (a * 2 ^ k), false)]) := ⟨HO.out.call hb_⟩; clear HO hb_; have HO := n0_; clear n0_) | ((with_reducible refine gate_store (t := 84) (p := 6) (v := .tmp 21) rfl ?_); refine num_store ?hg (.tmp 6) (.tmp 21) ?ho HO.out 4 (g := gX) (m := (a * 2 ^ k)) (s := false) (m' := (2 * (a * 2 ^ k))) (s' := false) ?hi ?hx ?hy ?_; (case hg => rfl); (case ho => rfl); (case hi => rfl); (case hx => rfl); (case hy => rfl); intro w10 hO_; have n0_ : Aside0 (Own w w10 [(gA, a, false), (gB, b, true), (gR, 0, false), (gN, (a * (b % 2 ^ k) + a * 2 ^ k), false), (gX, (2 * (a * 2 ^ k)), false)]) := ⟨hO_⟩; clear HO hO_; have HO := n0_; clear n0_))
          go_roundg (gk - 1)
          case measure => have := HK.out; omega
          case rel => exact ⟨k + 1, by go_num, ⟨by have := HK.out; omega⟩, ⟨by have h := HO.out; rw [HE1.out, HE2.out] at h; exact h⟩⟩
        case false =>
          rw [hxb] at zb_ hm
          have HE1 := Aside0.mk (show a * (b % 2 ^ k) = a * (b % 2 ^ (k + 1)) by rw [hm]; simp)
          clear hxb hm ht
          go_wp2_with (first | ((with_reducible refine gate_dst (N := 20) rfl ?_); refine num_load ?hg (N := 20) ?hd (.tmp 6) ?ho HO.out 4 (g := gX) (m := (a * 2 ^ k)) (s := false) ?hi ?hx ?_; (case hd => rfl); (case hg => rfl); (case ho => rfl); (case hi => rfl); (case hx => rfl)) | (go_at_call 64; (with_reducible refine (num_twice _ _ _).mono ?_); rintro e_ w9 ⟨rfl, hb_⟩; have n0_ : Aside0 (Own w w9 [(gA, a, false), (gB, b, true), (gR, 0, false), (gN, (a * (b % 2 ^ k)), false), (gX, (a * 2 ^ k), false)]) := ⟨HO.out.call hb_⟩; clear HO hb_; have HO := n0_; clear n0_) | ((with_reducible refine gate_store (t := 84) (p := 6) (v := .tmp 21) rfl ?_); refine num_store ?hg (.tmp 6) (.tmp 21) ?ho HO.out 4 (g := gX) (m := (a * 2 ^ k)) (s := false) (m' := (2 * (a * 2 ^ k))) (s' := false) ?hi ?hx ?hy ?_; (case hg => rfl); (case ho => rfl); (case hi => rfl); (case hx => rfl); (case hy => rfl); intro w10 hO_; have n0_ : Aside0 (Own w w10 [(gA, a, false), (gB, b, true), (gR, 0, false), (gN, (a * (b % 2 ^ k)), false), (gX, (2 * (a * 2 ^ k)), false)]) := ⟨hO_⟩; clear HO hO_; have HO := n0_; clear n0_))
          go_roundg (gk - 1)
          case measure => have := HK.out; omega
          case rel => exact ⟨k + 1, by go_num, ⟨by have := HK.out; omega⟩, ⟨by have h := HO.out; rw [HE1.out, HE2.out] at h; exact h⟩⟩
      · have hd : decide ((k : Int) < 64) = false := decide_eq_false (by omega)
        have hk64 : k = 64 := by have := HK.out; omega
        have HE := Aside0.mk (show a * (b % 2 ^ k) = a * b by rw [hk64, Nat.mod_eq_of_lt HB64.out])
        clear hk64
        obtain ⟨X, hX⟩ : ∃ X, a * 2 ^ k = X := ⟨_, rfl⟩
        have n0_ : Aside0 (Own w wr [(gA, a, false), (gB, b, true), (gR, 0, false), (gN, P, false), (gX, X, false)]) := ⟨by have h := HO.out; rw [HE.out, hX, HP.out] at h; exact h⟩
        clear HO; have HO := n0_; clear n0_
        clear hX HE
        have z0_ := HO.out.neg 0 rfl
        have z1_ := HO.out.neg 1 rfl
        have zn_ := HO.out.neg 3 rfl
        have zf_ := HO.out.free 3 136 rfl
        go_upto_region 10 with (first | ((with_reducible refine gate_dst (N := 28) rfl ?_); (refine gate_guard (by rfl) ?_; dsimp only); refine num_load ?hg (N := 28) ?hd (.tmp 5) ?ho HO.out 3 (g := gN) (m := P) (s := false) ?hi ?hx ?_; (case hd => rfl); (case hg => rfl); (case ho => rfl); (case hi => rfl); (case hx => rfl)) | (go_at_call 63; (with_reducible refine (HN.out _).mono ?_); rintro e_ w11 ⟨rfl, hb_⟩; clear z0_ z1_ zn_ zf_; have n0_ : Aside0 (Own w w11 [(gA, a, false), (gB, b, true), (gR, 0, false), (gN, P, false), (gX, X, false)]) := ⟨HO.out.call hb_⟩; clear HO hb_; have HO := n0_; clear n0_; have z0_ := HO.out.neg 0 rfl; have z1_ := HO.out.neg 1 rfl; have zn_ := HO.out.neg 3 rfl; have zf_ := HO.out.free 3 136 rfl))
        refine num_abs (w0 := w) (l := [(gA, a, false), (gB, b, true), (gR, 0, false), (gN, P, (!z)), (gX, X, false)]) (HO.out.sign 3 rfl _) ?_
        intro w12 hO_
        clear HO
        have HO := Aside0.mk hO_
        clear hO_
        clear z0_ z1_ zn_ zf_
        go_wp2_with (first | ((with_reducible refine gate_dst (N := 33) rfl ?_); refine num_load ?hg (N := 33) ?hd (.tmp 5) ?ho HO.out 3 (g := gN) (m := P) (s := (!z)) ?hi ?hx ?_; (case hd => rfl); (case hg => rfl); (case ho => rfl); (case hi => rfl); (case hx => rfl)) | ((with_reducible refine gate_store (t := 84) (p := 4) (v := .tmp 33) rfl ?_); refine num_store ?hg (.tmp 4) (.tmp 33) ?ho HO.out 2 (g := gR) (m := 0) (s := false) (m' := P) (s' := (!z)) ?hi ?hx ?hy ?_; (case hg => rfl); (case ho => rfl); (case hi => rfl); (case hx => rfl); (case hy => rfl); intro w13 hO_; have n0_ : Aside0 (Own w w13 [(gA, a, false), (gB, b, true), (gR, P, (!z)), (gN, P, (!z)), (gX, X, false)]) := ⟨hO_⟩; clear HO hO_; have HO := n0_; clear n0_))
        exact bodyPost_ret (num_result rfl HO.out 2 rfl _ rfl) rfl ⟨by first | rfl | simp, HO.out.below⟩
  case true.false =>
    go_enter Try.func55, Try.ntmps55
    go_wp2_with (first | ((with_reducible refine gate_dst (N := 2) rfl ?_); refine num_new ?hg (N := 2) ?hd (cs := numC a true) HO.out a true ?hc ?hr ?_; (case hc => first | rfl | exact zcNum); (case hd => rfl); (case hg => rfl); (case hr => first | (go_simp; done) | (go_simp; rfl)); intro gA w1 hO_; have n0_ : Aside0 (Own w w1 [(gA, a, true)]) := ⟨hO_⟩; clear HO hO_; have HO := n0_; clear n0_) | ((with_reducible refine gate_dst (N := 3) rfl ?_); refine num_new ?hg (N := 3) ?hd (cs := numC b false) HO.out b false ?hc ?hr ?_; (case hc => first | rfl | exact zcNum); (case hd => rfl); (case hg => rfl); (case hr => first | (go_simp; done) | (go_simp; rfl)); intro gB w2 hO_; have n0_ : Aside0 (Own w w2 [(gA, a, true), (gB, b, false)]) := ⟨hO_⟩; clear HO hO_; have HO := n0_; clear n0_) | ((with_reducible refine gate_dst (N := 4) rfl ?_); refine num_new ?hg (N := 4) ?hd (cs := Try.zeroCells84) HO.out 0 false ?hc ?hr ?_; (case hc => first | rfl | exact zcNum); (case hd => rfl); (case hg => rfl); (case hr => first | (go_simp; done) | (go_simp; rfl)); intro gR w3 hO_; have n0_ : Aside0 (Own w w3 [(gA, a, true), (gB, b, false), (gR, 0, false)]) := ⟨hO_⟩; clear HO hO_; have HO := n0_; clear n0_) | ((with_reducible refine gate_dst (N := 5) rfl ?_); refine num_new ?hg (N := 5) ?hd (cs := Try.zeroCells84) HO.out 0 false ?hc ?hr ?_; (case hc => first | rfl | exact zcNum); (case hd => rfl); (case hg => rfl); (case hr => first | (go_simp; done) | (go_simp; rfl)); intro gN w4 hO_; have n0_ : Aside0 (Own w w4 [(gA, a, true), (gB, b, false), (gR, 0, false), (gN, 0, false)]) := ⟨hO_⟩; clear HO hO_; have HO := n0_; clear n0_) | ((with_reducible refine gate_dst (N := 8) rfl ?_); refine num_load ?hg (N := 8) ?hd (.tmp 2) ?ho HO.out 0 (g := gA) (m := a) (s := true) ?hi ?hx ?_; (case hd => rfl); (case hg => rfl); (case ho => rfl); (case hi => rfl); (case hx => rfl)) | ((with_reducible refine gate_dst (N := 6) rfl ?_); refine num_new ?hg (N := 6) ?hd (cs := Try.zeroCells84) HO.out 0 false ?hc ?hr ?_; (case hc => first | rfl | exact zcNum); (case hd => rfl); (case hg => rfl); (case hr => first | (go_simp; done) | (go_simp; rfl)); intro gX w5 hO_; have n0_ : Aside0 (Own w w5 [(gA, a, true), (gB, b, false), (gR, 0, false), (gN, 0, false), (gX, 0, false)]) := ⟨hO_⟩; clear HO hO_; have HO := n0_; clear n0_) | ((with_reducible refine gate_store (t := 84) (p := 6) (v := .tmp 8) rfl ?_); refine num_store ?hg (.tmp 6) (.tmp 8) ?ho HO.out 4 (g := gX) (m := 0) (s := false) (m' := a) (s' := true) ?hi ?hx ?hy ?_; (case hg => rfl); (case ho => rfl); (case hi => rfl); (case hx => rfl); (case hy => rfl); intro w6 hO_; have n0_ : Aside0 (Own w w6 [(gA, a, true), (gB, b, false), (gR, 0, false), (gN, 0, false), (gX, a, true)]) := ⟨hO_⟩; clear HO hO_; have HO := n0_; clear n0_))
    go_loopg [7] 64 (fun kq v7 wr => ∃ k : Nat, v7 = .int .i64 k ∧ Aside0 (k + kq = 64) ∧ Aside0 (Own w wr [(gA, a, true), (gB, b, false), (gR, 0, false), (gN, (a * (b % 2 ^ k)), false), (gX, (a * 2 ^ k), true)]))
    case atStart => exact ⟨0, rfl, ⟨rfl⟩, ⟨by have h := HO.out; simp only [Nat.pow_zero, Nat.mod_one, Nat.mul_zero, Nat.mul_one]; exact h⟩⟩
    case round =>
      clear HO
      obtain ⟨k, rfl, HK, HO⟩ := hrel
      by_cases hk : k < 64
      · have hd : decide ((k : Int) < 64) = true := decide_eq_true (by omega)
        have zb_ := HO.out.cell 1 k rfl (by omega)
        have HE2 := Aside0.mk (show 2 * (a * 2 ^ k) = a * 2 ^ (k + 1) by rw [Nat.pow_succ, Nat.mul_left_comm, Nat.mul_comm 2])
        have hm := Nat.mod_pow_succ (b := 2) (k := k) (x := b)
        have ht := tb_div b k
        rw [← ht] at hm
        cases hxb : b.testBit k
        case true =>
          rw [hxb] at zb_ hm
          have HE1 := Aside0.mk (show a * (b % 2 ^ k) + a * 2 ^ k = a * (b % 2 ^ (k + 1)) by rw [hm, ← Nat.mul_add]; simp)
          clear hxb hm ht
          go_wp2_with (first | ((with_reducible refine gate_dst (N := 17) rfl ?_); refine num_load ?hg (N := 17) ?hd (.tmp 5) ?ho HO.out 3 (g := gN) (m := (a * (b % 2 ^ k))) (s := false) ?hi ?hx ?_; (case hd => rfl); (case hg => rfl); (case ho => rfl); (case hi => rfl); (case hx => rfl)) | ((with_reducible refine gate_dst (N := 18) rfl ?_); refine num_load ?hg (N := 18) ?hd (.tmp 6) ?ho HO.out 4 (g := gX) (m := (a * 2 ^ k)) (s := true) ?hi ?hx ?_; (case hd => rfl); (case hg => rfl); (case ho => rfl); (case hi => rfl); (case hx => rfl)) | (go_at_call 66; (with_reducible refine (num_more _ _ _ _ _).mono ?_); rintro e_ w7 ⟨rfl, hb_⟩; have n0_ : Aside0 (Own w w7 [(gA, a, true), (gB, b, false), (gR, 0, false), (gN, (a * (b % 2 ^ k)), false), (gX, (a * 2 ^ k), true)]) := ⟨HO.out.call hb_⟩; clear zb_ HO hb_; have HO := n0_; clear n0_) | ((with_reducible refine gate_store (t := 84) (p := 5) (v := .tmp 19) rfl ?_); refine num_store ?hg (.tmp 5) (.tmp 19) ?ho HO.out 3 (g := gN) (m := (a * (b % 2 ^ k))) (s := false) (m' := (a * (b % 2 ^ k) + a * 2 ^ k)) (s' := false) ?hi ?hx ?hy ?_; (case hg => rfl); (case ho => rfl); (case hi => rfl); (case hx => rfl); (case hy => rfl); intro w8 hO_; have n0_ : Aside0 (Own w w8 [(gA, a, true), (gB, b, false), (gR, 0, false), (gN, (a * (b % 2 ^ k) + a * 2 ^ k), false), (gX, (a * 2 ^ k), true)]) := ⟨hO_⟩; clear HO hO_; have HO := n0_; clear n0_) | ((with_reducible refine gate_dst (N := 20) rfl ?_); refine num_load ?hg (N := 20) ?hd (.tmp 6) ?ho HO.out 4 (g := gX) (m := (a * 2 ^ k)) (s := true) ?hi ?hx ?_; (case hd => rfl); (case hg => rfl); (case ho => rfl); (case hi => rfl); (case hx => rfl)) | (go_at_call 64; (with_reducible refine (num_twice _ _ _).mono ?_); rintro e_ w9 ⟨rfl, hb_⟩; have n0_ : Aside0 (Own w w9 [(gA, a, true), (gB, b, false), (gR, 0, false), (gN, (a * (b % 2 ^ k) + a * 2 ^ k), false), (gX, (a * 2 ^ k), true)]) := ⟨HO.out.call hb_⟩; clear HO hb_; have HO := n0_; clear n0_) | ((with_reducible refine gate_store (t := 84) (p := 6) (v := .tmp 21) rfl ?_); refine num_store ?hg (.tmp 6) (.tmp 21) ?ho HO.out 4 (g := gX) (m := (a * 2 ^ k)) (s := true) (m' := (2 * (a * 2 ^ k))) (s' := true) ?hi ?hx ?hy ?_; (case hg => rfl); (case ho => rfl); (case hi => rfl); (case hx => rfl); (case hy => rfl); intro w10 hO_; have n0_ : Aside0 (Own w w10 [(gA, a, true), (gB, b, false), (gR, 0, false), (gN, (a * (b % 2 ^ k) + a * 2 ^ k), false), (gX, (2 * (a * 2 ^ k)), true)]) := ⟨hO_⟩; clear HO hO_; have HO := n0_; clear n0_))
          go_roundg (gk - 1)
          case measure => have := HK.out; omega
          case rel => exact ⟨k + 1, by go_num, ⟨by have := HK.out; omega⟩, ⟨by have h := HO.out; rw [HE1.out, HE2.out] at h; exact h⟩⟩
        case false =>
          rw [hxb] at zb_ hm
          have HE1 := Aside0.mk (show a * (b % 2 ^ k) = a * (b % 2 ^ (k + 1)) by rw [hm]; simp)
          clear hxb hm ht
          go_wp2_with (first | ((with_reducible refine gate_dst (N := 20) rfl ?_); refine num_load ?hg (N := 20) ?hd (.tmp 6) ?ho HO.out 4 (g := gX) (m := (a * 2 ^ k)) (s := true) ?hi ?hx ?_; (case hd => rfl); (case hg => rfl); (case ho => rfl); (case hi => rfl); (case hx => rfl)) | (go_at_call 64; (with_reducible refine (num_twice _ _ _).mono ?_); rintro e_ w9 ⟨rfl, hb_⟩; have n0_ : Aside0 (Own w w9 [(gA, a, true), (gB, b, false), (gR, 0, false), (gN, (a * (b % 2 ^ k)), false), (gX, (a * 2 ^ k), true)]) := ⟨HO.out.call hb_⟩; clear HO hb_; have HO := n0_; clear n0_) | ((with_reducible refine gate_store (t := 84) (p := 6) (v := .tmp 21) rfl ?_); refine num_store ?hg (.tmp 6) (.tmp 21) ?ho HO.out 4 (g := gX) (m := (a * 2 ^ k)) (s := true) (m' := (2 * (a * 2 ^ k))) (s' := true) ?hi ?hx ?hy ?_; (case hg => rfl); (case ho => rfl); (case hi => rfl); (case hx => rfl); (case hy => rfl); intro w10 hO_; have n0_ : Aside0 (Own w w10 [(gA, a, true), (gB, b, false), (gR, 0, false), (gN, (a * (b % 2 ^ k)), false), (gX, (2 * (a * 2 ^ k)), true)]) := ⟨hO_⟩; clear HO hO_; have HO := n0_; clear n0_))
          go_roundg (gk - 1)
          case measure => have := HK.out; omega
          case rel => exact ⟨k + 1, by go_num, ⟨by have := HK.out; omega⟩, ⟨by have h := HO.out; rw [HE1.out, HE2.out] at h; exact h⟩⟩
      · have hd : decide ((k : Int) < 64) = false := decide_eq_false (by omega)
        have hk64 : k = 64 := by have := HK.out; omega
        have HE := Aside0.mk (show a * (b % 2 ^ k) = a * b by rw [hk64, Nat.mod_eq_of_lt HB64.out])
        clear hk64
        obtain ⟨X, hX⟩ : ∃ X, a * 2 ^ k = X := ⟨_, rfl⟩
        have n0_ : Aside0 (Own w wr [(gA, a, true), (gB, b, false), (gR, 0, false), (gN, P, false), (gX, X, true)]) := ⟨by have h := HO.out; rw [HE.out, hX, HP.out] at h; exact h⟩
        clear HO; have HO := n0_; clear n0_
        clear hX HE
        have z0_ := HO.out.neg 0 rfl
        have z1_ := HO.out.neg 1 rfl
        have zn_ := HO.out.neg 3 rfl
        have zf_ := HO.out.free 3 136 rfl
        go_upto_region 10 with (first | ((with_reducible refine gate_dst (N := 28) rfl ?_); (refine gate_guard (by rfl) ?_; dsimp only); refine num_load ?hg (N := 28) ?hd (.tmp 5) ?ho HO.out 3 (g := gN) (m := P) (s := false) ?hi ?hx ?_; (case hd => rfl); (case hg => rfl); (case ho => rfl); (case hi => rfl); (case hx => rfl)) | (go_at_call 63; (with_reducible refine (HN.out _).mono ?_); rintro e_ w11 ⟨rfl, hb_⟩; clear z0_ z1_ zn_ zf_; have n0_ : Aside0 (Own w w11 [(gA, a, true), (gB, b, false), (gR, 0, false), (gN, P, false), (gX, X, true)]) := ⟨HO.out.call hb_⟩; clear HO hb_; have HO := n0_; clear n0_; have z0_ := HO.out.neg 0 rfl; have z1_ := HO.out.neg 1 rfl; have zn_ := HO.out.neg 3 rfl; have zf_ := HO.out.free 3 136 rfl))
        refine num_abs (w0 := w) (l := [(gA, a, true), (gB, b, false), (gR, 0, false), (gN, P, (!z)), (gX, X, true)]) (HO.out.sign 3 rfl _) ?_
        intro w12 hO_
        clear HO
        have HO := Aside0.mk hO_
        clear hO_
        clear z0_ z1_ zn_ zf_
        go_wp2_with (first | ((with_reducible refine gate_dst (N := 33) rfl ?_); refine num_load ?hg (N := 33) ?hd (.tmp 5) ?ho HO.out 3 (g := gN) (m := P) (s := (!z)) ?hi ?hx ?_; (case hd => rfl); (case hg => rfl); (case ho => rfl); (case hi => rfl); (case hx => rfl)) | ((with_reducible refine gate_store (t := 84) (p := 4) (v := .tmp 33) rfl ?_); refine num_store ?hg (.tmp 4) (.tmp 33) ?ho HO.out 2 (g := gR) (m := 0) (s := false) (m' := P) (s' := (!z)) ?hi ?hx ?hy ?_; (case hg => rfl); (case ho => rfl); (case hi => rfl); (case hx => rfl); (case hy => rfl); intro w13 hO_; have n0_ : Aside0 (Own w w13 [(gA, a, true), (gB, b, false), (gR, P, (!z)), (gN, P, (!z)), (gX, X, true)]) := ⟨hO_⟩; clear HO hO_; have HO := n0_; clear n0_))
        exact bodyPost_ret (num_result rfl HO.out 2 rfl _ rfl) rfl ⟨by first | rfl | simp, HO.out.below⟩
  case true.true =>
    go_enter Try.func55, Try.ntmps55
    go_wp2_with (first | ((with_reducible refine gate_dst (N := 2) rfl ?_); refine num_new ?hg (N := 2) ?hd (cs := numC a true) HO.out a true ?hc ?hr ?_; (case hc => first | rfl | exact zcNum); (case hd => rfl); (case hg => rfl); (case hr => first | (go_simp; done) | (go_simp; rfl)); intro gA w1 hO_; have n0_ : Aside0 (Own w w1 [(gA, a, true)]) := ⟨hO_⟩; clear HO hO_; have HO := n0_; clear n0_) | ((with_reducible refine gate_dst (N := 3) rfl ?_); refine num_new ?hg (N := 3) ?hd (cs := numC b true) HO.out b true ?hc ?hr ?_; (case hc => first | rfl | exact zcNum); (case hd => rfl); (case hg => rfl); (case hr => first | (go_simp; done) | (go_simp; rfl)); intro gB w2 hO_; have n0_ : Aside0 (Own w w2 [(gA, a, true), (gB, b, true)]) := ⟨hO_⟩; clear HO hO_; have HO := n0_; clear n0_) | ((with_reducible refine gate_dst (N := 4) rfl ?_); refine num_new ?hg (N := 4) ?hd (cs := Try.zeroCells84) HO.out 0 false ?hc ?hr ?_; (case hc => first | rfl | exact zcNum); (case hd => rfl); (case hg => rfl); (case hr => first | (go_simp; done) | (go_simp; rfl)); intro gR w3 hO_; have n0_ : Aside0 (Own w w3 [(gA, a, true), (gB, b, true), (gR, 0, false)]) := ⟨hO_⟩; clear HO hO_; have HO := n0_; clear n0_) | ((with_reducible refine gate_dst (N := 5) rfl ?_); refine num_new ?hg (N := 5) ?hd (cs := Try.zeroCells84) HO.out 0 false ?hc ?hr ?_; (case hc => first | rfl | exact zcNum); (case hd => rfl); (case hg => rfl); (case hr => first | (go_simp; done) | (go_simp; rfl)); intro gN w4 hO_; have n0_ : Aside0 (Own w w4 [(gA, a, true), (gB, b, true), (gR, 0, false), (gN, 0, false)]) := ⟨hO_⟩; clear HO hO_; have HO := n0_; clear n0_) | ((with_reducible refine gate_dst (N := 8) rfl ?_); refine num_load ?hg (N := 8) ?hd (.tmp 2) ?ho HO.out 0 (g := gA) (m := a) (s := true) ?hi ?hx ?_; (case hd => rfl); (case hg => rfl); (case ho => rfl); (case hi => rfl); (case hx => rfl)) | ((with_reducible refine gate_dst (N := 6) rfl ?_); refine num_new ?hg (N := 6) ?hd (cs := Try.zeroCells84) HO.out 0 false ?hc ?hr ?_; (case hc => first | rfl | exact zcNum); (case hd => rfl); (case hg => rfl); (case hr => first | (go_simp; done) | (go_simp; rfl)); intro gX w5 hO_; have n0_ : Aside0 (Own w w5 [(gA, a, true), (gB, b, true), (gR, 0, false), (gN, 0, false), (gX, 0, false)]) := ⟨hO_⟩; clear HO hO_; have HO := n0_; clear n0_) | ((with_reducible refine gate_store (t := 84) (p := 6) (v := .tmp 8) rfl ?_); refine num_store ?hg (.tmp 6) (.tmp 8) ?ho HO.out 4 (g := gX) (m := 0) (s := false) (m' := a) (s' := true) ?hi ?hx ?hy ?_; (case hg => rfl); (case ho => rfl); (case hi => rfl); (case hx => rfl); (case hy => rfl); intro w6 hO_; have n0_ : Aside0 (Own w w6 [(gA, a, true), (gB, b, true), (gR, 0, false), (gN, 0, false), (gX, a, true)]) := ⟨hO_⟩; clear HO hO_; have HO := n0_; clear n0_))
    go_loopg [7] 64 (fun kq v7 wr => ∃ k : Nat, v7 = .int .i64 k ∧ Aside0 (k + kq = 64) ∧ Aside0 (Own w wr [(gA, a, true), (gB, b, true), (gR, 0, false), (gN, (a * (b % 2 ^ k)), false), (gX, (a * 2 ^ k), true)]))
    case atStart => exact ⟨0, rfl, ⟨rfl⟩, ⟨by have h := HO.out; simp only [Nat.pow_zero, Nat.mod_one, Nat.mul_zero, Nat.mul_one]; exact h⟩⟩
    case round =>
      clear HO
      obtain ⟨k, rfl, HK, HO⟩ := hrel
      by_cases hk : k < 64
      · have hd : decide ((k : Int) < 64) = true := decide_eq_true (by omega)
        have zb_ := HO.out.cell 1 k rfl (by omega)
        have HE2 := Aside0.mk (show 2 * (a * 2 ^ k) = a * 2 ^ (k + 1) by rw [Nat.pow_succ, Nat.mul_left_comm, Nat.mul_comm 2])
        have hm := Nat.mod_pow_succ (b := 2) (k := k) (x := b)
        have ht := tb_div b k
        rw [← ht] at hm
        cases hxb : b.testBit k
        case true =>
          rw [hxb] at zb_ hm
          have HE1 := Aside0.mk (show a * (b % 2 ^ k) + a * 2 ^ k = a * (b % 2 ^ (k + 1)) by rw [hm, ← Nat.mul_add]; simp)
          clear hxb hm ht
          go_wp2_with (first | ((with_reducible refine gate_dst (N := 17) rfl ?_); refine num_load ?hg (N := 17) ?hd (.tmp 5) ?ho HO.out 3 (g := gN) (m := (a * (b % 2 ^ k))) (s := false) ?hi ?hx ?_; (case hd => rfl); (case hg => rfl); (case ho => rfl); (case hi => rfl); (case hx => rfl)) | ((with_reducible refine gate_dst (N := 18) rfl ?_); refine num_load ?hg (N := 18) ?hd (.tmp 6) ?ho HO.out 4 (g := gX) (m := (a * 2 ^ k)) (s := true) ?hi ?hx ?_; (case hd => rfl); (case hg => rfl); (case ho => rfl); (case hi => rfl); (case hx => rfl)) | (go_at_call 66; (with_reducible refine (num_more _ _ _ _ _).mono ?_); rintro e_ w7 ⟨rfl, hb_⟩; have n0_ : Aside0 (Own w w7 [(gA, a, true), (gB, b, true), (gR, 0, false), (gN, (a * (b % 2 ^ k)), false), (gX, (a * 2 ^ k), true)]) := ⟨HO.out.call hb_⟩; clear zb_ HO hb_; have HO := n0_; clear n0_) | ((with_reducible refine gate_store (t := 84) (p := 5) (v := .tmp 19) rfl ?_); refine num_store ?hg (.tmp 5) (.tmp 19) ?ho HO.out 3 (g := gN) (m := (a * (b % 2 ^ k))) (s := false) (m' := (a * (b % 2 ^ k) + a * 2 ^ k)) (s' := false) ?hi ?hx ?hy ?_; (case hg => rfl); (case ho => rfl); (case hi => rfl); (case hx => rfl); (case hy => rfl); intro w8 hO_; have n0_ : Aside0 (Own w w8 [(gA, a, true), (gB, b, true), (gR, 0, false), (gN, (a * (b % 2 ^ k) + a * 2 ^ k), false), (gX, (a * 2 ^ k), true)]) := ⟨hO_⟩; clear HO hO_; have HO := n0_; clear n0_) | ((with_reducible refine gate_dst (N := 20) rfl ?_); refine num_load ?hg (N := 20) ?hd (.tmp 6) ?ho HO.out 4 (g := gX) (m := (a * 2 ^ k)) (s := true) ?hi ?hx ?_; (case hd => rfl); (case hg => rfl); (case ho => rfl); (case hi => rfl); (case hx => rfl)) | (go_at_call 64; (with_reducible refine (num_twice _ _ _).mono ?_); rintro e_ w9 ⟨rfl, hb_⟩; have n0_ : Aside0 (Own w w9 [(gA, a, true), (gB, b, true), (gR, 0, false), (gN, (a * (b % 2 ^ k) + a * 2 ^ k), false), (gX, (a * 2 ^ k), true)]) := ⟨HO.out.call hb_⟩; clear HO hb_; have HO := n0_; clear n0_) | ((with_reducible refine gate_store (t := 84) (p := 6) (v := .tmp 21) rfl ?_); refine num_store ?hg (.tmp 6) (.tmp 21) ?ho HO.out 4 (g := gX) (m := (a * 2 ^ k)) (s := true) (m' := (2 * (a * 2 ^ k))) (s' := true) ?hi ?hx ?hy ?_; (case hg => rfl); (case ho => rfl); (case hi => rfl); (case hx => rfl); (case hy => rfl); intro w10 hO_; have n0_ : Aside0 (Own w w10 [(gA, a, true), (gB, b, true), (gR, 0, false), (gN, (a * (b % 2 ^ k) + a * 2 ^ k), false), (gX, (2 * (a * 2 ^ k)), true)]) := ⟨hO_⟩; clear HO hO_; have HO := n0_; clear n0_))
          go_roundg (gk - 1)
          case measure => have := HK.out; omega
          case rel => exact ⟨k + 1, by go_num, ⟨by have := HK.out; omega⟩, ⟨by have h := HO.out; rw [HE1.out, HE2.out] at h; exact h⟩⟩
        case false =>
          rw [hxb] at zb_ hm
          have HE1 := Aside0.mk (show a * (b % 2 ^ k) = a * (b % 2 ^ (k + 1)) by rw [hm]; simp)
          clear hxb hm ht
          go_wp2_with (first | ((with_reducible refine gate_dst (N := 20) rfl ?_); refine num_load ?hg (N := 20) ?hd (.tmp 6) ?ho HO.out 4 (g := gX) (m := (a * 2 ^ k)) (s := true) ?hi ?hx ?_; (case hd => rfl); (case hg => rfl); (case ho => rfl); (case hi => rfl); (case hx => rfl)) | (go_at_call 64; (with_reducible refine (num_twice _ _ _).mono ?_); rintro e_ w9 ⟨rfl, hb_⟩; have n0_ : Aside0 (Own w w9 [(gA, a, true), (gB, b, true), (gR, 0, false), (gN, (a * (b % 2 ^ k)), false), (gX, (a * 2 ^ k), true)]) := ⟨HO.out.call hb_⟩; clear HO hb_; have HO := n0_; clear n0_) | ((with_reducible refine gate_store (t := 84) (p := 6) (v := .tmp 21) rfl ?_); refine num_store ?hg (.tmp 6) (.tmp 21) ?ho HO.out 4 (g := gX) (m := (a * 2 ^ k)) (s := true) (m' := (2 * (a * 2 ^ k))) (s' := true) ?hi ?hx ?hy ?_; (case hg => rfl); (case ho => rfl); (case hi => rfl); (case hx => rfl); (case hy => rfl); intro w10 hO_; have n0_ : Aside0 (Own w w10 [(gA, a, true), (gB, b, true), (gR, 0, false), (gN, (a * (b % 2 ^ k)), false), (gX, (2 * (a * 2 ^ k)), true)]) := ⟨hO_⟩; clear HO hO_; have HO := n0_; clear n0_))
          go_roundg (gk - 1)
          case measure => have := HK.out; omega
          case rel => exact ⟨k + 1, by go_num, ⟨by have := HK.out; omega⟩, ⟨by have h := HO.out; rw [HE1.out, HE2.out] at h; exact h⟩⟩
      · have hd : decide ((k : Int) < 64) = false := decide_eq_false (by omega)
        have hk64 : k = 64 := by have := HK.out; omega
        have HE := Aside0.mk (show a * (b % 2 ^ k) = a * b by rw [hk64, Nat.mod_eq_of_lt HB64.out])
        clear hk64
        obtain ⟨X, hX⟩ : ∃ X, a * 2 ^ k = X := ⟨_, rfl⟩
        have n0_ : Aside0 (Own w wr [(gA, a, true), (gB, b, true), (gR, 0, false), (gN, P, false), (gX, X, true)]) := ⟨by have h := HO.out; rw [HE.out, hX, HP.out] at h; exact h⟩
        clear HO; have HO := n0_; clear n0_
        clear hX HE
        have z0_ := HO.out.neg 0 rfl
        have z1_ := HO.out.neg 1 rfl
        have zn_ := HO.out.neg 3 rfl
        have zf_ := HO.out.free 3 136 rfl
        go_upto_region 10 with (first | ((with_reducible refine gate_dst (N := 28) rfl ?_); (refine gate_guard (by rfl) ?_; dsimp only); refine num_load ?hg (N := 28) ?hd (.tmp 5) ?ho HO.out 3 (g := gN) (m := P) (s := false) ?hi ?hx ?_; (case hd => rfl); (case hg => rfl); (case ho => rfl); (case hi => rfl); (case hx => rfl)) | (go_at_call 63; (with_reducible refine (HN.out _).mono ?_); rintro e_ w11 ⟨rfl, hb_⟩; clear z0_ z1_ zn_ zf_; have n0_ : Aside0 (Own w w11 [(gA, a, true), (gB, b, true), (gR, 0, false), (gN, P, false), (gX, X, true)]) := ⟨HO.out.call hb_⟩; clear HO hb_; have HO := n0_; clear n0_; have z0_ := HO.out.neg 0 rfl; have z1_ := HO.out.neg 1 rfl; have zn_ := HO.out.neg 3 rfl; have zf_ := HO.out.free 3 136 rfl))
        refine num_abs (w0 := w) (l := [(gA, a, true), (gB, b, true), (gR, 0, false), (gN, P, false), (gX, X, true)]) (HO.out.sign 3 rfl _) ?_
        intro w12 hO_
        clear HO
        have HO := Aside0.mk hO_
        clear hO_
        clear z0_ z1_ zn_ zf_
        go_wp2_with (first | ((with_reducible refine gate_dst (N := 33) rfl ?_); refine num_load ?hg (N := 33) ?hd (.tmp 5) ?ho HO.out 3 (g := gN) (m := P) (s := false) ?hi ?hx ?_; (case hd => rfl); (case hg => rfl); (case ho => rfl); (case hi => rfl); (case hx => rfl)) | ((with_reducible refine gate_store (t := 84) (p := 4) (v := .tmp 33) rfl ?_); refine num_store ?hg (.tmp 4) (.tmp 33) ?ho HO.out 2 (g := gR) (m := 0) (s := false) (m' := P) (s' := false) ?hi ?hx ?hy ?_; (case hg => rfl); (case ho => rfl); (case hi => rfl); (case hx => rfl); (case hy => rfl); intro w13 hO_; have n0_ : Aside0 (Own w w13 [(gA, a, true), (gB, b, true), (gR, P, false), (gN, P, false), (gX, X, true)]) := ⟨hO_⟩; clear HO hO_; have HO := n0_; clear n0_))
        exact bodyPost_ret (num_result rfl HO.out 2 rfl _ rfl) rfl ⟨by first | rfl | simp, HO.out.below⟩

/-! ### jobberref01_Of: function 56 (by hand; for other hand texts alone) -/
theorem of_step {y V k : Nat} (x : Nat) (h : Upto V x k) (hy : y = x / 2 ^ k) : Upto (setb V k (decide (y % 2 = 1))) x (k + 1) := h.step (by rw [hy, Nat.testBit_eq_decide_div_mod_eq])
theorem abs_rng {x : Int} (h0 : -9223372036854775808 ≤ x) (h1 : x ≤ 9223372036854775807) : x.natAbs < 2 ^ 64 := by omega
theorem abs_bits {x k : Nat} (hx : x < 2 ^ 64) (h : 64 ≤ k) : x.testBit k = false := Nat.testBit_lt_two_pow (Nat.lt_of_lt_of_le hx (Nat.pow_le_pow_right (by decide) h))
set_option maxHeartbeats 8000000 in
set_option maxRecDepth 100000 in
theorem num_of (x : Int) (h0 : -9223372036854775808 ≤ x) (h1 : x ≤ 9223372036854775807) (w : World) :
    Calls Try.prog 56 #[.int .i64 x] w fun e w' => e = .returned (.agg (numC x.natAbs (decide (x < 0)))) ∧ Below w.heap.size w w' := by
  have HO : Aside0 (Own w w []) := ⟨Own.start w⟩
  have HX := Aside0.mk (abs_rng h0 h1)
  obtain ⟨u, hu⟩ : ∃ u : Nat, x.natAbs = u := ⟨_, rfl⟩
  have hs : (x < 0 ∧ IntKind.u64.wrap (IntKind.u64.wrap (18446744073709551615 - IntKind.u64.wrap x) + 1) = (u : Int)) ∨ (¬ x < 0 ∧ IntKind.u64.wrap x = (u : Int)) := by
    have e : ∀ z : Int, IntKind.u64.wrap z = z % 18446744073709551616 := fun _ => rfl
    by_cases c : x < 0
    · refine .inl ⟨c, ?_⟩
      rw [e, e, e]
      omega
    · exact .inr ⟨c, by rw [e]; omega⟩
  rw [hu] at HX ⊢
  clear h0 h1 hu
  rcases hs with ⟨c, hv⟩ | ⟨c, hv⟩
  · have d : decide (x < 0) = true := decide_eq_true c
    rw [d]
    have HV := Aside0.mk hv
    clear c hv
    go_enter Try.func56, Try.ntmps56
    go_upto_region 3 with (first | ((with_reducible refine gate_dst (N := 2) rfl ?_); refine num_new ?hg (N := 2) ?hd (cs := Try.zeroCells84) HO.out 0 false ?hc ?hr ?_; (case hc => first | rfl | exact zcNum); (case hd => rfl); (case hg => rfl); (case hr => first | (go_simp; done) | (go_simp; rfl)); intro gR w1 hO_; have n0_ : Aside0 (Own w w1 [(gR, 0, false)]) := ⟨hO_⟩; clear HO hO_; have HO := n0_; clear n0_) | ((with_reducible refine gate_dst (N := 3) rfl ?_); refine num_new ?hg (N := 3) ?hd (cs := Try.zeroCells84) HO.out 0 false ?hc ?hr ?_; (case hc => first | rfl | exact zcNum); (case hd => rfl); (case hg => rfl); (case hr => first | (go_simp; done) | (go_simp; rfl)); intro gN w2 hO_; have n0_ : Aside0 (Own w w2 [(gR, 0, false), (gN, 0, false)]) := ⟨hO_⟩; clear HO hO_; have HO := n0_; clear n0_; have z_ := HO.out.neg 1 rfl; have zf_ := HO.out.free 1 136 rfl))
    refine num_abs (w0 := w) (l := [(gR, 0, false), (gN, 0, true)]) (HO.out.sign 1 rfl _) ?_
    intro w3 hO_
    clear HO
    have HO := Aside0.mk hO_
    clear hO_
    clear z_ zf_
    have z_ := HO.out.neg 1 rfl
    go_wp2
    go_loopg [4, 5] 64 (fun kq v4 v5 wr => ∃ (k y V : Nat), v5 = .int .i64 k ∧ v4 = .int .u64 y ∧ Aside0 (k + kq = 64) ∧ Aside0 (y = u / 2 ^ k) ∧ Aside0 (Upto V u k) ∧ Aside0 (Own w wr [(gR, 0, false), (gN, V, true)]))
    case atStart => exact ⟨0, u, 0, rfl, by congr 1; exact HV.out, ⟨rfl⟩, ⟨by simp⟩, ⟨Upto.zero _⟩, HO⟩
    case round =>
      clear HO z_
      obtain ⟨k, y, V, rfl, rfl, HK, HY, HVV, HO⟩ := hrel
      have HYB : Aside0 (y < 2 ^ 64) := ⟨by rw [HY.out]; exact Nat.lt_of_le_of_lt (Nat.div_le_self _ _) HX.out⟩
      by_cases hk : k < 64
      · have hd : decide ((k : Int) < 64) = true := decide_eq_true (by omega)
        have hk2 : k < 136 := by omega
        have zc_ := HO.out.cell 1 k rfl hk2
        have zf_ := HO.out.free 1 k rfl
        have HK2 := Aside0.mk hk2
        have hw2 := Aside0.mk (show IntKind.u64.wrap ((y : Int) / 2) = ((y / 2 : Nat) : Int) by
          have e : IntKind.u64.wrap ((y : Int) / 2) = ((y : Int) / 2) % 18446744073709551616 := rfl
          have := HYB.out
          omega)
        have hy2 := Aside0.mk (show y / 2 = u / 2 ^ (k + 1) by rw [HY.out, Nat.pow_succ, Nat.div_div_eq_div_mul])
        have HST := Aside0.mk (of_step u HVV.out HY.out)
        clear hk2
        cases hb : decide (y % 2 = 1)
        all_goals
          have hq : ((y : Int) % 2 == 1) = decide (y % 2 = 1) := by rw [Bool.eq_iff_iff]; simp; omega
          rw [hb] at hq HST
          clear hb
          go_wp2
          go_roundg (gk - 1)
          case measure => have := HK.out; omega
          case rel => exact ⟨k + 1, y / 2, _, by go_num, by first | rfl | (rw [hw2.out]), ⟨by have := HK.out; omega⟩, hy2, HST, ⟨HO.out.bit 1 k rfl HK2.out _⟩⟩
      · have hd : decide ((k : Int) < 64) = false := decide_eq_false (by omega)
        have HEQ : Aside0 (numC V true = numC u true) := ⟨numC_congr fun j hj => by
          rw [HVV.out j hj]
          by_cases c : j < k
          · rw [if_pos c]
          · rw [if_neg c, abs_bits HX.out (by omega)]⟩
        go_wp2_with (first | ((with_reducible refine gate_dst (N := 28) rfl ?_); refine num_load ?hg (N := 28) ?hd (.tmp 3) ?ho HO.out 1 (g := gN) (m := V) (s := true) ?hi ?hx ?_; (case hd => rfl); (case hg => rfl); (case ho => rfl); (case hi => rfl); (case hx => rfl)) | ((with_reducible refine gate_store (t := 84) (p := 2) (v := .tmp 28) rfl ?_); refine num_store ?hg (.tmp 2) (.tmp 28) ?ho HO.out 0 (g := gR) (m := 0) (s := false) (m' := V) (s' := true) ?hi ?hx ?hy ?_; (case hg => rfl); (case ho => rfl); (case hi => rfl); (case hx => rfl); (case hy => rfl); intro w9 hO_; have n0_ : Aside0 (Own w w9 [(gR, V, true), (gN, V, true)]) := ⟨hO_⟩; clear HO hO_; have HO := n0_; clear n0_))
        exact bodyPost_ret (num_result rfl HO.out 0 rfl _ rfl) rfl ⟨by rw [HEQ.out], HO.out.below⟩
  · have d : decide (x < 0) = false := decide_eq_false c
    rw [d]
    have HV := Aside0.mk hv
    clear c hv
    go_enter Try.func56, Try.ntmps56
    go_upto_region 3 with (first | ((with_reducible refine gate_dst (N := 2) rfl ?_); refine num_new ?hg (N := 2) ?hd (cs := Try.zeroCells84) HO.out 0 false ?hc ?hr ?_; (case hc => first | rfl | exact zcNum); (case hd => rfl); (case hg => rfl); (case hr => first | (go_simp; done) | (go_simp; rfl)); intro gR w1 hO_; have n0_ : Aside0 (Own w w1 [(gR, 0, false)]) := ⟨hO_⟩; clear HO hO_; have HO := n0_; clear n0_) | ((with_reducible refine gate_dst (N := 3) rfl ?_); refine num_new ?hg (N := 3) ?hd (cs := Try.zeroCells84) HO.out 0 false ?hc ?hr ?_; (case hc => first | rfl | exact zcNum); (case hd => rfl); (case hg => rfl); (case hr => first | (go_simp; done) | (go_simp; rfl)); intro gN w2 hO_; have n0_ : Aside0 (Own w w2 [(gR, 0, false), (gN, 0, false)]) := ⟨hO_⟩; clear HO hO_; have HO := n0_; clear n0_; have z_ := HO.out.neg 1 rfl; have zf_ := HO.out.free 1 136 rfl))
    refine num_abs (w0 := w) (l := [(gR, 0, false), (gN, 0, false)]) (HO.out.sign 1 rfl _) ?_
    intro w3 hO_
    clear HO
    have HO := Aside0.mk hO_
    clear hO_
    clear z_ zf_
    have z_ := HO.out.neg 1 rfl
    go_wp2
    go_loopg [4, 5] 64 (fun kq v4 v5 wr => ∃ (k y V : Nat), v5 = .int .i64 k ∧ v4 = .int .u64 y ∧ Aside0 (k + kq = 64) ∧ Aside0 (y = u / 2 ^ k) ∧ Aside0 (Upto V u k) ∧ Aside0 (Own w wr [(gR, 0, false), (gN, V, false)]))
    case atStart => exact ⟨0, u, 0, rfl, by congr 1; exact HV.out, ⟨rfl⟩, ⟨by simp⟩, ⟨Upto.zero _⟩, HO⟩
    case round =>
      clear HO z_
      obtain ⟨k, y, V, rfl, rfl, HK, HY, HVV, HO⟩ := hrel
      have HYB : Aside0 (y < 2 ^ 64) := ⟨by rw [HY.out]; exact Nat.lt_of_le_of_lt (Nat.div_le_self _ _) HX.out⟩
      by_cases hk : k < 64
      · have hd : decide ((k : Int) < 64) = true := decide_eq_true (by omega)
        have hk2 : k < 136 := by omega
        have zc_ := HO.out.cell 1 k rfl hk2
        have zf_ := HO.out.free 1 k rfl
        have HK2 := Aside0.mk hk2
        have hw2 := Aside0.mk (show IntKind.u64.wrap ((y : Int) / 2) = ((y / 2 : Nat) : Int) by
          have e : IntKind.u64.wrap ((y : Int) / 2) = ((y : Int) / 2) % 18446744073709551616 := rfl
          have := HYB.out
          omega)
        have hy2 := Aside0.mk (show y / 2 = u / 2 ^ (k + 1) by rw [HY.out, Nat.pow_succ, Nat.div_div_eq_div_mul])
        have HST := Aside0.mk (of_step u HVV.out HY.out)
        clear hk2
        cases hb : decide (y % 2 = 1)
        all_goals
          have hq : ((y : Int) % 2 == 1) = decide (y % 2 = 1) := by rw [Bool.eq_iff_iff]; simp; omega
          rw [hb] at hq HST
          clear hb
          go_wp2
          go_roundg (gk - 1)
          case measure => have := HK.out; omega
          case rel => exact ⟨k + 1, y / 2, _, by go_num, by first | rfl | (rw [hw2.out]), ⟨by have := HK.out; omega⟩, hy2, HST, ⟨HO.out.bit 1 k rfl HK2.out _⟩⟩
      · have hd : decide ((k : Int) < 64) = false := decide_eq_false (by omega)
        have HEQ : Aside0 (numC V false = numC u false) := ⟨numC_congr fun j hj => by
          rw [HVV.out j hj]
          by_cases c : j < k
          · rw [if_pos c]
          · rw [if_neg c, abs_bits HX.out (by omega)]⟩
        go_wp2_with (first | ((with_reducible refine gate_dst (N := 28) rfl ?_); refine num_load ?hg (N := 28) ?hd (.tmp 3) ?ho HO.out 1 (g := gN) (m := V) (s := false) ?hi ?hx ?_; (case hd => rfl); (case hg => rfl); (case ho => rfl); (case hi => rfl); (case hx => rfl)) | ((with_reducible refine gate_store (t := 84) (p := 2) (v := .tmp 28) rfl ?_); refine num_store ?hg (.tmp 2) (.tmp 28) ?ho HO.out 0 (g := gR) (m := 0) (s := false) (m' := V) (s' := false) ?hi ?hx ?hy ?_; (case hg => rfl); (case ho => rfl); (case hi => rfl); (case hx => rfl); (case hy => rfl); intro w9 hO_; have n0_ : Aside0 (Own w w9 [(gR, V, false), (gN, V, false)]) := ⟨hO_⟩; clear HO hO_; have HO := n0_; clear n0_))
        exact bodyPost_ret (num_result rfl HO.out 0 rfl _ rfl) rfl ⟨by rw [HEQ.out], HO.out.below⟩

/-! ### jobberref01_Minus: function 57 (by hand; for other hand texts alone) -/
set_option maxHeartbeats 8000000 in
set_option maxRecDepth 100000 in
theorem num_minus (a : Nat) (ga : Bool) (ha : a < 2 ^ 136) (w : World) :
    Calls Try.prog 57 #[.agg (numC a ga)] w fun e w' => e = .returned (.agg (numC a (!ga && !decide (a = 0)))) ∧ Below w.heap.size w w' := by
  have HO : Aside0 (Own w w []) := ⟨Own.start w⟩
  have HN := Aside0.mk (fun g w => num_nought a g ha w)
  clear ha
  obtain ⟨z, hz⟩ : ∃ z, decide (a = 0) = z := ⟨_, rfl⟩
  rw [hz] at HN
  rw [hz]
  clear hz
  cases ga
  · go_enter Try.func57, Try.ntmps57
    go_upto_region 2 with (first | ((with_reducible refine gate_dst (N := 1) rfl ?_); refine num_new ?hg (N := 1) ?hd (cs := numC a false) HO.out a false ?hc ?hr ?_; (case hc => first | rfl | exact zcNum); (case hd => rfl); (case hg => rfl); (case hr => first | (go_simp; done) | (go_simp; rfl)); intro gA w1 hO_; have n0_ : Aside0 (Own w w1 [(gA, a, false)]) := ⟨hO_⟩; clear HO hO_; have HO := n0_; clear n0_) | ((with_reducible refine gate_dst (N := 2) rfl ?_); refine num_new ?hg (N := 2) ?hd (cs := Try.zeroCells84) HO.out 0 false ?hc ?hr ?_; (case hc => first | rfl | exact zcNum); (case hd => rfl); (case hg => rfl); (case hr => first | (go_simp; done) | (go_simp; rfl)); intro gR w2 hO_; have n0_ : Aside0 (Own w w2 [(gA, a, false), (gR, 0, false)]) := ⟨hO_⟩; clear HO hO_; have HO := n0_; clear n0_; have z_ := HO.out.neg 0 rfl; have zf_ := HO.out.free 0 136 rfl) | ((with_reducible refine gate_dst (N := 7) rfl ?_); (refine gate_guard (by rfl) ?_; dsimp only); refine num_load ?hg (N := 7) ?hd (.tmp 1) ?ho HO.out 0 (g := gA) (m := a) (s := false) ?hi ?hx ?_; (case hd => rfl); (case hg => rfl); (case ho => rfl); (case hi => rfl); (case hx => rfl)) | (go_at_call 63; (with_reducible refine (HN.out _ _).mono ?_); rintro e_ w5 ⟨rfl, hb_⟩; clear z_ zf_; have n0_ : Aside0 (Own w w5 [(gA, a, false), (gR, 0, false)]) := ⟨HO.out.call hb_⟩; clear HO hb_; have HO := n0_; clear n0_; have z_ := HO.out.neg 0 rfl; have zf_ := HO.out.free 0 136 rfl))
    refine num_abs (w0 := w) (l := [(gA, a, (!z)), (gR, 0, false)]) (HO.out.sign 0 rfl _) ?_
    intro w8 hO_
    clear HO
    have HO := Aside0.mk hO_
    clear hO_
    clear z_ zf_
    go_wp2_with (first | ((with_reducible refine gate_dst (N := 12) rfl ?_); refine num_load ?hg (N := 12) ?hd (.tmp 1) ?ho HO.out 0 (g := gA) (m := a) (s := (!z)) ?hi ?hx ?_; (case hd => rfl); (case hg => rfl); (case ho => rfl); (case hi => rfl); (case hx => rfl)) | ((with_reducible refine gate_store (t := 84) (p := 2) (v := .tmp 12) rfl ?_); refine num_store ?hg (.tmp 2) (.tmp 12) ?ho HO.out 1 (g := gR) (m := 0) (s := false) (m' := a) (s' := (!z)) ?hi ?hx ?hy ?_; (case hg => rfl); (case ho => rfl); (case hi => rfl); (case hx => rfl); (case hy => rfl); intro w9 hO_; have n0_ : Aside0 (Own w w9 [(gA, a, (!z)), (gR, a, (!z))]) := ⟨hO_⟩; clear HO hO_; have HO := n0_; clear n0_))
    exact bodyPost_ret (num_result rfl HO.out 1 rfl _ rfl) rfl ⟨by first | rfl | simp, HO.out.below⟩
  · go_enter Try.func57, Try.ntmps57
    go_upto_region 2 with (first | ((with_reducible refine gate_dst (N := 1) rfl ?_); refine num_new ?hg (N := 1) ?hd (cs := numC a true) HO.out a true ?hc ?hr ?_; (case hc => first | rfl | exact zcNum); (case hd => rfl); (case hg => rfl); (case hr => first | (go_simp; done) | (go_simp; rfl)); intro gA w1 hO_; have n0_ : Aside0 (Own w w1 [(gA, a, true)]) := ⟨hO_⟩; clear HO hO_; have HO := n0_; clear n0_) | ((with_reducible refine gate_dst (N := 2) rfl ?_); refine num_new ?hg (N := 2) ?hd (cs := Try.zeroCells84) HO.out 0 false ?hc ?hr ?_; (case hc => first | rfl | exact zcNum); (case hd => rfl); (case hg => rfl); (case hr => first | (go_simp; done) | (go_simp; rfl)); intro gR w2 hO_; have n0_ : Aside0 (Own w w2 [(gA, a, true), (gR, 0, false)]) := ⟨hO_⟩; clear HO hO_; have HO := n0_; clear n0_; have z_ := HO.out.neg 0 rfl; have zf_ := HO.out.free 0 136 rfl) | ((with_reducible refine gate_dst (N := 7) rfl ?_); (refine gate_guard (by rfl) ?_; dsimp only); refine num_load ?hg (N := 7) ?hd (.tmp 1) ?ho HO.out 0 (g := gA) (m := a) (s := true) ?hi ?hx ?_; (case hd => rfl); (case hg => rfl); (case ho => rfl); (case hi => rfl); (case hx => rfl)) | (go_at_call 63; (with_reducible refine (HN.out _ _).mono ?_); rintro e_ w5 ⟨rfl, hb_⟩; clear z_ zf_; have n0_ : Aside0 (Own w w5 [(gA, a, true), (gR, 0, false)]) := ⟨HO.out.call hb_⟩; clear HO hb_; have HO := n0_; clear n0_; have z_ := HO.out.neg 0 rfl; have zf_ := HO.out.free 0 136 rfl))
    refine num_abs (w0 := w) (l := [(gA, a, false), (gR, 0, false)]) (HO.out.sign 0 rfl _) ?_
    intro w8 hO_
    clear HO
    have HO := Aside0.mk hO_
    clear hO_
    clear z_ zf_
    go_wp2_with (first | ((with_reducible refine gate_dst (N := 12) rfl ?_); refine num_load ?hg (N := 12) ?hd (.tmp 1) ?ho HO.out 0 (g := gA) (m := a) (s := false) ?hi ?hx ?_; (case hd => rfl); (case hg => rfl); (case ho => rfl); (case hi => rfl); (case hx => rfl)) | ((with_reducible refine gate_store (t := 84) (p := 2) (v := .tmp 12) rfl ?_); refine num_store ?hg (.tmp 2) (.tmp 12) ?ho HO.out 1 (g := gR) (m := 0) (s := false) (m' := a) (s' := false) ?hi ?hx ?hy ?_; (case hg => rfl); (case ho => rfl); (case hi => rfl); (case hx => rfl); (case hy => rfl); intro w9 hO_; have n0_ : Aside0 (Own w w9 [(gA, a, false), (gR, a, false)]) := ⟨hO_⟩; clear HO hO_; have HO := n0_; clear n0_))
    exact bodyPost_ret (num_result rfl HO.out 1 rfl _ rfl) rfl ⟨by first | rfl | simp, HO.out.below⟩

/-! ### jobberref01_Back: function 71 (by hand; for other hand texts alone) -/
def Fits (v : Int) : Prop := -9223372036854775808 ≤ v ∧ v ≤ 9223372036854775807
def BackR (m : Nat) (s : Bool) (x : Int) (ok : Bool) : Prop := (ok = true → x = sv m s) ∧ (ok = true ↔ Fits (sv m s))
theorem back_big {m : Nat} {s : Bool} {k : Nat} (hk : 64 ≤ k) (hb : m.testBit k = true) : BackR m s 0 false := by
  have h1 : 2 ^ k ≤ m := Nat.ge_two_pow_of_testBit hb
  have h2 : (2 : Nat) ^ 64 ≤ 2 ^ k := Nat.pow_le_pow_right (by decide) hk
  refine ⟨fun h => (by cases h), ⟨fun h => (by cases h), fun h => ?_⟩⟩
  unfold Fits sv at h
  cases s <;> simp at h <;> omega
theorem back_step {m k : Nat} : m / 2 ^ k = 2 * (m / 2 ^ (k + 1)) + (if m.testBit k then 1 else 0) := by
  rw [tb_div, Nat.pow_succ, ← Nat.div_div_eq_div_mul]
  have := Nat.div_add_mod (m / 2 ^ k) 2
  omega
set_option maxHeartbeats 8000000 in
set_option maxRecDepth 100000 in
theorem num_back (m : Nat) (s : Bool) (hm : m < 2 ^ 136) (w : World) :
    Calls Try.prog 71 #[.agg (numC m s)] w fun e w' => ∃ x ok, e = .returned (.tuple #[.int .i64 x, .bool ok]) ∧ BackR m s x ok ∧ Below w.heap.size w w' := by
  have HO : Aside0 (Own w w []) := ⟨Own.start w⟩
  have HM := Aside0.mk hm
  clear hm
  go_enter Try.func71, Try.ntmps71
  go_wp2_with (first | ((with_reducible refine gate_dst (N := 1) rfl ?_); refine num_new ?hg (N := 1) ?hd (cs := numC m s) HO.out m s ?hc ?hr ?_; (case hc => first | rfl | exact zcNum); (case hd => rfl); (case hg => rfl); (case hr => first | (go_simp; done) | (go_simp; rfl)); intro gA w1 hO_; have n0_ : Aside0 (Own w w1 [(gA, m, s)]) := ⟨hO_⟩; clear HO hO_; have HO := n0_; clear n0_))
  go_loopg [4] 72 (fun kq v4 wr => ∃ k : Nat, v4 = .int .i64 k ∧ Aside0 (k + kq = 136 ∧ 64 ≤ k) ∧ Aside0 (∀ j, 64 ≤ j → j < k → m.testBit j = false) ∧ Aside0 (Own w wr [(gA, m, s)]))
  case atStart => exact ⟨64, rfl, ⟨by omega⟩, ⟨fun j h1 h2 => by omega⟩, HO⟩
  case round =>
    clear HO
    obtain ⟨k, rfl, HK, HA, HO⟩ := hrel
    by_cases hk : k < 136
    · have hd : decide ((k : Int) < 136) = true := decide_eq_true (by omega)
      have z_ := HO.out.cell 0 k rfl hk
      have HBG := Aside0.mk (fun h => back_big (m := m) (s := s) HK.out.2 h)
      have HST := Aside0.mk (fun (h : m.testBit k = false) => (fun j h1 h2 => by
        by_cases e : j = k
        · rw [e]; exact h
        · exact HA.out j h1 (by omega) : ∀ j, 64 ≤ j → j < k + 1 → m.testBit j = false))
      cases hx : m.testBit k
      · rw [hx] at z_
        have HS2 := Aside0.mk (HST.out hx)
        clear hx HST
        go_wp2
        go_roundg (gk - 1)
        case measure => have := HK.out; omega
        case rel => exact ⟨k + 1, by go_num, ⟨by have := HK.out; omega⟩, HS2, HO⟩
      · rw [hx] at z_
        have HB2 := Aside0.mk (HBG.out hx)
        clear hx HST HBG
        go_wp2
        go_ret2
        exact ⟨_, _, rfl, HB2.out, HO.out.below⟩
    · have hd : decide ((k : Int) < 136) = false := decide_eq_false (by omega)
      have HM64 : Aside0 (m < 2 ^ 64) := ⟨Nat.lt_pow_two_of_testBit m fun i hi => by
        by_cases c : i < 136
        · exact HA.out i hi (by omega)
        · exact Nat.testBit_lt_two_pow (Nat.lt_of_lt_of_le HM.out (Nat.pow_le_pow_right (by decide) (by omega)))⟩
      clear HA HK hk
      go_wp2
      go_loopg [5, 6] 64 (fun kq v5 v6 w2 => ∃ (i : Int) (y : Nat), v6 = .int .i64 i ∧ v5 = .int .u64 (y : Int) ∧ Aside0 (y = m / 2 ^ kq) ∧ Aside0 (i + 1 = kq ∧ kq ≤ 64) ∧ Aside0 (Own w w2 [(gA, m, s)]))
      case atStart => exact ⟨63, 0, rfl, rfl, ⟨(Nat.div_eq_of_lt HM64.out).symm⟩, ⟨by omega⟩, HO⟩
      case round =>
        clear HO
        obtain ⟨i, y, rfl, rfl, HY, HI, HO⟩ := hrel
        cases gk with
        | zero =>
          obtain rfl : i = -1 := by have := HI.out; omega
          obtain rfl : y = m := by have := HY.out; simpa using this
          have z_ := HO.out.neg 0 rfl
          have e : ∀ z : Int, IntKind.u64.wrap z = z % 18446744073709551616 := fun _ => rfl
          have hlt := HM64.out
          cases s with
          | true =>
            by_cases c : y > 9223372036854775808
            · have d : decide ((9223372036854775808 : Int) < (y : Int)) = true := decide_eq_true (by omega)
              have HR : Aside0 (BackR y true 0 false) := ⟨⟨fun h => (by cases h), ⟨fun h => (by cases h), fun h => (by unfold Fits sv at h; simp at h; omega)⟩⟩⟩
              clear e hlt c
              go_wp2
              go_ret2
              exact ⟨_, _, rfl, HR.out, HO.out.below⟩
            · have d : decide ((9223372036854775808 : Int) < (y : Int)) = false := decide_eq_false (by omega)
              have HR : Aside0 (∀ x, x = wrap64 (IntKind.u64.wrap (IntKind.u64.wrap (18446744073709551615 - (y : Int)) + 1)) → BackR y true x true) := ⟨fun x hx => ⟨fun _ => (by rw [hx, e, e]; unfold wrap64 sv; simp; omega), ⟨fun _ => (by unfold Fits sv; simp; omega), fun _ => rfl⟩⟩⟩
              clear e hlt c
              go_wp2
              go_ret2
              exact ⟨_, _, rfl, HR.out _ rfl, HO.out.below⟩
          | false =>
            by_cases c : y < 9223372036854775808
            · have d : decide ((y : Int) < (9223372036854775808 : Int)) = true := decide_eq_true (by omega)
              have HR : Aside0 (∀ x, x = wrap64 (y : Int) → BackR y false x true) := ⟨fun x hx => ⟨fun _ => (by rw [hx]; unfold wrap64 sv; simp; omega), ⟨fun _ => (by unfold Fits sv; simp; omega), fun _ => rfl⟩⟩⟩
              clear e hlt c
              go_wp2
              go_ret2
              exact ⟨_, _, rfl, HR.out _ rfl, HO.out.below⟩
            · have d : decide ((y : Int) < (9223372036854775808 : Int)) = false := decide_eq_false (by omega)
              have HR : Aside0 (∀ x, BackR y false x false) := ⟨fun x => ⟨fun h => (by cases h), ⟨fun h => (by cases h), fun h => (by unfold Fits sv at h; simp at h; omega)⟩⟩⟩
              clear e hlt c
              go_wp2
              go_ret2
              exact ⟨_, _, rfl, HR.out _, HO.out.below⟩
        | succ k =>
          obtain rfl : i = (k : Int) := by have := HI.out; omega
          have hd : decide ((0 : Int) ≤ (k : Int)) = true := decide_eq_true (by omega)
          have hd2 : (0 : Int) ≤ (k : Int) := by omega
          have hd3 : (k : Int) < 136 := by have := HI.out; omega
          have z_ := HO.out.cell 0 k rfl (by have := HI.out; omega)
          have hb := back_step (m := m) (k := k)
          have hyb : m / 2 ^ k < 2 ^ 64 := Nat.lt_of_le_of_lt (Nat.div_le_self _ _) HM64.out
          rw [← HY.out] at hb
          have e : ∀ z : Int, IntKind.u64.wrap z = z % 18446744073709551616 := fun _ => rfl
          cases hx : m.testBit k
          · rw [hx] at z_ hb
            simp at hb
            have hw := Aside0.mk (show IntKind.u64.wrap (2 * (y : Int)) = ((2 * y : Nat) : Int) by rw [e]; omega)
            have HYY := Aside0.mk hb.symm
            clear hx e hb hyb
            go_wp2
            go_roundg k
            case measure => omega
            case rel => exact ⟨(k : Int) - 1, 2 * y, by first | rfl | go_num, by first | rfl | (rw [hw.out]) | (congr 1; omega), HYY, ⟨by have := HI.out; omega⟩, HO⟩
          · rw [hx] at z_ hb
            simp at hb
            have hw := Aside0.mk (show IntKind.u64.wrap (IntKind.u64.wrap (2 * (y : Int)) + 1) = ((2 * y + 1 : Nat) : Int) by rw [e, e]; omega)
            have HYY := Aside0.mk hb.symm
            clear hx e hb hyb
            go_wp2
            go_roundg k
            case measure => omega
            case rel => exact ⟨(k : Int) - 1, 2 * y + 1, by first | rfl | go_num, by first | rfl | (rw [hw.out]) | (congr 1; omega), HYY, ⟨by have := HI.out; omega⟩, HO⟩

/-! ### jobberref01_told: function 67 (by hand; for other hand texts alone) -/
theorem sv_abs (x : Int) : sv x.natAbs (decide (x < 0)) = x := by
  unfold sv
  by_cases h : x < 0 <;> simp [h] <;> omega
theorem sv_minus (a : Nat) (g : Bool) : sv a (!g && !decide (a = 0)) = - sv a g := by
  unfold sv
  by_cases h : a = 0 <;> cases g <;> simp [h]
theorem sv_times (a b : Nat) (ga gb : Bool) : sv (a * b) ((ga != gb) && !decide (a * b = 0)) = sv a ga * sv b gb := by
  have hz : ∀ n : Nat, sv n (!decide (n = 0)) = -(n : Int) := sv_nz
  have hf : ∀ n : Nat, sv n false = n := fun n => rfl
  have ht : ∀ n : Nat, sv n true = -(n : Int) := fun n => rfl
  cases ga <;> cases gb <;> simp only [bne_self_eq_false, Bool.false_and, Bool.true_bne, Bool.false_bne, Bool.not_false, Bool.true_and, hz, hf, ht, Int.natCast_mul, Int.neg_mul, Int.mul_neg, Int.neg_neg]
def toldV (v : Int) : Int × Int := if -9223372036854775808 ≤ v ∧ v ≤ 9223372036854775807 then (v, 0) else (0, 10)
theorem told_ok {m : Nat} {s : Bool} {x : Int} (h : BackR m s x true) : toldV (sv m s) = (x, 0) := by
  have hf : -9223372036854775808 ≤ sv m s ∧ sv m s ≤ 9223372036854775807 := h.2.1 rfl
  unfold toldV
  rw [if_pos hf, h.1 rfl]
theorem told_no {m : Nat} {s : Bool} {x : Int} (h : BackR m s x false) : toldV (sv m s) = (0, 10) := by
  unfold toldV
  rw [if_neg (fun c => by have := h.2.2 c; cases this)]
set_option maxHeartbeats 8000000 in
set_option maxRecDepth 100000 in
theorem num_told (m : Nat) (s : Bool) (hm : m < 2 ^ 136) (w : World) :
    Calls Try.prog 67 #[.agg (numC m s)] w fun e w' => e = .returned (.tuple #[.int .i64 (toldV (sv m s)).1, .int .i64 (toldV (sv m s)).2]) ∧ Below w.heap.size w w' := by
  have HO : Aside0 (Own w w []) := ⟨Own.start w⟩
  have HM := Aside0.mk (fun w => num_back m s hm w)
  have HOK := Aside0.mk (fun x h => told_ok (m := m) (s := s) (x := x) h)
  have HNO := Aside0.mk (fun x h => told_no (m := m) (s := s) (x := x) h)
  obtain ⟨r, hr⟩ : ∃ r, toldV (sv m s) = r := ⟨_, rfl⟩
  rw [hr] at HOK HNO
  rw [hr]
  clear hm hr
  go_enter Try.func67, Try.ntmps67
  go_wp2_with (first | ((with_reducible refine gate_dst (N := 1) rfl ?_); refine num_new ?hg (N := 1) ?hd (cs := numC m s) HO.out m s ?hc ?hr ?_; (case hc => first | rfl | exact zcNum); (case hd => rfl); (case hg => rfl); (case hr => first | (go_simp; done) | (go_simp; rfl)); intro gA w1 hO_; have n0_ : Aside0 (Own w w1 [(gA, m, s)]) := ⟨hO_⟩; clear HO hO_; have HO := n0_; clear n0_) | ((with_reducible refine gate_dst (N := 7) rfl ?_); refine num_load ?hg (N := 7) ?hd (.tmp 1) ?ho HO.out 0 (g := gA) (m := m) (s := s) ?hi ?hx ?_; (case hd => rfl); (case hg => rfl); (case ho => rfl); (case hi => rfl); (case hx => rfl)) | (go_at_call 71; (with_reducible refine (HM.out _).mono ?_); rintro e_ w2 ⟨x, ok, rfl, hk_, hb_⟩; have n0_ : Aside0 (Own w w2 [(gA, m, s)]) := ⟨HO.out.call hb_⟩; clear HO hb_; have HO := n0_; clear n0_; have HB := Aside0.mk hk_; clear hk_; cases ok))
  · have hr := HNO.out _ HB.out
    subst hr
    go_wp2
    go_ret2
    exact ⟨rfl, HO.out.below⟩
  · have hr := HOK.out _ HB.out
    subst hr
    go_wp2
    go_ret2
    exact ⟨rfl, HO.out.below⟩

/-! ### jobberref01_Less: function 44 (by hand) -/
def jobberref01_Less.f (a0 a1 a2 a3 : Int) : Option Bool := if (-9223372036854775808 ≤ a0 ∧ a0 ≤ 9223372036854775807) ∧ (-9223372036854775808 ≤ a1 ∧ a1 ≤ 9223372036854775807) ∧ (-9223372036854775808 ≤ a2 ∧ a2 ≤ 9223372036854775807) ∧ (-9223372036854775808 ≤ a3 ∧ a3 ≤ 9223372036854775807) then some (decide (a0 * a1 < a2 * a3)) else none
set_option maxHeartbeats 8000000 in
set_option maxRecDepth 100000 in
theorem jobberref01_Less.calls (a0 a1 a2 a3 : Int) (r : Bool) (w : World) (h : jobberref01_Less.f a0 a1 a2 a3 = some r) :
    Calls Try.prog 44 #[.int .i64 a0, .int .i64 a1, .int .i64 a2, .int .i64 a3] w fun e w' => e = .returned (.bool r) ∧ Below w.heap.size w w' := by
  unfold jobberref01_Less.f at h
  by_cases hh : (-9223372036854775808 ≤ a0 ∧ a0 ≤ 9223372036854775807) ∧ (-9223372036854775808 ≤ a1 ∧ a1 ≤ 9223372036854775807) ∧ (-9223372036854775808 ≤ a2 ∧ a2 ≤ 9223372036854775807) ∧ (-9223372036854775808 ≤ a3 ∧ a3 ≤ 9223372036854775807)
  case neg => rw [if_neg hh] at h; cases h
  rw [if_pos hh] at h
  replace h := Option.some.inj h
  obtain ⟨⟨h1, h2⟩, ⟨h3, h4⟩, ⟨h5, h6⟩, h7, h8⟩ := hh
  have HO : Aside0 (Own w w []) := ⟨Own.start w⟩
  have H1 := Aside0.mk (fun w => num_of a0 h1 h2 w)
  have H2 := Aside0.mk (fun w => num_of a1 h3 h4 w)
  have H3 := Aside0.mk (fun w => num_of a2 h5 h6 w)
  have H4 := Aside0.mk (fun w => num_of a3 h7 h8 w)
  have e1 := sv_abs a0
  have e2 := sv_abs a1
  have e3 := sv_abs a2
  have e4 := sv_abs a3
  have b1 : a0.natAbs ≤ 9223372036854775808 := by omega
  have b2 : a1.natAbs ≤ 9223372036854775808 := by omega
  have b3 : a2.natAbs ≤ 9223372036854775808 := by omega
  have b4 : a3.natAbs ≤ 9223372036854775808 := by omega
  obtain ⟨m1, hm1⟩ : ∃ m, a0.natAbs = m := ⟨_, rfl⟩
  obtain ⟨s1, hs1⟩ : ∃ s, decide (a0 < 0) = s := ⟨_, rfl⟩
  rw [hm1, hs1] at H1 e1
  rw [hm1] at b1
  obtain ⟨m2, hm2⟩ : ∃ m, a1.natAbs = m := ⟨_, rfl⟩
  obtain ⟨s2, hs2⟩ : ∃ s, decide (a1 < 0) = s := ⟨_, rfl⟩
  rw [hm2, hs2] at H2 e2
  rw [hm2] at b2
  obtain ⟨m3, hm3⟩ : ∃ m, a2.natAbs = m := ⟨_, rfl⟩
  obtain ⟨s3, hs3⟩ : ∃ s, decide (a2 < 0) = s := ⟨_, rfl⟩
  rw [hm3, hs3] at H3 e3
  rw [hm3] at b3
  obtain ⟨m4, hm4⟩ : ∃ m, a3.natAbs = m := ⟨_, rfl⟩
  obtain ⟨s4, hs4⟩ : ∃ s, decide (a3 < 0) = s := ⟨_, rfl⟩
  rw [hm4, hs4] at H4 e4
  rw [hm4] at b4
  have hx : m1 * m2 ≤ 9223372036854775808 * 9223372036854775808 := Nat.mul_le_mul b1 b2
  have hy : m3 * m4 ≤ 9223372036854775808 * 9223372036854775808 := Nat.mul_le_mul b3 b4
  have p135 : (2 : Nat) ^ 135 = 43556142965880123323311949751266331066368 := by decide
  have p136 : (2 : Nat) ^ 136 = 87112285931760246646623899502532662132736 := by decide
  have HT1 := Aside0.mk (fun w => num_times m1 m2 s1 s2 (by omega) (by omega) w)
  have HT2 := Aside0.mk (fun w => num_times m3 m4 s3 s4 (by omega) (by omega) w)
  have t1 := sv_times m1 m2 s1 s2
  have t2 := sv_times m3 m4 s3 s4
  rw [e1, e2] at t1
  rw [e3, e4] at t2
  obtain ⟨m5, hm5⟩ : ∃ m, m1 * m2 = m := ⟨_, rfl⟩
  obtain ⟨s5, hs5⟩ : ∃ s, ((s1 != s2) && !decide (m1 * m2 = 0)) = s := ⟨_, rfl⟩
  obtain ⟨m6, hm6⟩ : ∃ m, m3 * m4 = m := ⟨_, rfl⟩
  obtain ⟨s6, hs6⟩ : ∃ s, ((s3 != s4) && !decide (m3 * m4 = 0)) = s := ⟨_, rfl⟩
  rw [hs5, hm5] at HT1 t1
  rw [hs6, hm6] at HT2 t2
  rw [hm5] at hx
  rw [hm6] at hy
  have HMN := Aside0.mk (fun w => num_minus m6 s6 (by omega) w)
  have HP := Aside0.mk (fun w => num_plus m5 m6 s5 (!s6 && !decide (m6 = 0)) (by omega) (by omega) w)
  have HF : Aside0 (∀ m s, PlusR m5 m6 s5 (!s6 && !decide (m6 = 0)) m s → s = r) := ⟨fun m s hp => by
    have q1 := hp.1
    rw [sv_minus, t1, t2] at q1
    have q2 := hp.2.2
    rw [← h]
    cases s with
    | true =>
      have : sv m true = -(m : Int) := rfl
      have : m ≠ 0 := q2 rfl
      exact (decide_eq_true (by omega)).symm
    | false =>
      have : sv m false = (m : Int) := rfl
      exact (decide_eq_false (by omega)).symm⟩
  obtain ⟨s7, hs7⟩ : ∃ s, (!s6 && !decide (m6 = 0)) = s := ⟨_, rfl⟩
  rw [hs7] at HMN HP HF
  clear p135 p136 hx hy b1 b2 b3 b4 e1 e2 e3 e4 t1 t2 h hs7 hm1 hm2 hm3 hm4 hm5 hm6 hs1 hs2 hs3 hs4 hs5 hs6 h1 h2 h3 h4 h5 h6 h7 h8
  go_enter Try.func44, Try.ntmps44
  go_wp2_with (first | (go_at_call 56; first | ((with_reducible refine (H1.out _).mono ?_); rintro e_ wH1_ ⟨rfl, hb_⟩; have n0_ : Aside0 (Own w wH1_ []) := ⟨HO.out.call hb_⟩; clear HO hb_; have HO := n0_; clear n0_) | ((with_reducible refine (H2.out _).mono ?_); rintro e_ wH2_ ⟨rfl, hb_⟩; have n0_ : Aside0 (Own w wH2_ []) := ⟨HO.out.call hb_⟩; clear HO hb_; have HO := n0_; clear n0_) | ((with_reducible refine (H3.out _).mono ?_); rintro e_ wH3_ ⟨rfl, hb_⟩; have n0_ : Aside0 (Own w wH3_ []) := ⟨HO.out.call hb_⟩; clear HO hb_; have HO := n0_; clear n0_) | ((with_reducible refine (H4.out _).mono ?_); rintro e_ wH4_ ⟨rfl, hb_⟩; have n0_ : Aside0 (Own w wH4_ []) := ⟨HO.out.call hb_⟩; clear HO hb_; have HO := n0_; clear n0_)) | (go_at_call 55; first | ((with_reducible refine (HT1.out _).mono ?_); rintro e_ wHT1_ ⟨rfl, hb_⟩; have n0_ : Aside0 (Own w wHT1_ []) := ⟨HO.out.call hb_⟩; clear HO hb_; have HO := n0_; clear n0_) | ((with_reducible refine (HT2.out _).mono ?_); rintro e_ wHT2_ ⟨rfl, hb_⟩; have n0_ : Aside0 (Own w wHT2_ []) := ⟨HO.out.call hb_⟩; clear HO hb_; have HO := n0_; clear n0_)) | (go_at_call 57; (with_reducible refine (HMN.out _).mono ?_); rintro e_ w8_ ⟨rfl, hb_⟩; have n0_ : Aside0 (Own w w8_ []) := ⟨HO.out.call hb_⟩; clear HO hb_; have HO := n0_; clear n0_) | (go_at_call 54; (with_reducible refine (HP.out _).mono ?_); rintro e_ w9_ ⟨m, s, rfl, hp_, hb_⟩; have n0_ : Aside0 (Own w w9_ []) := ⟨HO.out.call hb_⟩; clear HO hb_; have HO := n0_; clear n0_; have HR := Aside0.mk (HF.out m s hp_); clear hp_) | ((with_reducible refine gate_dst (N := 9) rfl ?_); refine num_new ?hg (N := 9) ?hd (cs := Try.zeroCells84) HO.out 0 false ?hc ?hr ?_; (case hc => first | rfl | exact zcNum); (case hd => rfl); (case hg => rfl); (case hr => first | (go_simp; done) | (go_simp; rfl)); intro gX w10 hO_; have n0_ : Aside0 (Own w w10 [(gX, 0, false)]) := ⟨hO_⟩; clear HO hO_; have HO := n0_; clear n0_) | ((with_reducible refine gate_store (t := 84) (p := 9) (v := .tmp 21) rfl ?_); refine num_store ?hg (.tmp 9) (.tmp 21) ?ho HO.out 0 (g := gX) (m := 0) (s := false) (m' := m) (s' := s) ?hi ?hx ?hy ?_; (case hg => rfl); (case ho => rfl); (case hi => rfl); (case hx => rfl); (case hy => rfl); intro w11 hO_; have n0_ : Aside0 (Own w w11 [(gX, m, s)]) := ⟨hO_⟩; clear HO hO_; have HO := n0_; clear n0_; have zx := HO.out.neg 0 rfl))
  go_ret
  exact ⟨by rw [← HR.out]; rfl, HO.out.below⟩

/-! ### jobberref07_Band: function 17 -/
mutual
def jobberref07_Band.j0 : Nat → Int → Int → Int → Bool → Option (Int)
  | 0, _, _, _, _ => none
  | k + 1, x0, x1, x2, x18 => if x18 = true then (some 2) else (if x0 = 0 then (jobberref07_Band.j1 k x0 x1 x2 true) else (jobberref07_Band.j1 k x0 x1 x2 (x2 == 0)))
def jobberref07_Band.j1 : Nat → Int → Int → Int → Bool → Option (Int)
  | 0, _, _, _, _ => none
  | k + 1, x0, x1, x2, x24 => if x24 = true then (some 0) else (if (wrap64 (x1 - x0)) < 0 then ((jobberref01_Less.f x0 x2 (wrap64 (-(wrap64 (x1 - x0)))) 1000000).bind fun t107 => (if t107 = true then (some 42) else (some 0))) else ((jobberref01_Less.f x0 x2 (wrap64 (x1 - x0)) 1000000).bind fun t108 => (if t108 = true then (some 42) else (some 0))))
end
def jobberref07_Band.f (k : Nat) (a0 : Int) (a1 : Int) (a2 : Int) : Option (Int) := (jobberref07_wrong.f a0 a2).bind fun t106 => (if t106 = true then (jobberref07_Band.j0 k a0 a1 a2 true) else (if a1 < 1 then (jobberref07_Band.j0 k a0 a1 a2 true) else (jobberref07_Band.j0 k a0 a1 a2 (decide (a1 > 1099511627776)))))
theorem jobberref07_Band.mono_l : ∀ k, (∀ y0 y1 y2 y3, LeO (jobberref07_Band.j0 k y0 y1 y2 y3) (jobberref07_Band.j0 (k + 1) y0 y1 y2 y3)) ∧ (∀ y0 y1 y2 y3, LeO (jobberref07_Band.j1 k y0 y1 y2 y3) (jobberref07_Band.j1 (k + 1) y0 y1 y2 y3))
  | 0 => ⟨fun _ _ _ _ r h => by simp [jobberref07_Band.j0] at h, fun _ _ _ _ r h => by simp [jobberref07_Band.j1] at h⟩
  | k + 1 => by
    obtain ⟨ih0, ih1⟩ := jobberref07_Band.mono_l k
    refine ⟨?_, ?_⟩
    · intro y0 y1 y2 y3
      unfold jobberref07_Band.j0
      repeat' first
      | (with_reducible exact ih0 _ _ _ _)
      | (with_reducible exact ih1 _ _ _ _)
      | (with_reducible exact LeO.refl _)
      | (with_reducible exact LeO.none _)
      | (with_reducible refine LeO.ite ?_ ?_)
      | (with_reducible refine LeO.bind ?_ (fun _ => ?_))
      | exact ih0 _ _ _ _
      | exact ih1 _ _ _ _
      | exact LeO.none _
      | refine LeO.ite ?_ ?_
      | refine LeO.bind ?_ (fun _ => ?_)
    · intro y0 y1 y2 y3
      unfold jobberref07_Band.j1
      repeat' first
      | (with_reducible exact ih0 _ _ _ _)
      | (with_reducible exact ih1 _ _ _ _)
      | (with_reducible exact LeO.refl _)
      | (with_reducible exact LeO.none _)
      | (with_reducible refine LeO.ite ?_ ?_)
      | (with_reducible refine LeO.bind ?_ (fun _ => ?_))
      | exact ih0 _ _ _ _
      | exact ih1 _ _ _ _
      | exact LeO.none _
      | refine LeO.ite ?_ ?_
      | refine LeO.bind ?_ (fun _ => ?_)
theorem jobberref07_Band.mono : ∀ a0 a1 a2 k, LeO (jobberref07_Band.f k a0 a1 a2) (jobberref07_Band.f (k + 1) a0 a1 a2) := by
  intro a0 a1 a2 k
  obtain ⟨ih0, ih1⟩ := jobberref07_Band.mono_l k
  unfold jobberref07_Band.f
  repeat' first
      | (with_reducible exact ih0 _ _ _ _)
      | (with_reducible exact ih1 _ _ _ _)
      | (with_reducible exact LeO.refl _)
      | (with_reducible exact LeO.none _)
      | (with_reducible refine LeO.ite ?_ ?_)
      | (with_reducible refine LeO.bind ?_ (fun _ => ?_))
      | exact ih0 _ _ _ _
      | exact ih1 _ _ _ _
      | exact LeO.none _
      | refine LeO.ite ?_ ?_
      | refine LeO.bind ?_ (fun _ => ?_)
set_option maxHeartbeats 8000000 in
set_option maxRecDepth 100000 in
theorem jobberref07_Band.calls (k : Nat) (a0 : Int) (a1 : Int) (a2 : Int) (r : Int) (w : World) (h : jobberref07_Band.f k a0 a1 a2 = some r) :
    Calls Try.prog 17 #[.int .i64 a0, .int .i64 a1, .int .i64 a2] w fun e w' => e = .returned (.int .i64 r) ∧ Below w.heap.size w w' := by
  have HB := Aside0.mk (Below.refl w.heap.size w)
  have H : ((jobberref07_wrong.f a0 a2).bind fun t106 => (if t106 = true then (jobberref07_Band.j0 k a0 a1 a2 true) else (if a1 < 1 then (jobberref07_Band.j0 k a0 a1 a2 true) else (jobberref07_Band.j0 k a0 a1 a2 (decide (a1 > 1099511627776)))))) = some r := h
  clear h
  have HC4 := Aside0.mk H
  clear H
  go_enter Try.func17, Try.ntmps17
  go_upto_region 1 with (fail)
  go_cut [18] (fun v18 wc => ∃ (kq : Nat) (x18_3 : Bool), v18 = .bool x18_3 ∧ Aside0 (jobberref07_Band.j0 kq a0 a1 a2 x18_3 = some r) ∧ Aside0 (kq ≤ k) ∧ Aside0 (Below w.heap.size w wc))
  case first =>
    have H := HC4.out
    clear HC4
    replace H := Option.bind_eq_some_iff.mp H
    obtain ⟨t106, A50, H⟩ := H
    replace H : (if t106 = true then (jobberref07_Band.j0 k a0 a1 a2 true) else (if a1 < 1 then (jobberref07_Band.j0 k a0 a1 a2 true) else (jobberref07_Band.j0 k a0 a1 a2 (decide (a1 > 1099511627776))))) = some r := H
    have A5 := Aside0.mk A50
    clear A50
    by_cases c6 : t106 = true
    · subst c6
      have H1 : (jobberref07_Band.j0 k a0 a1 a2 true) = some r := by rw [if_pos rfl] at H; exact H
      clear H
      have H := H1
      clear H1
      have H' := Aside0.mk H
      clear H
      go_wp2_with (first | ((with_reducible refine gate_callee (f := 43) rfl ?_); refine goesL_ (some 10) rfl rfl Try.func43 (by kernel_rfl) rfl #[.int .i64 a0, .int .i64 a2] rfl (by (try simp only [List.map_toArray, List.map_cons, List.map_nil]); first | done | rfl | (simp only [List.length_drop, List.length_take]; rfl)) ?_; (with_reducible refine (jobberref07_wrong.calls a0 a2 true _ A5.out).mono ?_); rintro e w' ⟨rfl, ⟨nd, rfl⟩⟩; refine ⟨_, rfl, ?_⟩))
      go_meet
      case rel => exact ⟨_, (true), (by first | rfl | (simp; done) | (simp [*]; done)), H', ⟨by first | omega | exact Nat.le_refl _⟩, ⟨by repeat (first | (with_reducible first | exact HB.out | apply below_alloc | apply pw_below_drewN | apply below_drew1) | exact HB.out)⟩⟩
    · replace c6 := Bool.eq_false_iff.mpr c6
      subst c6
      have H1 : (if a1 < 1 then (jobberref07_Band.j0 k a0 a1 a2 true) else (jobberref07_Band.j0 k a0 a1 a2 (decide (a1 > 1099511627776)))) = some r := by rw [if_neg (show ¬ (false = true) by decide)] at H; exact H
      clear H
      have H := H1
      clear H1
      by_cases c7 : a1 < 1
      · rw [if_pos c7] at H
        have c7b0 : decide (a1 < 1) = true := decide_eq_true c7
        clear c7
        (first | rw [c7b0] | (simp only [i64_w, i32_w]; rw [c7b0]) | skip)
        have H' := Aside0.mk H
        clear H
        go_wp2_with (first | ((with_reducible refine gate_callee (f := 43) rfl ?_); refine goesL_ (some 10) rfl rfl Try.func43 (by kernel_rfl) rfl #[.int .i64 a0, .int .i64 a2] rfl (by (try simp only [List.map_toArray, List.map_cons, List.map_nil]); first | done | rfl | (simp only [List.length_drop, List.length_take]; rfl)) ?_; (with_reducible refine (jobberref07_wrong.calls a0 a2 false _ A5.out).mono ?_); rintro e w' ⟨rfl, ⟨nd, rfl⟩⟩; refine ⟨_, rfl, ?_⟩))
        go_meet
        case rel => exact ⟨_, (true), (by first | rfl | (simp; done) | (simp [*]; done)), H', ⟨by first | omega | exact Nat.le_refl _⟩, ⟨by repeat (first | (with_reducible first | exact HB.out | apply below_alloc | apply pw_below_drewN | apply below_drew1) | exact HB.out)⟩⟩
      · rw [if_neg c7] at H
        have c7b0 : decide (a1 < 1) = false := decide_eq_false c7
        clear c7
        (first | rw [c7b0] | (simp only [i64_w, i32_w]; rw [c7b0]) | skip)
        have H' := Aside0.mk H
        clear H
        go_wp2_with (first | ((with_reducible refine gate_callee (f := 43) rfl ?_); refine goesL_ (some 10) rfl rfl Try.func43 (by kernel_rfl) rfl #[.int .i64 a0, .int .i64 a2] rfl (by (try simp only [List.map_toArray, List.map_cons, List.map_nil]); first | done | rfl | (simp only [List.length_drop, List.length_take]; rfl)) ?_; (with_reducible refine (jobberref07_wrong.calls a0 a2 false _ A5.out).mono ?_); rintro e w' ⟨rfl, ⟨nd, rfl⟩⟩; refine ⟨_, rfl, ?_⟩))
        go_meet
        case rel => exact ⟨_, (decide (a1 > 1099511627776)), (by first | rfl | (simp; done) | (simp [*]; done)), H', ⟨by first | omega | exact Nat.le_refl _⟩, ⟨by repeat (first | (with_reducible first | exact HB.out | apply below_alloc | apply pw_below_drewN | apply below_drew1) | exact HB.out)⟩⟩
  case rest =>
    clear HC4
    try clear c1
    try clear p2
    try clear c4
    try clear c6
    try clear c7
    try clear c7b0
    obtain ⟨kq, x18_3, rfl, HA, HJ3, HB⟩ := hcut
    cases kq with
    | zero => exact absurd HA.out (by simp [jobberref07_Band.j0])
    | succ kj3 =>
      have H := HA.out
      clear HA
      simp only [jobberref07_Band.j0] at H
      by_cases c8 : x18_3 = true
      · subst c8
        have H1 : (some 2) = some r := by rw [if_pos rfl] at H; exact H
        clear H
        have H := H1
        clear H1
        obtain rfl := Option.some.inj H
        go_wp2
        go_ret
        exact ⟨by first | rfl | (simp [errW_none, errW_some] <;> rfl) | (simp [*, errW_none, errW_some] <;> rfl), by repeat (first | (with_reducible first | exact HB.out | apply below_alloc | apply pw_below_drewN | apply below_drew1) | exact HB.out)⟩
      · replace c8 := Bool.eq_false_iff.mpr c8
        subst c8
        have H1 : (if a0 = 0 then (jobberref07_Band.j1 kj3 a0 a1 a2 true) else (jobberref07_Band.j1 kj3 a0 a1 a2 (a2 == 0))) = some r := by rw [if_neg (show ¬ (false = true) by decide)] at H; exact H
        clear H
        have H := H1
        clear H1
        have HC9 := Aside0.mk H
        clear H
        go_upto_region 3 with (fail)
        go_cut [24] (fun v24 wc => ∃ (kq : Nat) (x24_8 : Bool), v24 = .bool x24_8 ∧ Aside0 (jobberref07_Band.j1 kq a0 a1 a2 x24_8 = some r) ∧ Aside0 (kq ≤ kj3) ∧ Aside0 (Below w.heap.size w wc))
        case first =>
          have H := HC9.out
          clear HC9
          by_cases c10 : a0 = 0
          · rw [if_pos c10] at H
            have c10b0 : (a0 == 0) = true := beq_iff_eq.mpr c10
            have c10b1 : (a0 != 0) = false := bne_eq_false_iff_eq.mpr c10
            clear c10
            (first | rw [c10b0] | (simp only [i64_w, i32_w]; rw [c10b0]) | skip)
            have H' := Aside0.mk H
            clear H
            go_wp2
            go_meet
            case rel => exact ⟨_, (true), (by first | rfl | (simp; done) | (simp [*]; done)), H', ⟨by have := HJ3.out; first | omega | exact Nat.le_refl _⟩, ⟨by repeat (first | (with_reducible first | exact HB.out | apply below_alloc | apply pw_below_drewN | apply below_drew1) | exact HB.out)⟩⟩
          · rw [if_neg c10] at H
            have c10b0 : (a0 == 0) = false := beq_eq_false_iff_ne.mpr c10
            have c10b1 : (a0 != 0) = true := bne_iff_ne.mpr c10
            (first | rw [c10b0] | (simp only [i64_w, i32_w]; rw [c10b0]) | skip)
            have H' := Aside0.mk H
            clear H
            go_wp2
            go_meet
            case rel => exact ⟨_, ((a2 == 0)), (by first | rfl | (simp; done) | (simp [*]; done)), H', ⟨by have := HJ3.out; first | omega | exact Nat.le_refl _⟩, ⟨by repeat (first | (with_reducible first | exact HB.out | apply below_alloc | apply pw_below_drewN | apply below_drew1) | exact HB.out)⟩⟩
        case rest =>
          clear HC9
          try clear c1
          try clear p2
          try clear c4
          try clear c6
          try clear c7
          try clear c7b0
          try clear c8
          try clear c10
          try clear c10b0
          try clear c10b1
          try clear p2
          obtain ⟨kq, x24_8, rfl, HA, HJ8, HB⟩ := hcut
          cases kq with
          | zero => exact absurd HA.out (by simp [jobberref07_Band.j1])
          | succ kj8 =>
            have H := HA.out
            clear HA
            simp only [jobberref07_Band.j1] at H
            by_cases c11 : x24_8 = true
            · subst c11
              have H1 : (some 0) = some r := by rw [if_pos rfl] at H; exact H
              clear H
              have H := H1
              clear H1
              obtain rfl := Option.some.inj H
              go_wp2
              go_ret
              exact ⟨by first | rfl | (simp [errW_none, errW_some] <;> rfl) | (simp [*, errW_none, errW_some] <;> rfl), by repeat (first | (with_reducible first | exact HB.out | apply below_alloc | apply pw_below_drewN | apply below_drew1) | exact HB.out)⟩
            · replace c11 := Bool.eq_false_iff.mpr c11
              subst c11
              have H1 : (if (wrap64 (a1 - a0)) < 0 then ((jobberref01_Less.f a0 a2 (wrap64 (-(wrap64 (a1 - a0)))) 1000000).bind fun t107 => (if t107 = true then (some 42) else (some 0))) else ((jobberref01_Less.f a0 a2 (wrap64 (a1 - a0)) 1000000).bind fun t108 => (if t108 = true then (some 42) else (some 0)))) = some r := by rw [if_neg (show ¬ (false = true) by decide)] at H; exact H
              clear H
              have H := H1
              clear H1
              by_cases c12 : (wrap64 (a1 - a0)) < 0
              · rw [if_pos c12] at H
                have c12b0 : decide ((wrap64 (a1 - a0)) < 0) = true := decide_eq_true c12
                clear c12
                replace H := Option.bind_eq_some_iff.mp H
                obtain ⟨t107, A130, H⟩ := H
                replace H : (if t107 = true then (some 42) else (some 0)) = some r := H
                have A13 := Aside0.mk A130
                clear A130
                by_cases c14 : t107 = true
                · subst c14
                  have H1 : (some 42) = some r := by rw [if_pos rfl] at H; exact H
                  clear H
                  have H := H1
                  clear H1
                  obtain rfl := Option.some.inj H
                  go_wp2_with (first | ((with_reducible refine gate_callee (f := 44) rfl ?_); refine goesL_ (some 35) rfl rfl Try.func44 (by kernel_rfl) rfl #[.int .i64 a0, .int .i64 a2, .int .i64 (wrap64 (-(wrap64 (a1 - a0)))), .int .i64 1000000] rfl (by (try simp only [List.map_toArray, List.map_cons, List.map_nil]); first | done | rfl | (simp only [List.length_drop, List.length_take]; rfl)) ?_; (with_reducible refine (jobberref01_Less.calls a0 a2 (wrap64 (-(wrap64 (a1 - a0)))) 1000000 true _ A13.out).mono ?_); rintro e w15 ⟨rfl, hb⟩; refine ⟨_, rfl, ?_⟩; have n0_ := Aside0.mk (below_step (by repeat (first | (with_reducible first | exact HB.out | apply below_alloc | apply pw_below_drewN | apply below_drew1) | exact HB.out)) hb); clear HB; have HB := n0_; clear n0_; (try clear hb); (try clear hb2); (try clear hk); (try clear hi)))
                  go_ret
                  exact ⟨by first | rfl | (simp [errW_none, errW_some] <;> rfl) | (simp [*, errW_none, errW_some] <;> rfl), by repeat (first | (with_reducible first | exact HB.out | apply below_alloc | apply pw_below_drewN | apply below_drew1) | exact HB.out)⟩
                · replace c14 := Bool.eq_false_iff.mpr c14
                  subst c14
                  have H1 : (some 0) = some r := by rw [if_neg (show ¬ (false = true) by decide)] at H; exact H
                  clear H
                  have H := H1
                  clear H1
                  obtain rfl := Option.some.inj H
                  go_wp2_with (first | ((with_reducible refine gate_callee (f := 44) rfl ?_); refine goesL_ (some 35) rfl rfl Try.func44 (by kernel_rfl) rfl #[.int .i64 a0, .int .i64 a2, .int .i64 (wrap64 (-(wrap64 (a1 - a0)))), .int .i64 1000000] rfl (by (try simp only [List.map_toArray, List.map_cons, List.map_nil]); first | done | rfl | (simp only [List.length_drop, List.length_take]; rfl)) ?_; (with_reducible refine (jobberref01_Less.calls a0 a2 (wrap64 (-(wrap64 (a1 - a0)))) 1000000 false _ A13.out).mono ?_); rintro e w16 ⟨rfl, hb⟩; refine ⟨_, rfl, ?_⟩; have n0_ := Aside0.mk (below_step (by repeat (first | (with_reducible first | exact HB.out | apply below_alloc | apply pw_below_drewN | apply below_drew1) | exact HB.out)) hb); clear HB; have HB := n0_; clear n0_; (try clear hb); (try clear hb2); (try clear hk); (try clear hi)))
                  go_ret
                  exact ⟨by first | rfl | (simp [errW_none, errW_some] <;> rfl) | (simp [*, errW_none, errW_some] <;> rfl), by repeat (first | (with_reducible first | exact HB.out | apply below_alloc | apply pw_below_drewN | apply below_drew1) | exact HB.out)⟩
              · rw [if_neg c12] at H
                have c12b0 : decide ((wrap64 (a1 - a0)) < 0) = false := decide_eq_false c12
                clear c12
                replace H := Option.bind_eq_some_iff.mp H
                obtain ⟨t108, A170, H⟩ := H
                replace H : (if t108 = true then (some 42) else (some 0)) = some r := H
                have A17 := Aside0.mk A170
                clear A170
                by_cases c18 : t108 = true
                · subst c18
                  have H1 : (some 42) = some r := by rw [if_pos rfl] at H; exact H
                  clear H
                  have H := H1
                  clear H1
                  obtain rfl := Option.some.inj H
                  go_wp2_with (first | ((with_reducible refine gate_callee (f := 44) rfl ?_); refine goesL_ (some 35) rfl rfl Try.func44 (by kernel_rfl) rfl #[.int .i64 a0, .int .i64 a2, .int .i64 (wrap64 (a1 - a0)), .int .i64 1000000] rfl (by (try simp only [List.map_toArray, List.map_cons, List.map_nil]); first | done | rfl | (simp only [List.length_drop, List.length_take]; rfl)) ?_; (with_reducible refine (jobberref01_Less.calls a0 a2 (wrap64 (a1 - a0)) 1000000 true _ A17.out).mono ?_); rintro e w19 ⟨rfl, hb⟩; refine ⟨_, rfl, ?_⟩; have n0_ := Aside0.mk (below_step (by repeat (first | (with_reducible first | exact HB.out | apply below_alloc | apply pw_below_drewN | apply below_drew1) | exact HB.out)) hb); clear HB; have HB := n0_; clear n0_; (try clear hb); (try clear hb2); (try clear hk); (try clear hi)))
                  go_ret
                  exact ⟨by first | rfl | (simp [errW_none, errW_some] <;> rfl) | (simp [*, errW_none, errW_some] <;> rfl), by repeat (first | (with_reducible first | exact HB.out | apply below_alloc | apply pw_below_drewN | apply below_drew1) | exact HB.out)⟩
                · replace c18 := Bool.eq_false_iff.mpr c18
                  subst c18
                  have H1 : (some 0) = some r := by rw [if_neg (show ¬ (false = true) by decide)] at H; exact H
                  clear H
                  have H := H1
                  clear H1
                  obtain rfl := Option.some.inj H
                  go_wp2_with (first | ((with_reducible refine gate_callee (f := 44) rfl ?_); refine goesL_ (some 35) rfl rfl Try.func44 (by kernel_rfl) rfl #[.int .i64 a0, .int .i64 a2, .int .i64 (wrap64 (a1 - a0)), .int .i64 1000000] rfl (by (try simp only [List.map_toArray, List.map_cons, List.map_nil]); first | done | rfl | (simp only [List.length_drop, List.length_take]; rfl)) ?_; (with_reducible refine (jobberref01_Less.calls a0 a2 (wrap64 (a1 - a0)) 1000000 false _ A17.out).mono ?_); rintro e w20 ⟨rfl, hb⟩; refine ⟨_, rfl, ?_⟩; have n0_ := Aside0.mk (below_step (by repeat (first | (with_reducible first | exact HB.out | apply below_alloc | apply pw_below_drewN | apply below_drew1) | exact HB.out)) hb); clear HB; have HB := n0_; clear n0_; (try clear hb); (try clear hb2); (try clear hk); (try clear hi)))
                  go_ret
                  exact ⟨by first | rfl | (simp [errW_none, errW_some] <;> rfl) | (simp [*, errW_none, errW_some] <;> rfl), by repeat (first | (with_reducible first | exact HB.out | apply below_alloc | apply pw_below_drewN | apply below_drew1) | exact HB.out)⟩

end Go.Proofs.Ythaaghkplbbgdaa.Lia
