/- Printed by this session's wip/drive.py over the translation; some functions by hand. -/
import Derived.Test.YthkhfhhbldjdlaaChtx0
import Derived.Test.YthkhfhhbldjdlaaChtx1
import Derived.Test.YthkhfhhbldjdlaaChtx2
import Derived.Test.YthkhfhhbldjdlaaChtx5
namespace Go.Proofs.Ythkhfhhbldjdlaa.Cht
open Go.RowKit Go.Proofs.YthkhfhhbldjdlaaW.PrintWords Go.Proofs.YthkhfhhbldjdlaaW.PrintLast Go.Proofs.YthkhfhhbldjdlaaW.PrintMore
attribute [local go_sem] max2_int min2_int max_two min_two max_three min_three max_four min_four   -- for this text's walks alone
set_option linter.unusedVariables false
set_option linter.unusedSimpArgs false

/-! ### jobberlaw38_ChainTells: function 7 (by hand) -/
set_option maxHeartbeats 8000000 in
set_option maxRecDepth 100000 in
theorem tells_many (a b o i t m : Int) (A : Option Addr) (c : Nat) (By : List Int) (W : World) (hC : (Kd.int .u8).C W A By.length By) (hc : By.length ≤ c) (h60 : ¬ By.length ≤ 60) : Calls Try.prog 7 #[.agg #[.int .u64 a, .int .u64 b, .slice A By.length c, .int .u8 o], .int .u64 i, .int .u64 t, .int .i64 m] W fun e w' => e = .returned (.bool true) ∧ Below W.heap.size W w' := by
  have hu := Try.underlying60
  have S0 := St.start W (fun _ => False)
  have HL : Aside0 (∀ W', Below W.heap.size W W' → Calls Try.prog 24 #[.agg #[.int .u64 a, .int .u64 b, .slice A By.length c, .int .u8 o]] W' fun e w' => e = .returned (.bool false) ∧ Below W'.heap.size W' w') := ⟨fun W' hb => jobberlaw38_Run_light.calls a b A c By o false W' (Kd.C_below hC hb) hc (by unfold jobberlaw38_Run_light.f; rw [decide_eq_false (by omega)])⟩
  clear hC hc h60
  go_enter Try.func7, Try.ntmps7
  go_wp2_with (first
    | ((with_reducible refine gate_dst (N := 4) rfl ?_); refine box_event ?hg (N := 4) ?hd (cs := #[.int .u64 a, .int .u64 b, .slice A By.length c, .int .u8 o]) (t := 60) ?hr ?_; (case hd => rfl); (case hg => rfl); (case hr => first | (go_simp; done) | (go_simp; rfl)); intro gB hg_ w1 hbB hb; have S1 := S0.box hg_ hb hbB; clear S0 hg_ hbB hb; have z0 : w1.cell? ⟨gB, 0, none⟩ = some (.int .u64 a) := (blk_cell (S1.blk 0 rfl) 0).trans rfl; have z1 : w1.cell? ⟨gB, 1, none⟩ = some (.int .u64 b) := (blk_cell (S1.blk 0 rfl) 1).trans rfl; have z2 : w1.cell? ⟨gB, 2, none⟩ = some (.slice A By.length c) := (blk_cell (S1.blk 0 rfl) 2).trans rfl; have z3 : w1.cell? ⟨gB, 3, none⟩ = some (.int .u8 o) := (blk_cell (S1.blk 0 rfl) 3).trans rfl)
    | (go_at_call 24; refine (HL.out _ S1.below).mono ?_; rintro e w2 ⟨rfl, hb⟩; have S2 := S1.call hb; clear S1 hb z0 z1 z2 z3)
    | (go_at_call 25; refine (chain_lives w2).mono ?_; rintro e w3 ⟨rfl, hb⟩; have S3 := S2.call hb; clear S2 hb))
  go_ret
  exact ⟨rfl, S3.below⟩
set_option maxHeartbeats 8000000 in
set_option maxRecDepth 100000 in
theorem tells_bad (a b o i t m : Int) (A : Option Addr) (c : Nat) (By : List Int) (W : World) (hC : (Kd.int .u8).C W A By.length By) (hc : By.length ≤ c) (h60 : By.length ≤ 60) (xs : List SE) (hxs : jobberlaw38_Run_entries.f 61 a b By o = some xs) (hx : Ents xs By.length) (hg : standG a b xs = false) : Calls Try.prog 7 #[.agg #[.int .u64 a, .int .u64 b, .slice A By.length c, .int .u8 o], .int .u64 i, .int .u64 t, .int .i64 m] W fun e w' => e = .returned (.bool true) ∧ Below W.heap.size W w' := by
  have hu := Try.underlying60
  have hu2 := Try.underlying66
  have S0 := St.start W (fun _ => False)
  have HL : Aside0 (∀ W', Below W.heap.size W W' → Calls Try.prog 24 #[.agg #[.int .u64 a, .int .u64 b, .slice A By.length c, .int .u8 o]] W' fun e w' => e = .returned (.bool true) ∧ Below W'.heap.size W' w') := ⟨fun W' hb => jobberlaw38_Run_light.calls a b A c By o true W' (Kd.C_below hC hb) hc (by unfold jobberlaw38_Run_light.f; rw [decide_eq_true (by omega)])⟩
  have HB : Aside0 (∀ W', Below W.heap.size W W' → Calls Try.prog 26 #[.agg #[.int .u64 a, .int .u64 b, .slice A By.length c, .int .u8 o]] W' fun e w' => ∃ A5 c5, e = .returned (.tuple #[.pointer none, .agg #[.int .u64 a, .int .u64 b, .slice none 0 0, .slice A5 (pl xs).length c5], .bool true]) ∧ Below W'.heap.size W' w') := ⟨fun W' hb => both_bad W' a b o A c By (Kd.C_below hC hb) hc h60 xs hxs hx hg⟩
  clear hC hc h60 hxs hx hg
  go_enter Try.func7, Try.ntmps7
  go_wp2_with (first
    | ((with_reducible refine gate_dst (N := 4) rfl ?_); refine box_event ?hg (N := 4) ?hd (cs := #[.int .u64 a, .int .u64 b, .slice A By.length c, .int .u8 o]) (t := 60) ?hr ?_; (case hd => rfl); (case hg => rfl); (case hr => first | (go_simp; done) | (go_simp; rfl)); intro gB hg_ w1 hbB hb; have S1 := S0.box hg_ hb hbB; clear S0 hg_ hbB hb; have z0 : w1.cell? ⟨gB, 0, none⟩ = some (.int .u64 a) := (blk_cell (S1.blk 0 rfl) 0).trans rfl; have z1 : w1.cell? ⟨gB, 1, none⟩ = some (.int .u64 b) := (blk_cell (S1.blk 0 rfl) 1).trans rfl; have z2 : w1.cell? ⟨gB, 2, none⟩ = some (.slice A By.length c) := (blk_cell (S1.blk 0 rfl) 2).trans rfl; have z3 : w1.cell? ⟨gB, 3, none⟩ = some (.int .u8 o) := (blk_cell (S1.blk 0 rfl) 3).trans rfl)
    | (go_at_call 24; refine (HL.out _ S1.below).mono ?_; rintro e w2 ⟨rfl, hb⟩; have S2 := S1.call hb; clear S1 hb z0 z1 z2 z3; have z0 : w2.cell? ⟨gB, 0, none⟩ = some (.int .u64 a) := (blk_cell (S2.blk 0 rfl) 0).trans rfl; have z1 : w2.cell? ⟨gB, 1, none⟩ = some (.int .u64 b) := (blk_cell (S2.blk 0 rfl) 1).trans rfl; have z2 : w2.cell? ⟨gB, 2, none⟩ = some (.slice A By.length c) := (blk_cell (S2.blk 0 rfl) 2).trans rfl; have z3 : w2.cell? ⟨gB, 3, none⟩ = some (.int .u8 o) := (blk_cell (S2.blk 0 rfl) 3).trans rfl)
    | (go_at_call 26; refine (HB.out _ S2.below).mono ?_; rintro e w3 ⟨A5, c5, rfl, hb⟩; have S3 := S2.call hb; clear S2 hb z0 z1 z2 z3)
    | ((with_reducible refine gate_dst (N := 10) rfl ?_); refine box_event ?hg (N := 10) ?hd (cs := #[.int .u64 0, .int .u64 0, .slice none 0 0, .slice none 0 0]) (t := 66) ?hr ?_; (case hd => rfl); (case hg => rfl); (case hr => first | (go_simp; done) | (go_simp; rfl)); intro gW hg_ w4 hbB hb; have S4 := S3.box hg_ hb hbB; clear S3 hg_ hbB hb; have z0 : w4.cell? ⟨gW, 0, none⟩ = some (.int .u64 0) := (blk_cell (S4.blk 0 rfl) 0).trans rfl; have fz0 : w4.frozen? ⟨gW, 0, none⟩ = false := blk_frozen (S4.blk 0 rfl) 0; have z1 : w4.cell? ⟨gW, 1, none⟩ = some (.int .u64 0) := (blk_cell (S4.blk 0 rfl) 1).trans rfl; have fz1 : w4.frozen? ⟨gW, 1, none⟩ = false := blk_frozen (S4.blk 0 rfl) 1; have z2 : w4.cell? ⟨gW, 2, none⟩ = some (.slice none 0 0) := (blk_cell (S4.blk 0 rfl) 2).trans rfl; have fz2 : w4.frozen? ⟨gW, 2, none⟩ = false := blk_frozen (S4.blk 0 rfl) 2; have z3 : w4.cell? ⟨gW, 3, none⟩ = some (.slice none 0 0) := (blk_cell (S4.blk 0 rfl) 3).trans rfl; have fz3 : w4.frozen? ⟨gW, 3, none⟩ = false := blk_frozen (S4.blk 0 rfl) 3)
    | (go_at_call 25; refine Calls.named ?_; intro w5 hw5; have S5 : St W (fun _ => False) w5 [Pt gW #[.int .u64 a, .int .u64 b, .slice none 0 0, .slice A5 (pl xs).length c5] 66, Pt gB #[.int .u64 a, .int .u64 b, .slice A By.length c, .int .u8 o] 60] := (by rw [hw5]; exact (((S4.put 0 _ rfl).put 1 _ rfl).put 2 _ rfl).put 3 _ rfl); clear hw5 S4; refine (chain_lives w5).mono ?_; rintro e w6 ⟨rfl, hb⟩; have S6 := S5.call hb; clear S5 hb))
  go_ret
  exact ⟨rfl, S6.below⟩
set_option maxHeartbeats 8000000 in
set_option maxRecDepth 100000 in
theorem tells_good (a b o i t m : Int) (A : Option Addr) (c : Nat) (By : List Int) (W : World) (hC : (Kd.int .u8).C W A By.length By) (hc : By.length ≤ c) (h60 : By.length ≤ 60) (xs : List SE) (hxs : jobberlaw38_Run_entries.f 61 a b By o = some xs) (hx : Ents xs By.length) (hg : standG a b xs = true) (ha : 0 ≤ a ∧ a < 18446744073709551616) (hi : 0 ≤ i ∧ i < 18446744073709551616) : Calls Try.prog 7 #[.agg #[.int .u64 a, .int .u64 b, .slice A By.length c, .int .u8 o], .int .u64 i, .int .u64 t, .int .i64 m] W fun e w' => e = .returned (.bool true) ∧ Below W.heap.size W w' := by
  have hu := Try.underlying60
  have hu2 := Try.underlying66
  have S0 := St.start W (fun _ => False)
  have HL : Aside0 (∀ W', Below W.heap.size W W' → Calls Try.prog 24 #[.agg #[.int .u64 a, .int .u64 b, .slice A By.length c, .int .u8 o]] W' fun e w' => e = .returned (.bool true) ∧ Below W'.heap.size W' w') := ⟨fun W' hb => jobberlaw38_Run_light.calls a b A c By o true W' (Kd.C_below hC hb) hc (by unfold jobberlaw38_Run_light.f; rw [decide_eq_true (by omega)])⟩
  have HB : Aside0 (∀ W', Below W.heap.size W W' → Calls Try.prog 26 #[.agg #[.int .u64 a, .int .u64 b, .slice A By.length c, .int .u8 o]] W' fun e w' => ∃ g A5 c5, e = .returned (.tuple #[.pointer (some ⟨g, 0, none⟩), .agg #[.int .u64 a, .int .u64 b, .slice none 0 0, .slice A5 (pl xs).length c5], .bool true]) ∧ (pl xs).length ≤ c5 ∧ St W' (fun _ => False) w' [ChP g a b xs, Vw k63 A5 (pl xs).length (pl xs)]) := ⟨fun W' hb => both_good W' a b o A c By (Kd.C_below hC hb) hc h60 xs hxs hx hg ha⟩
  have HRW : Aside0 (Row a xs) := ⟨stand_row xs a b ha.1 ha.2 (by rw [hx.len]; omega) (fun x hm => by rw [hx.bod x hm]; omega) (fun x hm => (hx.rng x hm).1) hg⟩
  have HI := Aside0.mk hi
  clear hC hc h60 hxs hx hg ha hi
  go_enter Try.func7, Try.ntmps7
  go_wp2_with (first
    | ((with_reducible refine gate_dst (N := 4) rfl ?_); refine box_event ?hg (N := 4) ?hd (cs := #[.int .u64 a, .int .u64 b, .slice A By.length c, .int .u8 o]) (t := 60) ?hr ?_; (case hd => rfl); (case hg => rfl); (case hr => first | (go_simp; done) | (go_simp; rfl)); intro gB hg_ w1 hbB hb; have S1 := S0.box hg_ hb hbB; clear S0 hg_ hbB hb; have z0 : w1.cell? ⟨gB, 0, none⟩ = some (.int .u64 a) := (blk_cell (S1.blk 0 rfl) 0).trans rfl; have z1 : w1.cell? ⟨gB, 1, none⟩ = some (.int .u64 b) := (blk_cell (S1.blk 0 rfl) 1).trans rfl; have z2 : w1.cell? ⟨gB, 2, none⟩ = some (.slice A By.length c) := (blk_cell (S1.blk 0 rfl) 2).trans rfl; have z3 : w1.cell? ⟨gB, 3, none⟩ = some (.int .u8 o) := (blk_cell (S1.blk 0 rfl) 3).trans rfl)
    | (go_at_call 24; refine (HL.out _ S1.below).mono ?_; rintro e w2 ⟨rfl, hb⟩; have S2 := S1.call hb; clear S1 hb z0 z1 z2 z3; have z0 : w2.cell? ⟨gB, 0, none⟩ = some (.int .u64 a) := (blk_cell (S2.blk 0 rfl) 0).trans rfl; have z1 : w2.cell? ⟨gB, 1, none⟩ = some (.int .u64 b) := (blk_cell (S2.blk 0 rfl) 1).trans rfl; have z2 : w2.cell? ⟨gB, 2, none⟩ = some (.slice A By.length c) := (blk_cell (S2.blk 0 rfl) 2).trans rfl; have z3 : w2.cell? ⟨gB, 3, none⟩ = some (.int .u8 o) := (blk_cell (S2.blk 0 rfl) 3).trans rfl)
    | (go_at_call 26; refine (HB.out _ S2.below).mono ?_; rintro e w3 ⟨g, A5, c5, rfl, hc5, hs⟩; have S3 := S2.join0 hs; have HC5 := Aside0.mk hc5; clear S2 hs hc5 z0 z1 z2 z3)
    | ((with_reducible refine gate_dst (N := 10) rfl ?_); refine box_event ?hg (N := 10) ?hd (cs := #[.int .u64 0, .int .u64 0, .slice none 0 0, .slice none 0 0]) (t := 66) ?hr ?_; (case hd => rfl); (case hg => rfl); (case hr => first | (go_simp; done) | (go_simp; rfl)); intro gW hg_ w4 hbB hb; have S4 := S3.box hg_ hb hbB; clear S3 hg_ hbB hb; have z0 : w4.cell? ⟨gW, 0, none⟩ = some (.int .u64 0) := (blk_cell (S4.blk 0 rfl) 0).trans rfl; have fz0 : w4.frozen? ⟨gW, 0, none⟩ = false := blk_frozen (S4.blk 0 rfl) 0; have z1 : w4.cell? ⟨gW, 1, none⟩ = some (.int .u64 0) := (blk_cell (S4.blk 0 rfl) 1).trans rfl; have fz1 : w4.frozen? ⟨gW, 1, none⟩ = false := blk_frozen (S4.blk 0 rfl) 1; have z2 : w4.cell? ⟨gW, 2, none⟩ = some (.slice none 0 0) := (blk_cell (S4.blk 0 rfl) 2).trans rfl; have fz2 : w4.frozen? ⟨gW, 2, none⟩ = false := blk_frozen (S4.blk 0 rfl) 2; have z3 : w4.cell? ⟨gW, 3, none⟩ = some (.slice none 0 0) := (blk_cell (S4.blk 0 rfl) 3).trans rfl; have fz3 : w4.frozen? ⟨gW, 3, none⟩ = false := blk_frozen (S4.blk 0 rfl) 3))
  have S5 : St W (fun _ => False) _ [Pt gW #[.int .u64 a, .int .u64 b, .slice none 0 0, .slice A5 (pl xs).length c5] 66, ChP g a b xs, Vw k63 A5 (pl xs).length (pl xs), Pt gB #[.int .u64 a, .int .u64 b, .slice A By.length c, .int .u8 o] 60] := (((S4.put 0 _ rfl).put 1 _ rfl).put 2 _ rfl).put 3 _ rfl
  refine wp_named ?_
  intro w5 hw5
  rw [← hw5] at S5
  clear hw5 S4 z0 z1 z2 z3 fz0 fz1 fz2 fz3
  have z0 : w5.cell? ⟨gW, 0, none⟩ = some (.int .u64 a) := (blk_cell (S5.blk 0 rfl) 0).trans rfl; have z1 : w5.cell? ⟨gW, 1, none⟩ = some (.int .u64 b) := (blk_cell (S5.blk 0 rfl) 1).trans rfl; have z2 : w5.cell? ⟨gW, 2, none⟩ = some (.slice none 0 0) := (blk_cell (S5.blk 0 rfl) 2).trans rfl; have z3 : w5.cell? ⟨gW, 3, none⟩ = some (.slice A5 (pl xs).length c5) := (blk_cell (S5.blk 0 rfl) 3).trans rfl
  have HCH : Aside0 (∀ W', Below w5.heap.size w5 W' → Ch W' g a b xs) := ⟨fun W' hb => (S5.ch 1 rfl).below hb⟩
  have HC : Aside0 (∀ W', Below w5.heap.size w5 W' → k63.C W' A5 (pl xs).length (pl xs)) := ⟨fun W' hb => Kd.C_below (S5.vw 2 rfl) hb⟩
  have B5 := St.start w5 (fun _ => False)
  generalize hnr : newerF a b xs i t = nr
  have HNR := Aside0.mk hnr
  clear hnr
  go_region_held3 (fun w' => w'.cell? ⟨gW, 0, none⟩ = some (.int .u64 a) ∧ w'.cell? ⟨gW, 1, none⟩ = some (.int .u64 b) ∧ w'.cell? ⟨gW, 2, none⟩ = some (.slice none 0 0) ∧ w'.cell? ⟨gW, 3, none⟩ = some (.slice A5 (pl xs).length c5)) (first | exact Y9 | exact Y8 | exact Y7 | exact Y6 | go_keep) (first
    | (go_at_call 27; (with_reducible refine (like_true w5.drew g a b xs (HCH.out _ B5.drew1.below) A5 c5 (HC.out _ B5.drew1.below) HC5.out i m HI.out).mono ?_); rintro e w6 ⟨rfl, hb⟩; have S6 := S5.drew1.call hb; have B6 := B5.drew1.call hb; have Y6 : w6.cell? ⟨gW, 0, none⟩ = some (.int .u64 a) ∧ w6.cell? ⟨gW, 1, none⟩ = some (.int .u64 b) ∧ w6.cell? ⟨gW, 2, none⟩ = some (.slice none 0 0) ∧ w6.cell? ⟨gW, 3, none⟩ = some (.slice A5 (pl xs).length c5) := ⟨(blk_cell (S6.blk 0 rfl) 0).trans rfl, (blk_cell (S6.blk 0 rfl) 1).trans rfl, (blk_cell (S6.blk 0 rfl) 2).trans rfl, (blk_cell (S6.blk 0 rfl) 3).trans rfl⟩; clear S5 B5 hb)
    | (go_at_call 28; (with_reducible refine (chain_newer w6 g a b xs (HCH.out _ B6.below) i t nr HNR.out).mono ?_); rintro e w7 ⟨rfl, hb⟩; have S7 := S6.call hb; have B7 := B6.call hb; have Y7 : w7.cell? ⟨gW, 0, none⟩ = some (.int .u64 a) ∧ w7.cell? ⟨gW, 1, none⟩ = some (.int .u64 b) ∧ w7.cell? ⟨gW, 2, none⟩ = some (.slice none 0 0) ∧ w7.cell? ⟨gW, 3, none⟩ = some (.slice A5 (pl xs).length c5) := ⟨(blk_cell (S7.blk 0 rfl) 0).trans rfl, (blk_cell (S7.blk 0 rfl) 1).trans rfl, (blk_cell (S7.blk 0 rfl) 2).trans rfl, (blk_cell (S7.blk 0 rfl) 3).trans rfl⟩; clear S6 B6 Y6 hb)
    | (go_at_call 29; refine (rnewer w7 a b none 0 [] (Kd.C_nil _ _) (Nat.le_refl _) A5 c5 xs (HC.out _ B7.below) HRW.out i t).mono ?_; rintro e w8 ⟨rfl, hb⟩; rw [HNR.out]; have S8 := S7.call hb; have Y8 : w8.cell? ⟨gW, 0, none⟩ = some (.int .u64 a) ∧ w8.cell? ⟨gW, 1, none⟩ = some (.int .u64 b) ∧ w8.cell? ⟨gW, 2, none⟩ = some (.slice none 0 0) ∧ w8.cell? ⟨gW, 3, none⟩ = some (.slice A5 (pl xs).length c5) := ⟨(blk_cell (S8.blk 0 rfl) 0).trans rfl, (blk_cell (S8.blk 0 rfl) 1).trans rfl, (blk_cell (S8.blk 0 rfl) 2).trans rfl, (blk_cell (S8.blk 0 rfl) 3).trans rfl⟩; clear S7 B7 Y7 hb)
    | (go_at_call 25; (with_reducible refine (chain_lives w8).mono ?_); rintro e w9 ⟨rfl, hb⟩; have S9 := S8.call hb; have Y9 : w9.cell? ⟨gW, 0, none⟩ = some (.int .u64 a) ∧ w9.cell? ⟨gW, 1, none⟩ = some (.int .u64 b) ∧ w9.cell? ⟨gW, 2, none⟩ = some (.slice none 0 0) ∧ w9.cell? ⟨gW, 3, none⟩ = some (.slice A5 (pl xs).length c5) := ⟨(blk_cell (S9.blk 0 rfl) 0).trans rfl, (blk_cell (S9.blk 0 rfl) 1).trans rfl, (blk_cell (S9.blk 0 rfl) 2).trans rfl, (blk_cell (S9.blk 0 rfl) 3).trans rfl⟩; clear S8 Y8 hb))
  go_wp2
  go_ret
  exact ⟨rfl, S9.below⟩
def jobberlaw38_ChainTells.f (a0_0 a0_1 : Int) (l0_2 : List Int) (a0_3 a1 a2 a3 : Int) : Option Bool := if (0 ≤ a0_0 ∧ a0_0 < 18446744073709551616) ∧ (0 ≤ a1 ∧ a1 < 18446744073709551616) then some true else none
theorem jobberlaw38_ChainTells.calls (a0_0 a0_1 : Int) (A0_2 : Option Addr) (c0_2 : Nat) (l0_2 : List Int) (a0_3 a1 a2 a3 : Int) (r : Bool) (w : World) (hr0_2 : Kd.C (Kd.int .u8) w A0_2 l0_2.length l0_2) (hc0_2 : l0_2.length ≤ c0_2) (h : jobberlaw38_ChainTells.f a0_0 a0_1 l0_2 a0_3 a1 a2 a3 = some r) :
    Calls Try.prog 7 #[.agg #[.int .u64 a0_0, .int .u64 a0_1, .slice A0_2 l0_2.length c0_2, .int .u8 a0_3], .int .u64 a1, .int .u64 a2, .int .i64 a3] w fun e w' => e = .returned (.bool r) ∧ Below w.heap.size w w' := by
  unfold jobberlaw38_ChainTells.f at h
  by_cases hb : (0 ≤ a0_0 ∧ a0_0 < 18446744073709551616) ∧ (0 ≤ a1 ∧ a1 < 18446744073709551616)
  · rw [if_pos hb] at h
    obtain rfl := Option.some.inj h
    by_cases h60 : l0_2.length ≤ 60
    · obtain ⟨xs, hxs, hx⟩ := entries_ex a0_0 a0_1 a0_3 l0_2 h60 (k := 61) (by omega)
      cases hg : standG a0_0 a0_1 xs with
      | true => exact tells_good a0_0 a0_1 a0_3 a1 a2 a3 A0_2 c0_2 l0_2 w hr0_2 hc0_2 h60 xs hxs hx hg hb.1 hb.2
      | false => exact tells_bad a0_0 a0_1 a0_3 a1 a2 a3 A0_2 c0_2 l0_2 w hr0_2 hc0_2 h60 xs hxs hx hg
    · exact tells_many a0_0 a0_1 a0_3 a1 a2 a3 A0_2 c0_2 l0_2 w hr0_2 hc0_2 h60
  · rw [if_neg hb] at h
    cases h

end Go.Proofs.Ythkhfhhbldjdlaa.Cht
