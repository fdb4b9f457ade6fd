/- Printed by this session's wip/drive.py over the translation; some functions by hand. -/
import Derived.Test.YthkhfhhbldjdlaaChpx0
import Derived.Test.YthkhfhhbldjdlaaChpx1
import Derived.Test.YthkhfhhbldjdlaaChpx3
import Derived.Test.YthkhfhhbldjdlaaChpx4
import Derived.Test.YthkhfhhbldjdlaaChpx5
namespace Go.Proofs.Ythkhfhhbldjdlaa.Chp
open Go.RowKit Go.Proofs.YthkhfhhbldjdlaaW.PrintWords Go.Proofs.YthkhfhhbldjdlaaW.PrintLast Go.Proofs.YthkhfhhbldjdlaaW.PrintMore
attribute [local go_sem] max2_int min2_int max_two min_two max_three min_three max_four min_four   -- for this text's walks alone
set_option linter.unusedVariables false
set_option linter.unusedSimpArgs false

/-! ### jobberlaw38_like: function 27 (by hand) -/
theorem fldE0 (v0 v1 v2 : Value) (w : World) : (Instr.field 63 (.agg #[v0, v1, v2]) 0).run Try.prog w = .ok v0 w := by kernel_rfl
theorem fldE1 (v0 v1 v2 : Value) (w : World) : (Instr.field 63 (.agg #[v0, v1, v2]) 1).run Try.prog w = .ok v1 w := by kernel_rfl
attribute [local go_sem] fldE0 fldE1
set_option maxHeartbeats 16000000 in
set_option maxRecDepth 100000 in
theorem like_true (W : World) (g : Nat) (a b : Int) (xs : List SE) (hch : Ch W g a b xs) (A : Option Addr) (c : Nat) (hC : k63.C W A (pl xs).length (pl xs)) (hc : (pl xs).length ≤ c) (i most : Int) (hi : 0 ≤ i ∧ i < 18446744073709551616) :
    Calls Try.prog 27 #[.pointer (some ⟨g, 0, none⟩), .agg #[.int .u64 a, .int .u64 b, .slice none 0 0, .slice A (pl xs).length c], .int .u64 i, .int .i64 most] W fun e w' => e = .returned (.bool true) ∧ Below W.heap.size W w' := by
  have hu := Try.underlying66
  have hu2 := Try.underlying63
  have hu3 := Try.underlying78
  have S0 := St.start W (fun _ => False)
  have hrow := hch.row
  have hfew := hrow.few
  obtain ⟨tr, tb, ht⟩ : ∃ tr tb, termF a b xs i = (tr, tb) := ⟨_, _, rfl⟩
  obtain ⟨er, eb, he⟩ : ∃ er eb, entryF a xs i = (er, eb) := ⟨_, _, rfl⟩
  obtain ⟨ys, hy⟩ : ∃ ys, fromF a xs i most = ys := ⟨_, rfl⟩
  have hyl : ys.length ≤ xs.length := by rw [← hy]; exact from_row a xs hrow i most
  have HCH : Aside0 (∀ W', Below W.heap.size W W' → Ch W' g a b xs) := ⟨fun W' hb => hch.below hb⟩
  have HC : Aside0 (∀ W', Below W.heap.size W W' → k63.C W' A (pl xs).length (pl xs)) := ⟨fun W' hb => Kd.C_below hC hb⟩
  have HT := Aside0.mk ht
  have HE := Aside0.mk he
  have HY := Aside0.mk hy
  have HI := Aside0.mk hi
  have HRW := Aside0.mk hrow
  have HFEW := Aside0.mk hfew
  have HYL := Aside0.mk hyl
  have Hc := Aside0.mk hc
  have hpl := pl_len xs
  have HPL := Aside0.mk hpl
  have HRT := Aside0.mk ((rterm_eval a b xs hrow i [] (k := xs.length + 1) (by omega)).trans (congrArg some ht))
  have HRE := Aside0.mk (rentry_eval a xs hrow a b i [] (k := xs.length + 1) (by omega))
  rw [he] at HRE
  have HRF := Aside0.mk (rfrom_eval xs hfew a b i most [] (k := xs.length + 1) (by omega))
  rw [fromL_eq a xs hrow, hy] at HRF
  have HP1 := Aside0.mk (plain_eval ys (by omega) (k := xs.length + 1) (by omega))
  have HP2 := Aside0.mk (plain_eval xs hfew (k := xs.length + 1) (by omega))
  have HS1 := Aside0.mk (same_eval (pl ys) (by rw [pl_len]; omega) (k := xs.length + 1) (by rw [pl_len]; omega))
  have HS2 := Aside0.mk (same_eval (pl xs) (by rw [pl_len]; omega) (k := xs.length + 1) (by rw [pl_len]; omega))
  have hn1 : wrap64 (((pl xs).length : Int) + 1) = (xs.length : Int) + 1 := by rw [hpl]; unfold wrap64; omega
  have hn2 : IntKind.i64.wrap (((pl xs).length : Int) + 1) = (xs.length : Int) + 1 := by rw [hpl, IntKind.wrap_i64]; omega
  have HFA := Aside0.mk (from_all a xs hrow)
  have hlen : ((xs.length : Int) == ((pl xs).length : Int)) = true := by rw [hpl]; simp
  clear hch hC hc hi hrow hfew ht he hy hyl hpl
  go_enter Try.func27, Try.ntmps27
  go_wp2_with (first
    | ((with_reducible refine gate_dst (N := 5) rfl ?_); refine box_event ?hg (N := 5) ?hd (cs := #[.int .u64 a, .int .u64 b, .slice none 0 0, .slice A (pl xs).length c]) (t := 66) ?hr ?_; (case hd => rfl); (case hg => rfl); (case hr => first | (go_simp; done) | (go_simp; rfl)); intro gW hg_ w1 hbB hb; have S1 := S0.box hg_ hb hbB; clear S0 hg_ hbB hb)
    | (go_at_call 44; refine (chain_floor w1 g a b xs (HCH.out _ S1.below)).mono ?_; rintro e w2 ⟨rfl, hb⟩; have S2 := S1.call hb; clear S1 hb)
    | (go_at_call 45; refine (chain_last w2 g a b xs (HCH.out _ S2.below)).mono ?_; rintro e w3 ⟨rfl, hb⟩; have S3 := S2.call hb; clear S2 hb)
    | (go_at_call 46; refine (chain_term w3 g a b xs (HCH.out _ S3.below) i HI.out tr tb HT.out).mono ?_; rintro e w4 ⟨rfl, hb⟩; have S4 := S3.call hb; clear S3 hb; have z0 : w4.cell? ⟨gW, 0, none⟩ = some (.int .u64 a) := (blk_cell (S4.blk 0 rfl) 0).trans rfl; have z1 : w4.cell? ⟨gW, 1, none⟩ = some (.int .u64 b) := (blk_cell (S4.blk 0 rfl) 1).trans rfl; have z2 : w4.cell? ⟨gW, 2, none⟩ = some (.slice none 0 0) := (blk_cell (S4.blk 0 rfl) 2).trans rfl; have z3 : w4.cell? ⟨gW, 3, none⟩ = some (.slice A (pl xs).length c) := (blk_cell (S4.blk 0 rfl) 3).trans rfl)
    | (go_at_call 37; refine (jobberref38_Chain_Term.calls (xs.length + 1) a b none 0 [] A c (pl xs) i tr tb w4 (Kd.C_nil _ _) (Nat.le_refl _) (HC.out _ S4.below) Hc.out HRT.out).mono ?_; rintro e w5 ⟨rfl, hb⟩; have S5 := S4.call hb; clear S4 hb z0 z1 z2 z3)
    | (go_at_call 34; refine (chain_entry w5 g a b xs (HCH.out _ S5.below) i HI.out er eb HE.out).mono ?_; rintro e w6 ⟨v, rfl, hR, hb⟩; obtain ⟨Ap, cp, e6⟩ := Kd.R_slice hR; subst e6; have S6 := S5.row hb hR; clear S5 hb hR)
    | ((with_reducible refine gate_dst (N := 17) rfl ?_); refine box_event ?hg (N := 17) ?hd (cs := #[.int .u64 0, .int .u64 0, .slice none 0 0]) (t := 78) ?hr ?_; (case hd => rfl); (case hg => rfl); (case hr => first | (go_simp; done) | (go_simp; rfl)); intro gP hg_ w7 hbB hb; have S7 := S6.box hg_ hb hbB; clear S6 hg_ hbB hb; have p0 : w7.cell? ⟨gP, 0, none⟩ = some (.int .u64 0) := (blk_cell (S7.blk 0 rfl) 0).trans rfl; have fp0 : w7.frozen? ⟨gP, 0, none⟩ = false := blk_frozen (S7.blk 0 rfl) 0; have p1 : w7.cell? ⟨gP, 1, none⟩ = some (.int .u64 0) := (blk_cell (S7.blk 0 rfl) 1).trans rfl; have fp1 : w7.frozen? ⟨gP, 1, none⟩ = false := blk_frozen (S7.blk 0 rfl) 1; have p2 : w7.cell? ⟨gP, 2, none⟩ = some (.slice none 0 0) := (blk_cell (S7.blk 0 rfl) 2).trans rfl; have fp2 : w7.frozen? ⟨gP, 2, none⟩ = false := blk_frozen (S7.blk 0 rfl) 2; have z0 : w7.cell? ⟨gW, 0, none⟩ = some (.int .u64 a) := (blk_cell (S7.blk 2 rfl) 0).trans rfl; have z1 : w7.cell? ⟨gW, 1, none⟩ = some (.int .u64 b) := (blk_cell (S7.blk 2 rfl) 1).trans rfl; have z2 : w7.cell? ⟨gW, 2, none⟩ = some (.slice none 0 0) := (blk_cell (S7.blk 2 rfl) 2).trans rfl; have z3 : w7.cell? ⟨gW, 3, none⟩ = some (.slice A (pl xs).length c) := (blk_cell (S7.blk 2 rfl) 3).trans rfl; have npw : gP ≠ gW := S7.ne 0 2 rfl rfl (by decide); have npw' := Ne.symm npw)
    | (go_at_call 62; refine Calls.named ?_; intro w7' hw7; have S7' : St W (fun _ => False) w7' [Pt gP #[.int .u64 er.f0, .int .u64 er.f1, .slice Ap er.f2.length cp] 78, Rw (Kd.int .u8) 5 (.slice Ap er.f2.length cp) er.f2, Pt gW #[.int .u64 a, .int .u64 b, .slice none 0 0, .slice A (pl xs).length c] 66] := (by rw [hw7]; exact ((S7.put 0 _ rfl).put 1 _ rfl).put 2 _ rfl); clear hw7 S7 p0 p1 p2 fp0 fp1 fp2 z0 z1 z2 z3 npw npw'; refine (jobberref38_Chain_Entry.calls (xs.length + 1) a b none 0 [] (fun _ => True) A c (pl xs) i er.f0 er.f1 er.f2 eb w7' (Kd.C_nil _ _) (Nat.le_refl _) (V_all k63_heap (HC.out _ S7'.below) Hc.out) HRE.out).mono ?_; rintro e w8 ⟨v, rfl, hV, hb⟩; obtain ⟨Aq, cq, e8⟩ := Kd.V_slice hV; subst e8; have S8 := S7'.call hb; have HV8 := Aside0.mk (Kd.V_reads' hV).2.2; have B8 := St.start w8 (fun _ => False); clear S7' hb hV)
    | ((with_reducible refine gate_dst (N := 19) rfl ?_); refine box_event ?hg (N := 19) ?hd (cs := #[.int .u64 0, .int .u64 0, .slice none 0 0]) (t := 63) ?hr ?_; (case hd => rfl); (case hg => rfl); (case hr => first | (go_simp; done) | (go_simp; rfl)); intro gQ hg_ w9 hbB hb; have S9 := S8.box hg_ hb hbB; have B9 := B8.box hg_ hb hbB; clear S8 B8 hg_ hbB hb; have q0 : w9.cell? ⟨gQ, 0, none⟩ = some (.int .u64 0) := (blk_cell (S9.blk 0 rfl) 0).trans rfl; have fq0 : w9.frozen? ⟨gQ, 0, none⟩ = false := blk_frozen (S9.blk 0 rfl) 0; have q1 : w9.cell? ⟨gQ, 1, none⟩ = some (.int .u64 0) := (blk_cell (S9.blk 0 rfl) 1).trans rfl; have fq1 : w9.frozen? ⟨gQ, 1, none⟩ = false := blk_frozen (S9.blk 0 rfl) 1; have q2 : w9.cell? ⟨gQ, 2, none⟩ = some (.slice none 0 0) := (blk_cell (S9.blk 0 rfl) 2).trans rfl; have fq2 : w9.frozen? ⟨gQ, 2, none⟩ = false := blk_frozen (S9.blk 0 rfl) 2; have z0 : w9.cell? ⟨gW, 0, none⟩ = some (.int .u64 a) := (blk_cell (S9.blk 3 rfl) 0).trans rfl; have z1 : w9.cell? ⟨gW, 1, none⟩ = some (.int .u64 b) := (blk_cell (S9.blk 3 rfl) 1).trans rfl; have z2 : w9.cell? ⟨gW, 2, none⟩ = some (.slice none 0 0) := (blk_cell (S9.blk 3 rfl) 2).trans rfl; have z3 : w9.cell? ⟨gW, 3, none⟩ = some (.slice A (pl xs).length c) := (blk_cell (S9.blk 3 rfl) 3).trans rfl; have nqw : gQ ≠ gW := S9.ne 0 3 rfl rfl (by decide); have nqw' := Ne.symm nqw)
    | (go_at_call 35; refine Calls.named ?_; intro w9' hw9; have S9' : St W (fun _ => False) w9' [Pt gQ #[.int .u64 er.f0, .int .u64 er.f1, .slice Aq er.f2.length cq] 63, Pt gP #[.int .u64 er.f0, .int .u64 er.f1, .slice Ap er.f2.length cp] 78, Rw (Kd.int .u8) 5 (.slice Ap er.f2.length cp) er.f2, Pt gW #[.int .u64 a, .int .u64 b, .slice none 0 0, .slice A (pl xs).length c] 66] := (by rw [hw9]; exact ((S9.put 0 _ rfl).put 1 _ rfl).put 2 _ rfl); have B9' : Below w8.heap.size w8 w9' := (by rw [hw9]; exact (((B9.put 0 _ rfl).put 1 _ rfl).put 2 _ rfl).below); clear hw9 S9 B9 q0 q1 q2 fq0 fq1 fq2 z0 z1 z2 z3 nqw nqw'; refine (rlast w9' a b none 0 [] (Kd.C_nil _ _) (Nat.le_refl _) A c xs (HC.out _ S9'.below) HRW.out).mono ?_; rintro e w10 ⟨A10, c10, bs10, rfl, _, _, hb⟩; have S10 := S9'.call hb; have HV10 := Aside0.mk (Kd.C_below HV8.out (below_step B9' hb)); clear S9' B9' HV8 hb; have z0 : w10.cell? ⟨gW, 0, none⟩ = some (.int .u64 a) := (blk_cell (S10.blk 3 rfl) 0).trans rfl; have z1 : w10.cell? ⟨gW, 1, none⟩ = some (.int .u64 b) := (blk_cell (S10.blk 3 rfl) 1).trans rfl; have z2 : w10.cell? ⟨gW, 2, none⟩ = some (.slice none 0 0) := (blk_cell (S10.blk 3 rfl) 2).trans rfl; have z3 : w10.cell? ⟨gW, 3, none⟩ = some (.slice A (pl xs).length c) := (blk_cell (S10.blk 3 rfl) 3).trans rfl; have p0 : w10.cell? ⟨gP, 0, none⟩ = some (.int .u64 er.f0) := (blk_cell (S10.blk 1 rfl) 0).trans rfl; have p1 : w10.cell? ⟨gP, 1, none⟩ = some (.int .u64 er.f1) := (blk_cell (S10.blk 1 rfl) 1).trans rfl; have p2 : w10.cell? ⟨gP, 2, none⟩ = some (.slice Ap er.f2.length cp) := (blk_cell (S10.blk 1 rfl) 2).trans rfl; have q0 : w10.cell? ⟨gQ, 0, none⟩ = some (.int .u64 er.f0) := (blk_cell (S10.blk 0 rfl) 0).trans rfl; have q1 : w10.cell? ⟨gQ, 1, none⟩ = some (.int .u64 er.f1) := (blk_cell (S10.blk 0 rfl) 1).trans rfl; have q2 : w10.cell? ⟨gQ, 2, none⟩ = some (.slice Aq er.f2.length cq) := (blk_cell (S10.blk 0 rfl) 2).trans rfl)
    | (go_at_call 35; refine (rlast w10 a b none 0 [] (Kd.C_nil _ _) (Nat.le_refl _) A c xs (HC.out _ S10.below) HRW.out).mono ?_; rintro e w11 ⟨A11, c11, bs11, rfl, _, _, hb⟩; have S11 := S10.call hb; have hv11 := Kd.C_below HV10.out hb; clear S10 HV10 hb z0 z1 z2 z3 p0 p1 p2 q0 q1 q2; have z0 : w11.cell? ⟨gW, 0, none⟩ = some (.int .u64 a) := (blk_cell (S11.blk 3 rfl) 0).trans rfl; have z1 : w11.cell? ⟨gW, 1, none⟩ = some (.int .u64 b) := (blk_cell (S11.blk 3 rfl) 1).trans rfl; have z2 : w11.cell? ⟨gW, 2, none⟩ = some (.slice none 0 0) := (blk_cell (S11.blk 3 rfl) 2).trans rfl; have z3 : w11.cell? ⟨gW, 3, none⟩ = some (.slice A (pl xs).length c) := (blk_cell (S11.blk 3 rfl) 3).trans rfl; have p0 : w11.cell? ⟨gP, 0, none⟩ = some (.int .u64 er.f0) := (blk_cell (S11.blk 1 rfl) 0).trans rfl; have p1 : w11.cell? ⟨gP, 1, none⟩ = some (.int .u64 er.f1) := (blk_cell (S11.blk 1 rfl) 1).trans rfl; have p2 : w11.cell? ⟨gP, 2, none⟩ = some (.slice Ap er.f2.length cp) := (blk_cell (S11.blk 1 rfl) 2).trans rfl; have q0 : w11.cell? ⟨gQ, 0, none⟩ = some (.int .u64 er.f0) := (blk_cell (S11.blk 0 rfl) 0).trans rfl; have q1 : w11.cell? ⟨gQ, 1, none⟩ = some (.int .u64 er.f1) := (blk_cell (S11.blk 0 rfl) 1).trans rfl; have q2 : w11.cell? ⟨gQ, 2, none⟩ = some (.slice Aq er.f2.length cq) := (blk_cell (S11.blk 0 rfl) 2).trans rfl; obtain ⟨ok11, hR11⟩ := S11.rd 2 rfl; have hcv1 := Kd.C_string (P := Try.prog) (c := cp) Try.underlying22 Try.underlying5 Try.underlying9 (Kd.R_reads' hR11).2.2; have hcv2 := Kd.C_string (P := Try.prog) (c := cq) Try.underlying22 Try.underlying5 Try.underlying9 hv11; have HV11 := Aside0.mk hv11; clear hv11 hR11))
  clear p0 p1 p2 q0 q1 q2 hcv1 hcv2 HV11
  go_region_held3 (fun w' => w'.cell? ⟨gW, 0, none⟩ = some (.int .u64 a) ∧ w'.cell? ⟨gW, 1, none⟩ = some (.int .u64 b) ∧ w'.cell? ⟨gW, 2, none⟩ = some (.slice none 0 0) ∧ w'.cell? ⟨gW, 3, none⟩ = some (.slice A (pl xs).length c)) (first | exact Y19 | exact Y18 | exact Y17 | exact Y16 | exact Y15 | exact Y14 | exact Y13 | exact Y12 | go_keep) (first
    | (go_at_call 48; (with_reducible refine (chain_len w11.drew g a b xs (HCH.out _ S11.drew1.below)).mono ?_); rintro e w12 ⟨rfl, hb⟩; have S12 := S11.drew1.call hb; have Y12 : w12.cell? ⟨gW, 0, none⟩ = some (.int .u64 a) ∧ w12.cell? ⟨gW, 1, none⟩ = some (.int .u64 b) ∧ w12.cell? ⟨gW, 2, none⟩ = some (.slice none 0 0) ∧ w12.cell? ⟨gW, 3, none⟩ = some (.slice A (pl xs).length c) := ⟨(blk_cell (S12.blk 3 rfl) 0).trans rfl, (blk_cell (S12.blk 3 rfl) 1).trans rfl, (blk_cell (S12.blk 3 rfl) 2).trans rfl, (blk_cell (S12.blk 3 rfl) 3).trans rfl⟩; clear S11 hb)
    | (go_at_call 47; (with_reducible refine (chain_from w12 g a b xs (HCH.out _ S12.below) i most HI.out ys HY.out).mono ?_); rintro e w13 ⟨v, rfl, hR, hb⟩; obtain ⟨A13, c13, e13⟩ := Kd.R_slice hR; subst e13; have HR13 := Aside0.mk hR; have S13 := S12.call hb; have Y13 : w13.cell? ⟨gW, 0, none⟩ = some (.int .u64 a) ∧ w13.cell? ⟨gW, 1, none⟩ = some (.int .u64 b) ∧ w13.cell? ⟨gW, 2, none⟩ = some (.slice none 0 0) ∧ w13.cell? ⟨gW, 3, none⟩ = some (.slice A (pl xs).length c) := ⟨(blk_cell (S13.blk 3 rfl) 0).trans rfl, (blk_cell (S13.blk 3 rfl) 1).trans rfl, (blk_cell (S13.blk 3 rfl) 2).trans rfl, (blk_cell (S13.blk 3 rfl) 3).trans rfl⟩; clear S12 Y12 hb hR)
    | (go_at_call 41; (with_reducible refine (jobberlaw32_Plain.calls (xs.length + 1) (fun _ => True) A13 c13 ys (pl ys) w13 (Kd.R_V HR13.out) HP1.out).mono ?_); rintro e w14 ⟨v, rfl, hN, hb⟩; obtain ⟨A14, c14, e14⟩ := Kd.N_slice hN; subst e14; have HV14 := Aside0.mk (Kd.N_reads' hN).2; have S14 := S13.call hb; have Y14 : w14.cell? ⟨gW, 0, none⟩ = some (.int .u64 a) ∧ w14.cell? ⟨gW, 1, none⟩ = some (.int .u64 b) ∧ w14.cell? ⟨gW, 2, none⟩ = some (.slice none 0 0) ∧ w14.cell? ⟨gW, 3, none⟩ = some (.slice A (pl xs).length c) := ⟨(blk_cell (S14.blk 3 rfl) 0).trans rfl, (blk_cell (S14.blk 3 rfl) 1).trans rfl, (blk_cell (S14.blk 3 rfl) 2).trans rfl, (blk_cell (S14.blk 3 rfl) 3).trans rfl⟩; clear S13 Y13 HR13 hb hN)
    | (go_at_call 63; refine (jobberref38_Chain_From.calls (xs.length + 1) a b none 0 [] (fun _ => True) A c (pl xs) i most (pl ys) w14 (Kd.C_nil _ _) (Nat.le_refl _) (V_all k63_heap (HC.out _ S14.below) Hc.out) HRF.out).mono ?_; rintro e w15 ⟨v, rfl, hN, hb⟩; obtain ⟨A15, c15, e15⟩ := Kd.N_slice hN; subst e15; have HV15 := Aside0.mk (Kd.N_reads' hN).2; have HV14' := Aside0.mk (Kd.C_below HV14.out.2 hb); have HL14 := Aside0.mk HV14.out.1; have S15 := S14.call hb; have Y15 : w15.cell? ⟨gW, 0, none⟩ = some (.int .u64 a) ∧ w15.cell? ⟨gW, 1, none⟩ = some (.int .u64 b) ∧ w15.cell? ⟨gW, 2, none⟩ = some (.slice none 0 0) ∧ w15.cell? ⟨gW, 3, none⟩ = some (.slice A (pl xs).length c) := ⟨(blk_cell (S15.blk 3 rfl) 0).trans rfl, (blk_cell (S15.blk 3 rfl) 1).trans rfl, (blk_cell (S15.blk 3 rfl) 2).trans rfl, (blk_cell (S15.blk 3 rfl) 3).trans rfl⟩; clear S14 Y14 HV14 hb hN)
    | (go_at_call 42; (with_reducible refine (jobberlaw32_Same.calls (xs.length + 1) A14 c14 (pl ys) A15 c15 (pl ys) true w15 HV14'.out HL14.out HV15.out.2 HV15.out.1 HS1.out).mono ?_); rintro e w16 ⟨rfl, hd⟩; have S16 := S15.call hd.below; have Y16 : w16.cell? ⟨gW, 0, none⟩ = some (.int .u64 a) ∧ w16.cell? ⟨gW, 1, none⟩ = some (.int .u64 b) ∧ w16.cell? ⟨gW, 2, none⟩ = some (.slice none 0 0) ∧ w16.cell? ⟨gW, 3, none⟩ = some (.slice A (pl xs).length c) := ⟨(blk_cell (S16.blk 3 rfl) 0).trans rfl, (blk_cell (S16.blk 3 rfl) 1).trans rfl, (blk_cell (S16.blk 3 rfl) 2).trans rfl, (blk_cell (S16.blk 3 rfl) 3).trans rfl⟩; clear S15 Y15 hd HV14' HL14 HV15)
    | (go_at_call 47; (with_reducible refine (chain_from w16 g a b xs (HCH.out _ S16.below) 0 ((xs.length : Int) + 1) ⟨by decide, by decide⟩ xs HFA.out).mono ?_); rintro e w17 ⟨v, rfl, hR, hb⟩; obtain ⟨A17, c17, e17⟩ := Kd.R_slice hR; subst e17; have HR17 := Aside0.mk hR; have S17 := S16.call hb; have Y17 : w17.cell? ⟨gW, 0, none⟩ = some (.int .u64 a) ∧ w17.cell? ⟨gW, 1, none⟩ = some (.int .u64 b) ∧ w17.cell? ⟨gW, 2, none⟩ = some (.slice none 0 0) ∧ w17.cell? ⟨gW, 3, none⟩ = some (.slice A (pl xs).length c) := ⟨(blk_cell (S17.blk 3 rfl) 0).trans rfl, (blk_cell (S17.blk 3 rfl) 1).trans rfl, (blk_cell (S17.blk 3 rfl) 2).trans rfl, (blk_cell (S17.blk 3 rfl) 3).trans rfl⟩; clear S16 Y16 hb hR)
    | (go_at_call 41; (with_reducible refine (jobberlaw32_Plain.calls (xs.length + 1) (fun _ => True) A17 c17 xs (pl xs) w17 (Kd.R_V HR17.out) HP2.out).mono ?_); rintro e w18 ⟨v, rfl, hN, hb⟩; obtain ⟨A18, c18, e18⟩ := Kd.N_slice hN; subst e18; have HV18 := Aside0.mk (Kd.N_reads' hN).2; have S18 := S17.call hb; have Y18 : w18.cell? ⟨gW, 0, none⟩ = some (.int .u64 a) ∧ w18.cell? ⟨gW, 1, none⟩ = some (.int .u64 b) ∧ w18.cell? ⟨gW, 2, none⟩ = some (.slice none 0 0) ∧ w18.cell? ⟨gW, 3, none⟩ = some (.slice A (pl xs).length c) := ⟨(blk_cell (S18.blk 3 rfl) 0).trans rfl, (blk_cell (S18.blk 3 rfl) 1).trans rfl, (blk_cell (S18.blk 3 rfl) 2).trans rfl, (blk_cell (S18.blk 3 rfl) 3).trans rfl⟩; clear S17 Y17 HR17 hb hN)
    | (go_at_call 42; (with_reducible refine (jobberlaw32_Same.calls (xs.length + 1) A18 c18 (pl xs) A c (pl xs) true w18 HV18.out.2 HV18.out.1 (HC.out _ S18.below) Hc.out HS2.out).mono ?_); rintro e w19 ⟨rfl, hd⟩; have S19 := S18.call hd.below; have Y19 : w19.cell? ⟨gW, 0, none⟩ = some (.int .u64 a) ∧ w19.cell? ⟨gW, 1, none⟩ = some (.int .u64 b) ∧ w19.cell? ⟨gW, 2, none⟩ = some (.slice none 0 0) ∧ w19.cell? ⟨gW, 3, none⟩ = some (.slice A (pl xs).length c) := ⟨(blk_cell (S19.blk 3 rfl) 0).trans rfl, (blk_cell (S19.blk 3 rfl) 1).trans rfl, (blk_cell (S19.blk 3 rfl) 2).trans rfl, (blk_cell (S19.blk 3 rfl) 3).trans rfl⟩; clear S18 Y18 hd HV18))
  go_wp2
  go_ret
  exact ⟨rfl, S19.below⟩

/-! ### chain_Chain_Cut: function 32 (by hand) -/
/-! Its contract stands in the text of jobber/jobberlaw38.lives. -/

/-! ### chain_Chain_Append: function 33 (by hand) -/
/-! Its contract stands in the text of jobber/jobberlaw38.lives. -/

/-! ### jobberref38_Chain_Cut: function 36 (by hand) -/
/-! Its contract stands in the text of the law. -/

/-! ### jobberref38_Chain_Raise: function 38 (by hand) -/
/-! Its contract stands in the text of the law. -/

/-! ### chain_Chain_Raise: function 39 (by hand) -/
/-! Its contract stands in the text of jobber/jobberlaw38.lives. -/

end Go.Proofs.Ythkhfhhbldjdlaa.Chp
