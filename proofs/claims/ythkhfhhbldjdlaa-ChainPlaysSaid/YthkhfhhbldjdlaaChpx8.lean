/- Printed by this session's wip/drive.py over the translation; some functions by hand. -/
import Derived.Test.YthkhfhhbldjdlaaChpx0
import Derived.Test.YthkhfhhbldjdlaaChpx1
import Derived.Test.YthkhfhhbldjdlaaChpx2
import Derived.Test.YthkhfhhbldjdlaaChpx3
import Derived.Test.YthkhfhhbldjdlaaChpx4
import Derived.Test.YthkhfhhbldjdlaaChpx5
import Derived.Test.YthkhfhhbldjdlaaChpx6
import Derived.Test.YthkhfhhbldjdlaaChpx7
namespace Go.Proofs.Ythkhfhhbldjdlaa.Chp
open Go.RowKit Go.Proofs.YthkhfhhbldjdlaaW.PrintWords Go.Proofs.YthkhfhhbldjdlaaW.PrintLast Go.Proofs.YthkhfhhbldjdlaaW.PrintMore
attribute [local go_sem] max2_int min2_int max_two min_two max_three min_three max_four min_four   -- for this text's walks alone
set_option linter.unusedVariables false
set_option linter.unusedSimpArgs false

/-! ### jobberlaw38_ChainPlays: function 9 (by hand) -/
def condA (t : Nat) : Code → Option Code
  | .seq a b => (condA t a).orElse fun _ => condA t b
  | .cond (.tmp k) a b => if k == t then some a else (condA t a).orElse fun _ => condA t b
  | .cond _ a b => (condA t a).orElse fun _ => condA t b
  | .block _ a => condA t a
  | .loop a => condA t a
  | .scope a => condA t a
  | _ => none
def condB (t : Nat) : Code → Option Code
  | .seq a b => (condB t a).orElse fun _ => condB t b
  | .cond (.tmp k) a b => if k == t then some b else (condB t a).orElse fun _ => condB t b
  | .cond _ a b => (condB t a).orElse fun _ => condB t b
  | .block _ a => condB t a
  | .loop a => condB t a
  | .scope a => condB t a
  | _ => none
set_option maxHeartbeats 16000000 in
set_option maxRecDepth 100000 in
theorem kind1 {Q : Exit → Act → World → Prop} {cd : Code} (hcd : condA 109 ((Try.f9.body).getD .skip) = some cd) {W w : World} {F0 : Nat → Prop} {dfs : List Deferred} {g gW : Nat} {a b i : Int} {xs : List SE} {A5 : Option Addr} {c5 : Nat} 
    (hi : 0 ≤ i ∧ i < 18446744073709551616) (hc5 : (pl xs).length ≤ c5) (S : St W F0 w [Pt gW #[.int .u64 a, .int .u64 b, .slice none 0 0, .slice A5 (pl xs).length c5] 66, ChP g a b xs, Vw k63 A5 (pl xs).length (pl xs)])
    {T0 T1 T2 T3 T4 T7 T8 T9 T10 T12 T13 T14 T15 T16 T17 T18 T19 T20 T21 T22 T23 T24 T25 T26 T27 T28 T29 T30 T31 T32 T33 T34 T35 T36 T37 T38 T39 T40 T41 T42 T43 T44 T45 T46 T47 T48 T49 T50 T51 T52 T53 T54 T55 T56 T57 T58 T59 T60 T61 T62 T63 T64 T65 T66 T67 T68 T69 T70 T71 T72 T73 T74 T75 T76 T77 T78 T79 T80 T81 T82 T83 T84 T85 T86 T87 T88 T89 T90 T91 T92 T93 T94 T95 T96 T97 T98 T99 T100 T101 T102 T103 T104 T105 T106 T107 T108 T109 T110 T111 T112 T113 T114 T115 T116 T117 T118 T119 T120 T121 T122 T123 T124 T125 T126 T127 T128 T129 T130 T131 T132 T133 T134 T135 T136 T137 T138 T139 T140 T141 T142 T143 T144 T145 T146 T147 T148 T149 T150 T151 T152 T153 T154 T155 T156 T157 T158 T159 T160 T161 T162 T163 T164 T165 T166 T167 T168 T169 T170 T171 T172 T173 T174 T175 T176 T177 T178 T179 T180 T181 T182 T183 T184 T185 T186 T187 T188 T189 T190 T191 T192 T193 T194 T195 T196 T197 T198 T199 T200 T201 T202 T203 T204 T205 T206 T207 T208 T209 T210 T211 T212 T213 T214 T215 T216 T217 T218 T219 T220 T221 T222 T223 T224 T225 T226 T227 T228 T229 : Value}
    (hK : ∀ (u12 u13 u111 u112 u113 u114 u115 u116 u117 u118 u119 u120 u121 u122 u123 : Value) (w' : World) (a' b' : Int) (xs' : List SE) (A' : Option Addr) (c' : Nat), (pl xs').length ≤ c' → xs'.length ≤ xs.length + 60 → St W F0 w' [Pt gW #[.int .u64 a', .int .u64 b', .slice none 0 0, .slice A' (pl xs').length c'] 66, ChP g a' b' xs', Vw k63 A' (pl xs').length (pl xs')] → Q .normal { tmps := #[T0, T1, T2, T3, T4, .pointer (some ⟨g, 0, none⟩), .pointer (some ⟨gW, 0, none⟩), T7, T8, T9, T10, .int .u64 i, u12, u13, T14, T15, T16, T17, T18, T19, T20, T21, T22, T23, T24, T25, T26, T27, T28, T29, T30, T31, T32, T33, T34, T35, T36, T37, T38, T39, T40, T41, T42, T43, T44, T45, T46, T47, T48, T49, T50, T51, T52, T53, T54, T55, T56, T57, T58, T59, T60, T61, T62, T63, T64, T65, T66, T67, T68, T69, T70, T71, T72, T73, T74, T75, T76, T77, T78, T79, T80, T81, T82, T83, T84, T85, T86, T87, T88, T89, T90, T91, T92, T93, T94, T95, T96, T97, T98, T99, T100, T101, T102, T103, T104, T105, T106, T107, T108, T109, T110, u111, u112, u113, u114, u115, u116, u117, u118, u119, u120, u121, u122, u123, T124, T125, T126, T127, T128, T129, T130, T131, T132, T133, T134, T135, T136, T137, T138, T139, T140, T141, T142, T143, T144, T145, T146, T147, T148, T149, T150, T151, T152, T153, T154, T155, T156, T157, T158, T159, T160, T161, T162, T163, T164, T165, T166, T167, T168, T169, T170, T171, T172, T173, T174, T175, T176, T177, T178, T179, T180, T181, T182, T183, T184, T185, T186, T187, T188, T189, T190, T191, T192, T193, T194, T195, T196, T197, T198, T199, T200, T201, T202, T203, T204, T205, T206, T207, T208, T209, T210, T211, T212, T213, T214, T215, T216, T217, T218, T219, T220, T221, T222, T223, T224, T225, T226, T227, T228, T229], defers := dfs } w') :
    cd.wp Try.prog Q { tmps := #[T0, T1, T2, T3, T4, .pointer (some ⟨g, 0, none⟩), .pointer (some ⟨gW, 0, none⟩), T7, T8, T9, T10, .int .u64 i, T12, T13, T14, T15, T16, T17, T18, T19, T20, T21, T22, T23, T24, T25, T26, T27, T28, T29, T30, T31, T32, T33, T34, T35, T36, T37, T38, T39, T40, T41, T42, T43, T44, T45, T46, T47, T48, T49, T50, T51, T52, T53, T54, T55, T56, T57, T58, T59, T60, T61, T62, T63, T64, T65, T66, T67, T68, T69, T70, T71, T72, T73, T74, T75, T76, T77, T78, T79, T80, T81, T82, T83, T84, T85, T86, T87, T88, T89, T90, T91, T92, T93, T94, T95, T96, T97, T98, T99, T100, T101, T102, T103, T104, T105, T106, T107, T108, T109, T110, T111, T112, T113, T114, T115, T116, T117, T118, T119, T120, T121, T122, T123, T124, T125, T126, T127, T128, T129, T130, T131, T132, T133, T134, T135, T136, T137, T138, T139, T140, T141, T142, T143, T144, T145, T146, T147, T148, T149, T150, T151, T152, T153, T154, T155, T156, T157, T158, T159, T160, T161, T162, T163, T164, T165, T166, T167, T168, T169, T170, T171, T172, T173, T174, T175, T176, T177, T178, T179, T180, T181, T182, T183, T184, T185, T186, T187, T188, T189, T190, T191, T192, T193, T194, T195, T196, T197, T198, T199, T200, T201, T202, T203, T204, T205, T206, T207, T208, T209, T210, T211, T212, T213, T214, T215, T216, T217, T218, T219, T220, T221, T222, T223, T224, T225, T226, T227, T228, T229], defers := dfs } w := by
  have hcd' := Option.some.inj (hcd.symm.trans (show condA 109 ((Try.f9.body).getD .skip) = some _ from rfl))
  subst hcd'
  clear hcd
  have hu := Try.underlying66
  have hu2 := Try.underlying63
  have HI := Aside0.mk hi
  have HC5 := Aside0.mk hc5
  have hrow := ((S.front 1 rfl).chOpen).1
  have HRW := Aside0.mk hrow
  by_cases h : a < i ∧ i - 1 ≤ a + xs.length
  · obtain ⟨ys, hys⟩ : ∃ ys, xs.take (i - 1 - a).toNat = ys := ⟨_, rfl⟩
    have HR : Aside0 (∀ w F, Kd.F k63 w F A5 (pl xs).length (pl xs) → Calls Try.prog 36 #[.agg #[.int .u64 a, .int .u64 b, .slice none 0 0, .slice A5 (pl xs).length c5], .int .u64 i] w fun e w' => ∃ A' c', e = .returned (.tuple #[.agg #[.int .u64 a, .int .u64 b, .slice none 0 0, .slice A' (pl ys).length c'], .bool true]) ∧ (pl ys).length ≤ c' ∧ St w F w' [Vw k63 A' (pl ys).length (pl ys)]) := ⟨fun w F hF => by rw [← hys]; exact rcut w F a b i A5 c5 xs hF hc5 hrow hi h.1 h.2⟩
    have HX : Aside0 (∀ w F, ChP g a b xs w F → Calls Try.prog 32 #[.pointer (some ⟨g, 0, none⟩), .int .u64 i] w fun e w' => e = .returned (.int .i64 0) ∧ St w F w' [ChP g a b ys]) := ⟨fun w F hF => by rw [← hys]; exact chain_cut w F g a b xs hF i hi h.1 h.2⟩
    have HY : Aside0 (ys.length ≤ xs.length + 60) := ⟨by rw [← hys, List.length_take]; omega⟩
    clear hi hc5 hrow h hys
    have z0 : w.cell? ⟨gW, 0, none⟩ = some (.int .u64 a) := (blk_cell (S.blk 0 rfl) 0).trans rfl; have fz0 : w.frozen? ⟨gW, 0, none⟩ = false := blk_frozen (S.blk 0 rfl) 0; have z1 : w.cell? ⟨gW, 1, none⟩ = some (.int .u64 b) := (blk_cell (S.blk 0 rfl) 1).trans rfl; have fz1 : w.frozen? ⟨gW, 1, none⟩ = false := blk_frozen (S.blk 0 rfl) 1; have z2 : w.cell? ⟨gW, 2, none⟩ = some (.slice none 0 0) := (blk_cell (S.blk 0 rfl) 2).trans rfl; have fz2 : w.frozen? ⟨gW, 2, none⟩ = false := blk_frozen (S.blk 0 rfl) 2; have z3 : w.cell? ⟨gW, 3, none⟩ = some (.slice A5 (pl xs).length c5) := (blk_cell (S.blk 0 rfl) 3).trans rfl; have fz3 : w.frozen? ⟨gW, 3, none⟩ = false := blk_frozen (S.blk 0 rfl) 3
    go_wp2_with (first
      | (go_at_call 36; obtain ⟨F, hA, _, hj⟩ := (S.front 2 rfl).join; refine (HR.out w F hA).mono ?_; rintro e w2 ⟨A2, c2, rfl, hl2, hs⟩; have S2 := hj w2 _ hs; have HL2 := Aside0.mk hl2; clear hA hj hs S hl2 z0 z1 z2 z3 fz0 fz1 fz2 fz3; have z0 : w2.cell? ⟨gW, 0, none⟩ = some (.int .u64 a) := (blk_cell (S2.blk 1 rfl) 0).trans rfl; have fz0 : w2.frozen? ⟨gW, 0, none⟩ = false := blk_frozen (S2.blk 1 rfl) 0; have z1 : w2.cell? ⟨gW, 1, none⟩ = some (.int .u64 b) := (blk_cell (S2.blk 1 rfl) 1).trans rfl; have fz1 : w2.frozen? ⟨gW, 1, none⟩ = false := blk_frozen (S2.blk 1 rfl) 1; have z2 : w2.cell? ⟨gW, 2, none⟩ = some (.slice none 0 0) := (blk_cell (S2.blk 1 rfl) 2).trans rfl; have fz2 : w2.frozen? ⟨gW, 2, none⟩ = false := blk_frozen (S2.blk 1 rfl) 2; have z3 : w2.cell? ⟨gW, 3, none⟩ = some (.slice A5 (pl xs).length c5) := (blk_cell (S2.blk 1 rfl) 3).trans rfl; have fz3 : w2.frozen? ⟨gW, 3, none⟩ = false := blk_frozen (S2.blk 1 rfl) 3)
      | ((with_reducible refine gate_dst (N := 12) rfl ?_); refine box_event ?hg (N := 12) ?hd (cs := #[.int .u64 0, .int .u64 0, .slice none 0 0, .slice none 0 0]) (t := 66) ?hr ?_; (case hd => rfl); (case hg => rfl); (case hr => first | (go_simp; done) | (go_simp; rfl)); intro gX hg_ w3 hbB hb; have S3 := S2.box hg_ hb hbB; clear S2 hg_ hbB hb; have x0 : w3.cell? ⟨gX, 0, none⟩ = some (.int .u64 0) := (blk_cell (S3.blk 0 rfl) 0).trans rfl; have fx0 : w3.frozen? ⟨gX, 0, none⟩ = false := blk_frozen (S3.blk 0 rfl) 0; have x1 : w3.cell? ⟨gX, 1, none⟩ = some (.int .u64 0) := (blk_cell (S3.blk 0 rfl) 1).trans rfl; have fx1 : w3.frozen? ⟨gX, 1, none⟩ = false := blk_frozen (S3.blk 0 rfl) 1; have x2 : w3.cell? ⟨gX, 2, none⟩ = some (.slice none 0 0) := (blk_cell (S3.blk 0 rfl) 2).trans rfl; have fx2 : w3.frozen? ⟨gX, 2, none⟩ = false := blk_frozen (S3.blk 0 rfl) 2; have x3 : w3.cell? ⟨gX, 3, none⟩ = some (.slice none 0 0) := (blk_cell (S3.blk 0 rfl) 3).trans rfl; have fx3 : w3.frozen? ⟨gX, 3, none⟩ = false := blk_frozen (S3.blk 0 rfl) 3; have z0 : w3.cell? ⟨gW, 0, none⟩ = some (.int .u64 a) := (blk_cell (S3.blk 2 rfl) 0).trans rfl; have fz0 : w3.frozen? ⟨gW, 0, none⟩ = false := blk_frozen (S3.blk 2 rfl) 0; have z1 : w3.cell? ⟨gW, 1, none⟩ = some (.int .u64 b) := (blk_cell (S3.blk 2 rfl) 1).trans rfl; have fz1 : w3.frozen? ⟨gW, 1, none⟩ = false := blk_frozen (S3.blk 2 rfl) 1; have z2 : w3.cell? ⟨gW, 2, none⟩ = some (.slice none 0 0) := (blk_cell (S3.blk 2 rfl) 2).trans rfl; have fz2 : w3.frozen? ⟨gW, 2, none⟩ = false := blk_frozen (S3.blk 2 rfl) 2; have z3 : w3.cell? ⟨gW, 3, none⟩ = some (.slice A5 (pl xs).length c5) := (blk_cell (S3.blk 2 rfl) 3).trans rfl; have fz3 : w3.frozen? ⟨gW, 3, none⟩ = false := blk_frozen (S3.blk 2 rfl) 3; have nx : gX ≠ gW := S3.ne 0 2 rfl rfl (by decide); have nx' := Ne.symm nx)
      | (go_at_call 32; refine Calls.named ?_; intro w4 hw4; have S4 : St W F0 w4 [Pt gX #[.int .u64 a, .int .u64 b, .slice none 0 0, .slice A2 (pl ys).length c2] 66, Vw k63 A2 (pl ys).length (pl ys), Pt gW #[.int .u64 a, .int .u64 b, .slice none 0 0, .slice A5 (pl xs).length c5] 66, ChP g a b xs] := (by rw [hw4]; exact (((S3.put 0 _ rfl).put 1 _ rfl).put 2 _ rfl).put 3 _ rfl); clear hw4 S3 x0 x1 x2 x3 fx0 fx1 fx2 fx3 z0 z1 z2 z3 fz0 fz1 fz2 fz3 nx nx'; obtain ⟨F, hA, _, hj⟩ := (S4.front 3 rfl).join; refine (HX.out w4 F hA).mono ?_; rintro e w5 ⟨rfl, hs⟩; have S5 := hj w5 _ hs; clear hA hj hs S4; have x0 : w5.cell? ⟨gX, 0, none⟩ = some (.int .u64 a) := (blk_cell (S5.blk 1 rfl) 0).trans rfl; have x1 : w5.cell? ⟨gX, 1, none⟩ = some (.int .u64 b) := (blk_cell (S5.blk 1 rfl) 1).trans rfl; have x2 : w5.cell? ⟨gX, 2, none⟩ = some (.slice none 0 0) := (blk_cell (S5.blk 1 rfl) 2).trans rfl; have x3 : w5.cell? ⟨gX, 3, none⟩ = some (.slice A2 (pl ys).length c2) := (blk_cell (S5.blk 1 rfl) 3).trans rfl; have z0 : w5.cell? ⟨gW, 0, none⟩ = some (.int .u64 a) := (blk_cell (S5.blk 3 rfl) 0).trans rfl; have fz0 : w5.frozen? ⟨gW, 0, none⟩ = false := blk_frozen (S5.blk 3 rfl) 0; have z1 : w5.cell? ⟨gW, 1, none⟩ = some (.int .u64 b) := (blk_cell (S5.blk 3 rfl) 1).trans rfl; have fz1 : w5.frozen? ⟨gW, 1, none⟩ = false := blk_frozen (S5.blk 3 rfl) 1; have z2 : w5.cell? ⟨gW, 2, none⟩ = some (.slice none 0 0) := (blk_cell (S5.blk 3 rfl) 2).trans rfl; have fz2 : w5.frozen? ⟨gW, 2, none⟩ = false := blk_frozen (S5.blk 3 rfl) 2; have z3 : w5.cell? ⟨gW, 3, none⟩ = some (.slice A5 (pl xs).length c5) := (blk_cell (S5.blk 3 rfl) 3).trans rfl; have fz3 : w5.frozen? ⟨gW, 3, none⟩ = false := blk_frozen (S5.blk 3 rfl) 3; have nx : gX ≠ gW := S5.ne 1 3 rfl rfl (by decide); have nx' := Ne.symm nx))
    have S6 : St W F0 _ [Pt gW #[.int .u64 a, .int .u64 b, .slice none 0 0, .slice A2 (pl ys).length c2] 66, ChP g a b ys, Pt gX #[.int .u64 a, .int .u64 b, .slice none 0 0, .slice A2 (pl ys).length c2] 66, Vw k63 A2 (pl ys).length (pl ys)] := ((((S5.front 3 rfl).put 0 (.int .u64 a) rfl).put 1 (.int .u64 b) rfl).put 2 (.slice none 0 0) rfl).put 3 (.slice A2 (pl ys).length c2) rfl
    exact hK _ _ _ _ _ _ _ _ _ _ _ _ _ _ _ _ a b ys A2 c2 HL2.out HY.out ((S6.front 2 rfl).drop)
  · have HR : Aside0 (∀ w, k63.C w A5 (pl xs).length (pl xs) → Calls Try.prog 36 #[.agg #[.int .u64 a, .int .u64 b, .slice none 0 0, .slice A5 (pl xs).length c5], .int .u64 i] w fun e w' => e = .returned (.tuple #[.agg #[.int .u64 a, .int .u64 b, .slice none 0 0, .slice A5 (pl xs).length c5], .bool false]) ∧ Below w.heap.size w w') := ⟨fun w hF => rcut_bad w a b i A5 c5 xs hF hrow hi h⟩
    have HX : Aside0 (∀ w, Ch w g a b xs → Calls Try.prog 32 #[.pointer (some ⟨g, 0, none⟩), .int .u64 i] w fun e w' => e = .returned (.int .i64 2) ∧ Below w.heap.size w w') := ⟨fun w hF => chain_cut_bad w g a b xs hF i hi h⟩
    clear hi hc5 hrow h
    have z0 : w.cell? ⟨gW, 0, none⟩ = some (.int .u64 a) := (blk_cell (S.blk 0 rfl) 0).trans rfl; have fz0 : w.frozen? ⟨gW, 0, none⟩ = false := blk_frozen (S.blk 0 rfl) 0; have z1 : w.cell? ⟨gW, 1, none⟩ = some (.int .u64 b) := (blk_cell (S.blk 0 rfl) 1).trans rfl; have fz1 : w.frozen? ⟨gW, 1, none⟩ = false := blk_frozen (S.blk 0 rfl) 1; have z2 : w.cell? ⟨gW, 2, none⟩ = some (.slice none 0 0) := (blk_cell (S.blk 0 rfl) 2).trans rfl; have fz2 : w.frozen? ⟨gW, 2, none⟩ = false := blk_frozen (S.blk 0 rfl) 2; have z3 : w.cell? ⟨gW, 3, none⟩ = some (.slice A5 (pl xs).length c5) := (blk_cell (S.blk 0 rfl) 3).trans rfl; have fz3 : w.frozen? ⟨gW, 3, none⟩ = false := blk_frozen (S.blk 0 rfl) 3
    go_wp2_with (first
      | (go_at_call 36; refine (HR.out w (S.vw 2 rfl)).mono ?_; rintro e w2 ⟨rfl, hb⟩; have S2 := S.call hb; clear hb S z0 z1 z2 z3 fz0 fz1 fz2 fz3; have z0 : w2.cell? ⟨gW, 0, none⟩ = some (.int .u64 a) := (blk_cell (S2.blk 0 rfl) 0).trans rfl; have fz0 : w2.frozen? ⟨gW, 0, none⟩ = false := blk_frozen (S2.blk 0 rfl) 0; have z1 : w2.cell? ⟨gW, 1, none⟩ = some (.int .u64 b) := (blk_cell (S2.blk 0 rfl) 1).trans rfl; have fz1 : w2.frozen? ⟨gW, 1, none⟩ = false := blk_frozen (S2.blk 0 rfl) 1; have z2 : w2.cell? ⟨gW, 2, none⟩ = some (.slice none 0 0) := (blk_cell (S2.blk 0 rfl) 2).trans rfl; have fz2 : w2.frozen? ⟨gW, 2, none⟩ = false := blk_frozen (S2.blk 0 rfl) 2; have z3 : w2.cell? ⟨gW, 3, none⟩ = some (.slice A5 (pl xs).length c5) := (blk_cell (S2.blk 0 rfl) 3).trans rfl; have fz3 : w2.frozen? ⟨gW, 3, none⟩ = false := blk_frozen (S2.blk 0 rfl) 3)
      | ((with_reducible refine gate_dst (N := 12) rfl ?_); refine box_event ?hg (N := 12) ?hd (cs := #[.int .u64 0, .int .u64 0, .slice none 0 0, .slice none 0 0]) (t := 66) ?hr ?_; (case hd => rfl); (case hg => rfl); (case hr => first | (go_simp; done) | (go_simp; rfl)); intro gX hg_ w3 hbB hb; have S3 := S2.box hg_ hb hbB; clear S2 hg_ hbB hb; have x0 : w3.cell? ⟨gX, 0, none⟩ = some (.int .u64 0) := (blk_cell (S3.blk 0 rfl) 0).trans rfl; have fx0 : w3.frozen? ⟨gX, 0, none⟩ = false := blk_frozen (S3.blk 0 rfl) 0; have x1 : w3.cell? ⟨gX, 1, none⟩ = some (.int .u64 0) := (blk_cell (S3.blk 0 rfl) 1).trans rfl; have fx1 : w3.frozen? ⟨gX, 1, none⟩ = false := blk_frozen (S3.blk 0 rfl) 1; have x2 : w3.cell? ⟨gX, 2, none⟩ = some (.slice none 0 0) := (blk_cell (S3.blk 0 rfl) 2).trans rfl; have fx2 : w3.frozen? ⟨gX, 2, none⟩ = false := blk_frozen (S3.blk 0 rfl) 2; have x3 : w3.cell? ⟨gX, 3, none⟩ = some (.slice none 0 0) := (blk_cell (S3.blk 0 rfl) 3).trans rfl; have fx3 : w3.frozen? ⟨gX, 3, none⟩ = false := blk_frozen (S3.blk 0 rfl) 3; have z0 : w3.cell? ⟨gW, 0, none⟩ = some (.int .u64 a) := (blk_cell (S3.blk 1 rfl) 0).trans rfl; have fz0 : w3.frozen? ⟨gW, 0, none⟩ = false := blk_frozen (S3.blk 1 rfl) 0; have z1 : w3.cell? ⟨gW, 1, none⟩ = some (.int .u64 b) := (blk_cell (S3.blk 1 rfl) 1).trans rfl; have fz1 : w3.frozen? ⟨gW, 1, none⟩ = false := blk_frozen (S3.blk 1 rfl) 1; have z2 : w3.cell? ⟨gW, 2, none⟩ = some (.slice none 0 0) := (blk_cell (S3.blk 1 rfl) 2).trans rfl; have fz2 : w3.frozen? ⟨gW, 2, none⟩ = false := blk_frozen (S3.blk 1 rfl) 2; have z3 : w3.cell? ⟨gW, 3, none⟩ = some (.slice A5 (pl xs).length c5) := (blk_cell (S3.blk 1 rfl) 3).trans rfl; have fz3 : w3.frozen? ⟨gW, 3, none⟩ = false := blk_frozen (S3.blk 1 rfl) 3; have nx : gX ≠ gW := S3.ne 0 1 rfl rfl (by decide); have nx' := Ne.symm nx)
      | (go_at_call 32; refine Calls.named ?_; intro w4 hw4; have S4 : St W F0 w4 [Pt gX #[.int .u64 a, .int .u64 b, .slice none 0 0, .slice A5 (pl xs).length c5] 66, Pt gW #[.int .u64 a, .int .u64 b, .slice none 0 0, .slice A5 (pl xs).length c5] 66, ChP g a b xs, Vw k63 A5 (pl xs).length (pl xs)] := (by rw [hw4]; exact (((S3.put 0 _ rfl).put 1 _ rfl).put 2 _ rfl).put 3 _ rfl); clear hw4 S3 x0 x1 x2 x3 fx0 fx1 fx2 fx3 z0 z1 z2 z3 fz0 fz1 fz2 fz3 nx nx'; refine (HX.out w4 (S4.ch 2 rfl)).mono ?_; rintro e w5 ⟨rfl, hb⟩; have S5 := S4.call hb; clear hb S4; have x0 : w5.cell? ⟨gX, 0, none⟩ = some (.int .u64 a) := (blk_cell (S5.blk 0 rfl) 0).trans rfl; have x1 : w5.cell? ⟨gX, 1, none⟩ = some (.int .u64 b) := (blk_cell (S5.blk 0 rfl) 1).trans rfl; have x2 : w5.cell? ⟨gX, 2, none⟩ = some (.slice none 0 0) := (blk_cell (S5.blk 0 rfl) 2).trans rfl; have x3 : w5.cell? ⟨gX, 3, none⟩ = some (.slice A5 (pl xs).length c5) := (blk_cell (S5.blk 0 rfl) 3).trans rfl; have z0 : w5.cell? ⟨gW, 0, none⟩ = some (.int .u64 a) := (blk_cell (S5.blk 1 rfl) 0).trans rfl; have fz0 : w5.frozen? ⟨gW, 0, none⟩ = false := blk_frozen (S5.blk 1 rfl) 0; have z1 : w5.cell? ⟨gW, 1, none⟩ = some (.int .u64 b) := (blk_cell (S5.blk 1 rfl) 1).trans rfl; have fz1 : w5.frozen? ⟨gW, 1, none⟩ = false := blk_frozen (S5.blk 1 rfl) 1; have z2 : w5.cell? ⟨gW, 2, none⟩ = some (.slice none 0 0) := (blk_cell (S5.blk 1 rfl) 2).trans rfl; have fz2 : w5.frozen? ⟨gW, 2, none⟩ = false := blk_frozen (S5.blk 1 rfl) 2; have z3 : w5.cell? ⟨gW, 3, none⟩ = some (.slice A5 (pl xs).length c5) := (blk_cell (S5.blk 1 rfl) 3).trans rfl; have fz3 : w5.frozen? ⟨gW, 3, none⟩ = false := blk_frozen (S5.blk 1 rfl) 3; have nx : gX ≠ gW := S5.ne 0 1 rfl rfl (by decide); have nx' := Ne.symm nx))
    have S6 : St W F0 _ [Pt gW #[.int .u64 a, .int .u64 b, .slice none 0 0, .slice A5 (pl xs).length c5] 66, Pt gX #[.int .u64 a, .int .u64 b, .slice none 0 0, .slice A5 (pl xs).length c5] 66, ChP g a b xs, Vw k63 A5 (pl xs).length (pl xs)] := ((((S5.front 1 rfl).put 0 (.int .u64 a) rfl).put 1 (.int .u64 b) rfl).put 2 (.slice none 0 0) rfl).put 3 (.slice A5 (pl xs).length c5) rfl
    exact hK _ _ _ _ _ _ _ _ _ _ _ _ _ _ _ _ a b xs A5 c5 HC5.out (Nat.le_add_right _ _) ((S6.front 1 rfl).drop)
set_option maxHeartbeats 16000000 in
set_option maxRecDepth 100000 in
theorem kind2 {Q : Exit → Act → World → Prop} {cd : Code} (hcd : condA 124 ((Try.f9.body).getD .skip) = some cd) {W w : World} {F0 : Nat → Prop} {dfs : List Deferred} {g gW : Nat} {a b i : Int} {xs : List SE} {A5 : Option Addr} {c5 : Nat} {gO : Nat} {kd nn mo ri rt od : Int} {raw : Bool} {AB : Option Addr} {bl cB : Nat}
    (hi : 0 ≤ i ∧ i < 18446744073709551616) (hc5 : (pl xs).length ≤ c5) (S : St W F0 w [Pt gW #[.int .u64 a, .int .u64 b, .slice none 0 0, .slice A5 (pl xs).length c5] 66, ChP g a b xs, Vw k63 A5 (pl xs).length (pl xs), Pt gO #[.int .i64 kd, .int .u64 nn, .int .u64 mo, .int .u64 ri, .int .u64 rt, .slice AB bl cB, .int .u8 od, .bool raw] 84])
    {T0 T1 T2 T3 T4 T7 T8 T10 T12 T13 T14 T15 T16 T17 T18 T19 T20 T21 T22 T23 T24 T25 T26 T27 T28 T29 T30 T31 T32 T33 T34 T35 T36 T37 T38 T39 T40 T41 T42 T43 T44 T45 T46 T47 T48 T49 T50 T51 T52 T53 T54 T55 T56 T57 T58 T59 T60 T61 T62 T63 T64 T65 T66 T67 T68 T69 T70 T71 T72 T73 T74 T75 T76 T77 T78 T79 T80 T81 T82 T83 T84 T85 T86 T87 T88 T89 T90 T91 T92 T93 T94 T95 T96 T97 T98 T99 T100 T101 T102 T103 T104 T105 T106 T107 T108 T109 T110 T111 T112 T113 T114 T115 T116 T117 T118 T119 T120 T121 T122 T123 T124 T125 T126 T127 T128 T129 T130 T131 T132 T133 T134 T135 T136 T137 T138 T139 T140 T141 T142 T143 T144 T145 T146 T147 T148 T149 T150 T151 T152 T153 T154 T155 T156 T157 T158 T159 T160 T161 T162 T163 T164 T165 T166 T167 T168 T169 T170 T171 T172 T173 T174 T175 T176 T177 T178 T179 T180 T181 T182 T183 T184 T185 T186 T187 T188 T189 T190 T191 T192 T193 T194 T195 T196 T197 T198 T199 T200 T201 T202 T203 T204 T205 T206 T207 T208 T209 T210 T211 T212 T213 T214 T215 T216 T217 T218 T219 T220 T221 T222 T223 T224 T225 T226 T227 T228 T229 : Value}
    (hK : ∀ (u14 u15 u16 u17 u126 u127 u128 u129 u130 u131 u132 u133 u134 u135 u136 u137 u138 u139 u140 u141 u142 u143 u144 u145 u146 u147 u148 u149 u150 u151 u152 u153 : Value) (w' : World) (a' b' : Int) (xs' : List SE) (A' : Option Addr) (c' : Nat), (pl xs').length ≤ c' → xs'.length ≤ xs.length + 60 → St W F0 w' [Pt gW #[.int .u64 a', .int .u64 b', .slice none 0 0, .slice A' (pl xs').length c'] 66, ChP g a' b' xs', Vw k63 A' (pl xs').length (pl xs')] → Q .normal { tmps := #[T0, T1, T2, T3, T4, .pointer (some ⟨g, 0, none⟩), .pointer (some ⟨gW, 0, none⟩), T7, T8, .pointer (some ⟨gO, 0, none⟩), T10, .int .u64 i, T12, T13, u14, u15, u16, u17, T18, T19, T20, T21, T22, T23, T24, T25, T26, T27, T28, T29, T30, T31, T32, T33, T34, T35, T36, T37, T38, T39, T40, T41, T42, T43, T44, T45, T46, T47, T48, T49, T50, T51, T52, T53, T54, T55, T56, T57, T58, T59, T60, T61, T62, T63, T64, T65, T66, T67, T68, T69, T70, T71, T72, T73, T74, T75, T76, T77, T78, T79, T80, T81, T82, T83, T84, T85, T86, T87, T88, T89, T90, T91, T92, T93, T94, T95, T96, T97, T98, T99, T100, T101, T102, T103, T104, T105, T106, T107, T108, T109, T110, T111, T112, T113, T114, T115, T116, T117, T118, T119, T120, T121, T122, T123, T124, T125, u126, u127, u128, u129, u130, u131, u132, u133, u134, u135, u136, u137, u138, u139, u140, u141, u142, u143, u144, u145, u146, u147, u148, u149, u150, u151, u152, u153, T154, T155, T156, T157, T158, T159, T160, T161, T162, T163, T164, T165, T166, T167, T168, T169, T170, T171, T172, T173, T174, T175, T176, T177, T178, T179, T180, T181, T182, T183, T184, T185, T186, T187, T188, T189, T190, T191, T192, T193, T194, T195, T196, T197, T198, T199, T200, T201, T202, T203, T204, T205, T206, T207, T208, T209, T210, T211, T212, T213, T214, T215, T216, T217, T218, T219, T220, T221, T222, T223, T224, T225, T226, T227, T228, T229], defers := dfs } w') :
    cd.wp Try.prog Q { tmps := #[T0, T1, T2, T3, T4, .pointer (some ⟨g, 0, none⟩), .pointer (some ⟨gW, 0, none⟩), T7, T8, .pointer (some ⟨gO, 0, none⟩), T10, .int .u64 i, T12, T13, T14, T15, T16, T17, T18, T19, T20, T21, T22, T23, T24, T25, T26, T27, T28, T29, T30, T31, T32, T33, T34, T35, T36, T37, T38, T39, T40, T41, T42, T43, T44, T45, T46, T47, T48, T49, T50, T51, T52, T53, T54, T55, T56, T57, T58, T59, T60, T61, T62, T63, T64, T65, T66, T67, T68, T69, T70, T71, T72, T73, T74, T75, T76, T77, T78, T79, T80, T81, T82, T83, T84, T85, T86, T87, T88, T89, T90, T91, T92, T93, T94, T95, T96, T97, T98, T99, T100, T101, T102, T103, T104, T105, T106, T107, T108, T109, T110, T111, T112, T113, T114, T115, T116, T117, T118, T119, T120, T121, T122, T123, T124, T125, T126, T127, T128, T129, T130, T131, T132, T133, T134, T135, T136, T137, T138, T139, T140, T141, T142, T143, T144, T145, T146, T147, T148, T149, T150, T151, T152, T153, T154, T155, T156, T157, T158, T159, T160, T161, T162, T163, T164, T165, T166, T167, T168, T169, T170, T171, T172, T173, T174, T175, T176, T177, T178, T179, T180, T181, T182, T183, T184, T185, T186, T187, T188, T189, T190, T191, T192, T193, T194, T195, T196, T197, T198, T199, T200, T201, T202, T203, T204, T205, T206, T207, T208, T209, T210, T211, T212, T213, T214, T215, T216, T217, T218, T219, T220, T221, T222, T223, T224, T225, T226, T227, T228, T229], defers := dfs } w := by
  have hcd' := Option.some.inj (hcd.symm.trans (show condA 124 ((Try.f9.body).getD .skip) = some _ from rfl))
  subst hcd'
  clear hcd
  have hu := Try.underlying66
  have hu2 := Try.underlying63
  have HI := Aside0.mk hi
  have HC5 := Aside0.mk hc5
  have hrow := ((S.front 1 rfl).chOpen).1
  have HRW := Aside0.mk hrow
  obtain ⟨tr, tb, ht⟩ : ∃ u v, termF a b xs i = (u, v) := ⟨_, _, rfl⟩
  obtain ⟨q, hq⟩ : ∃ q, mo.tmod 2 = q := ⟨_, rfl⟩
  obtain ⟨tt, htt⟩ : ∃ tt, IntKind.u64.wrap (tr + q) = tt := ⟨_, rfl⟩
  obtain ⟨sb, hsb⟩ : ∃ sb, (tb && (tr == tt)) = sb := ⟨_, rfl⟩
  obtain ⟨ys, hys⟩ : ∃ ys, (if sb = true then xs.drop (i - a).toNat else []) = ys := ⟨_, rfl⟩
  have HT : Aside0 (∀ w, k63.C w A5 (pl xs).length (pl xs) → Calls Try.prog 37 #[.agg #[.int .u64 a, .int .u64 b, .slice none 0 0, .slice A5 (pl xs).length c5], .int .u64 i] w fun e w' => e = .returned (.tuple #[.int .u64 tr, .bool tb]) ∧ Below w.heap.size w w') := ⟨fun w h =>
    jobberref38_Chain_Term.calls (xs.length + 1) a b none 0 [] A5 c5 (pl xs) i tr tb w (Kd.C_nil _ _) (Nat.le_refl _) h hc5 (by rw [rterm_eval a b xs hrow i [] (by omega), ht])⟩
  have HR : Aside0 (∀ w F, Kd.F k63 w F A5 (pl xs).length (pl xs) → Calls Try.prog 38 #[.agg #[.int .u64 a, .int .u64 b, .slice none 0 0, .slice A5 (pl xs).length c5], .int .u64 i, .int .u64 tt] w fun e w' => ∃ A' c', e = .returned (.tuple #[.agg #[.int .u64 i, .int .u64 tt, .slice none 0 0, .slice A' (pl ys).length c'], .bool sb]) ∧ (pl ys).length ≤ c' ∧ St w F w' [Vw k63 A' (pl ys).length (pl ys)]) := ⟨fun w F hF => by
    subst hys hsb
    cases hc : (tb && (tr == tt)) with
    | true =>
      rw [if_pos rfl]
      obtain ⟨rfl, h2⟩ : tb = true ∧ tr = tt := by simpa using hc
      exact rraise_stay w F a b i tt A5 c5 xs hF hc5 hrow (by rw [ht, h2])
    | false =>
      rw [if_neg (by simp)]
      refine (rraise_not w a b i tt tr tb A5 c5 xs (Kd.F_now hF) hc5 hrow ht hc).mono ?_
      rintro e w' ⟨rfl, hb⟩
      exact ⟨none, 0, rfl, Nat.le_refl _, nil_Vw ((St.start w F).call hb)⟩⟩
  have HX : Aside0 (∀ w F, ChP g a b xs w F → Calls Try.prog 39 #[.pointer (some ⟨g, 0, none⟩), .int .u64 i, .int .u64 tt] w fun e w' => e = .returned (.bool sb) ∧ St w F w' [ChP g i tt ys]) := ⟨fun w F hF => by
    subst hys hsb
    cases hc : (tb && (tr == tt)) with
    | true =>
      rw [if_pos rfl]
      obtain ⟨rfl, h2⟩ : tb = true ∧ tr = tt := by simpa using hc
      exact chain_raise_stay w F g a b xs hF i tt hi (by rw [ht, h2])
    | false =>
      rw [if_neg (by simp)]
      exact chain_raise_not w F g a b xs hF i tt tr tb hi ht hc⟩
  have HY : Aside0 (ys.length ≤ xs.length + 60) := ⟨by rw [← hys]; split <;> simp; omega⟩
  clear hi hc5 hrow ht hsb hys
  have z0 : w.cell? ⟨gW, 0, none⟩ = some (.int .u64 a) := (blk_cell (S.blk 0 rfl) 0).trans rfl; have fz0 : w.frozen? ⟨gW, 0, none⟩ = false := blk_frozen (S.blk 0 rfl) 0; have z1 : w.cell? ⟨gW, 1, none⟩ = some (.int .u64 b) := (blk_cell (S.blk 0 rfl) 1).trans rfl; have fz1 : w.frozen? ⟨gW, 1, none⟩ = false := blk_frozen (S.blk 0 rfl) 1; have z2 : w.cell? ⟨gW, 2, none⟩ = some (.slice none 0 0) := (blk_cell (S.blk 0 rfl) 2).trans rfl; have fz2 : w.frozen? ⟨gW, 2, none⟩ = false := blk_frozen (S.blk 0 rfl) 2; have z3 : w.cell? ⟨gW, 3, none⟩ = some (.slice A5 (pl xs).length c5) := (blk_cell (S.blk 0 rfl) 3).trans rfl; have fz3 : w.frozen? ⟨gW, 3, none⟩ = false := blk_frozen (S.blk 0 rfl) 3
  have o0 : w.cell? ⟨gO, 0, none⟩ = some (.int .i64 kd) := (blk_cell (S.blk 3 rfl) 0).trans rfl; have o1 : w.cell? ⟨gO, 1, none⟩ = some (.int .u64 nn) := (blk_cell (S.blk 3 rfl) 1).trans rfl; have o2 : w.cell? ⟨gO, 2, none⟩ = some (.int .u64 mo) := (blk_cell (S.blk 3 rfl) 2).trans rfl; have o3 : w.cell? ⟨gO, 3, none⟩ = some (.int .u64 ri) := (blk_cell (S.blk 3 rfl) 3).trans rfl; have o4 : w.cell? ⟨gO, 4, none⟩ = some (.int .u64 rt) := (blk_cell (S.blk 3 rfl) 4).trans rfl; have o5 : w.cell? ⟨gO, 5, none⟩ = some (.slice AB bl cB) := (blk_cell (S.blk 3 rfl) 5).trans rfl; have o6 : w.cell? ⟨gO, 6, none⟩ = some (.int .u8 od) := (blk_cell (S.blk 3 rfl) 6).trans rfl; have o7 : w.cell? ⟨gO, 7, none⟩ = some (.bool raw) := (blk_cell (S.blk 3 rfl) 7).trans rfl
  go_wp2_with (first
    | (go_at_call 37; refine (HT.out w (S.vw 2 rfl)).mono ?_; rintro e w1 ⟨rfl, hb⟩; have S1 := S.call hb; clear hb S z0 z1 z2 z3 fz0 fz1 fz2 fz3 o0 o1 o2 o3 o4 o5 o6 o7; have z0 : w1.cell? ⟨gW, 0, none⟩ = some (.int .u64 a) := (blk_cell (S1.blk 0 rfl) 0).trans rfl; have fz0 : w1.frozen? ⟨gW, 0, none⟩ = false := blk_frozen (S1.blk 0 rfl) 0; have z1 : w1.cell? ⟨gW, 1, none⟩ = some (.int .u64 b) := (blk_cell (S1.blk 0 rfl) 1).trans rfl; have fz1 : w1.frozen? ⟨gW, 1, none⟩ = false := blk_frozen (S1.blk 0 rfl) 1; have z2 : w1.cell? ⟨gW, 2, none⟩ = some (.slice none 0 0) := (blk_cell (S1.blk 0 rfl) 2).trans rfl; have fz2 : w1.frozen? ⟨gW, 2, none⟩ = false := blk_frozen (S1.blk 0 rfl) 2; have z3 : w1.cell? ⟨gW, 3, none⟩ = some (.slice A5 (pl xs).length c5) := (blk_cell (S1.blk 0 rfl) 3).trans rfl; have fz3 : w1.frozen? ⟨gW, 3, none⟩ = false := blk_frozen (S1.blk 0 rfl) 3; have o0 : w1.cell? ⟨gO, 0, none⟩ = some (.int .i64 kd) := (blk_cell (S1.blk 3 rfl) 0).trans rfl; have o1 : w1.cell? ⟨gO, 1, none⟩ = some (.int .u64 nn) := (blk_cell (S1.blk 3 rfl) 1).trans rfl; have o2 : w1.cell? ⟨gO, 2, none⟩ = some (.int .u64 mo) := (blk_cell (S1.blk 3 rfl) 2).trans rfl; have o3 : w1.cell? ⟨gO, 3, none⟩ = some (.int .u64 ri) := (blk_cell (S1.blk 3 rfl) 3).trans rfl; have o4 : w1.cell? ⟨gO, 4, none⟩ = some (.int .u64 rt) := (blk_cell (S1.blk 3 rfl) 4).trans rfl; have o5 : w1.cell? ⟨gO, 5, none⟩ = some (.slice AB bl cB) := (blk_cell (S1.blk 3 rfl) 5).trans rfl; have o6 : w1.cell? ⟨gO, 6, none⟩ = some (.int .u8 od) := (blk_cell (S1.blk 3 rfl) 6).trans rfl; have o7 : w1.cell? ⟨gO, 7, none⟩ = some (.bool raw) := (blk_cell (S1.blk 3 rfl) 7).trans rfl)
    | (go_at_call 38; obtain ⟨F, hA, _, hj⟩ := (S1.front 2 rfl).join; refine (HR.out w1 F hA).mono ?_; rintro e w2 ⟨A2, c2, rfl, hl2, hs⟩; have S2 := hj w2 _ hs; have HL2 := Aside0.mk hl2; clear hA hj hs S1 hl2 z0 z1 z2 z3 fz0 fz1 fz2 fz3 o0 o1 o2 o3 o4 o5 o6 o7; have z0 : w2.cell? ⟨gW, 0, none⟩ = some (.int .u64 a) := (blk_cell (S2.blk 1 rfl) 0).trans rfl; have fz0 : w2.frozen? ⟨gW, 0, none⟩ = false := blk_frozen (S2.blk 1 rfl) 0; have z1 : w2.cell? ⟨gW, 1, none⟩ = some (.int .u64 b) := (blk_cell (S2.blk 1 rfl) 1).trans rfl; have fz1 : w2.frozen? ⟨gW, 1, none⟩ = false := blk_frozen (S2.blk 1 rfl) 1; have z2 : w2.cell? ⟨gW, 2, none⟩ = some (.slice none 0 0) := (blk_cell (S2.blk 1 rfl) 2).trans rfl; have fz2 : w2.frozen? ⟨gW, 2, none⟩ = false := blk_frozen (S2.blk 1 rfl) 2; have z3 : w2.cell? ⟨gW, 3, none⟩ = some (.slice A5 (pl xs).length c5) := (blk_cell (S2.blk 1 rfl) 3).trans rfl; have fz3 : w2.frozen? ⟨gW, 3, none⟩ = false := blk_frozen (S2.blk 1 rfl) 3; have o0 : w2.cell? ⟨gO, 0, none⟩ = some (.int .i64 kd) := (blk_cell (S2.blk 3 rfl) 0).trans rfl; have o1 : w2.cell? ⟨gO, 1, none⟩ = some (.int .u64 nn) := (blk_cell (S2.blk 3 rfl) 1).trans rfl; have o2 : w2.cell? ⟨gO, 2, none⟩ = some (.int .u64 mo) := (blk_cell (S2.blk 3 rfl) 2).trans rfl; have o3 : w2.cell? ⟨gO, 3, none⟩ = some (.int .u64 ri) := (blk_cell (S2.blk 3 rfl) 3).trans rfl; have o4 : w2.cell? ⟨gO, 4, none⟩ = some (.int .u64 rt) := (blk_cell (S2.blk 3 rfl) 4).trans rfl; have o5 : w2.cell? ⟨gO, 5, none⟩ = some (.slice AB bl cB) := (blk_cell (S2.blk 3 rfl) 5).trans rfl; have o6 : w2.cell? ⟨gO, 6, none⟩ = some (.int .u8 od) := (blk_cell (S2.blk 3 rfl) 6).trans rfl; have o7 : w2.cell? ⟨gO, 7, none⟩ = some (.bool raw) := (blk_cell (S2.blk 3 rfl) 7).trans rfl)
    | ((with_reducible refine gate_dst (N := 16) rfl ?_); refine box_event ?hg (N := 16) ?hd (cs := #[.int .u64 0, .int .u64 0, .slice none 0 0, .slice none 0 0]) (t := 66) ?hr ?_; (case hd => rfl); (case hg => rfl); (case hr => first | (go_simp; done) | (go_simp; rfl)); intro gX hg_ w3 hbB hb; have S3 := S2.box hg_ hb hbB; clear S2 hg_ hbB hb; have x0 : w3.cell? ⟨gX, 0, none⟩ = some (.int .u64 0) := (blk_cell (S3.blk 0 rfl) 0).trans rfl; have fx0 : w3.frozen? ⟨gX, 0, none⟩ = false := blk_frozen (S3.blk 0 rfl) 0; have x1 : w3.cell? ⟨gX, 1, none⟩ = some (.int .u64 0) := (blk_cell (S3.blk 0 rfl) 1).trans rfl; have fx1 : w3.frozen? ⟨gX, 1, none⟩ = false := blk_frozen (S3.blk 0 rfl) 1; have x2 : w3.cell? ⟨gX, 2, none⟩ = some (.slice none 0 0) := (blk_cell (S3.blk 0 rfl) 2).trans rfl; have fx2 : w3.frozen? ⟨gX, 2, none⟩ = false := blk_frozen (S3.blk 0 rfl) 2; have x3 : w3.cell? ⟨gX, 3, none⟩ = some (.slice none 0 0) := (blk_cell (S3.blk 0 rfl) 3).trans rfl; have fx3 : w3.frozen? ⟨gX, 3, none⟩ = false := blk_frozen (S3.blk 0 rfl) 3; have z0 : w3.cell? ⟨gW, 0, none⟩ = some (.int .u64 a) := (blk_cell (S3.blk 2 rfl) 0).trans rfl; have fz0 : w3.frozen? ⟨gW, 0, none⟩ = false := blk_frozen (S3.blk 2 rfl) 0; have z1 : w3.cell? ⟨gW, 1, none⟩ = some (.int .u64 b) := (blk_cell (S3.blk 2 rfl) 1).trans rfl; have fz1 : w3.frozen? ⟨gW, 1, none⟩ = false := blk_frozen (S3.blk 2 rfl) 1; have z2 : w3.cell? ⟨gW, 2, none⟩ = some (.slice none 0 0) := (blk_cell (S3.blk 2 rfl) 2).trans rfl; have fz2 : w3.frozen? ⟨gW, 2, none⟩ = false := blk_frozen (S3.blk 2 rfl) 2; have z3 : w3.cell? ⟨gW, 3, none⟩ = some (.slice A5 (pl xs).length c5) := (blk_cell (S3.blk 2 rfl) 3).trans rfl; have fz3 : w3.frozen? ⟨gW, 3, none⟩ = false := blk_frozen (S3.blk 2 rfl) 3; have nx : gX ≠ gW := S3.ne 0 2 rfl rfl (by decide); have nx' := Ne.symm nx; have no : gX ≠ gO := S3.ne 0 4 rfl rfl (by decide); have no' := Ne.symm no; have o0 : w3.cell? ⟨gO, 0, none⟩ = some (.int .i64 kd) := (blk_cell (S3.blk 4 rfl) 0).trans rfl; have o1 : w3.cell? ⟨gO, 1, none⟩ = some (.int .u64 nn) := (blk_cell (S3.blk 4 rfl) 1).trans rfl; have o2 : w3.cell? ⟨gO, 2, none⟩ = some (.int .u64 mo) := (blk_cell (S3.blk 4 rfl) 2).trans rfl; have o3 : w3.cell? ⟨gO, 3, none⟩ = some (.int .u64 ri) := (blk_cell (S3.blk 4 rfl) 3).trans rfl; have o4 : w3.cell? ⟨gO, 4, none⟩ = some (.int .u64 rt) := (blk_cell (S3.blk 4 rfl) 4).trans rfl; have o5 : w3.cell? ⟨gO, 5, none⟩ = some (.slice AB bl cB) := (blk_cell (S3.blk 4 rfl) 5).trans rfl; have o6 : w3.cell? ⟨gO, 6, none⟩ = some (.int .u8 od) := (blk_cell (S3.blk 4 rfl) 6).trans rfl; have o7 : w3.cell? ⟨gO, 7, none⟩ = some (.bool raw) := (blk_cell (S3.blk 4 rfl) 7).trans rfl)
    | (go_at_call 39; refine Calls.named ?_; intro w4 hw4; have S4 : St W F0 w4 [Pt gX #[.int .u64 i, .int .u64 tt, .slice none 0 0, .slice A2 (pl ys).length c2] 66, Vw k63 A2 (pl ys).length (pl ys), Pt gW #[.int .u64 a, .int .u64 b, .slice none 0 0, .slice A5 (pl xs).length c5] 66, ChP g a b xs, Pt gO #[.int .i64 kd, .int .u64 nn, .int .u64 mo, .int .u64 ri, .int .u64 rt, .slice AB bl cB, .int .u8 od, .bool raw] 84] := (by rw [hw4]; exact (((S3.put 0 _ rfl).put 1 _ rfl).put 2 _ rfl).put 3 _ rfl); clear hw4 S3 x0 x1 x2 x3 fx0 fx1 fx2 fx3 z0 z1 z2 z3 fz0 fz1 fz2 fz3 nx nx' no no' o0 o1 o2 o3 o4 o5 o6 o7; obtain ⟨F, hA, _, hj⟩ := (S4.front 3 rfl).join; refine (HX.out w4 F hA).mono ?_; rintro e w5 ⟨rfl, hs⟩; have S5 := hj w5 _ hs; clear hA hj hs S4; have x0 : w5.cell? ⟨gX, 0, none⟩ = some (.int .u64 i) := (blk_cell (S5.blk 1 rfl) 0).trans rfl; have x1 : w5.cell? ⟨gX, 1, none⟩ = some (.int .u64 tt) := (blk_cell (S5.blk 1 rfl) 1).trans rfl; have x2 : w5.cell? ⟨gX, 2, none⟩ = some (.slice none 0 0) := (blk_cell (S5.blk 1 rfl) 2).trans rfl; have x3 : w5.cell? ⟨gX, 3, none⟩ = some (.slice A2 (pl ys).length c2) := (blk_cell (S5.blk 1 rfl) 3).trans rfl; have z0 : w5.cell? ⟨gW, 0, none⟩ = some (.int .u64 a) := (blk_cell (S5.blk 3 rfl) 0).trans rfl; have fz0 : w5.frozen? ⟨gW, 0, none⟩ = false := blk_frozen (S5.blk 3 rfl) 0; have z1 : w5.cell? ⟨gW, 1, none⟩ = some (.int .u64 b) := (blk_cell (S5.blk 3 rfl) 1).trans rfl; have fz1 : w5.frozen? ⟨gW, 1, none⟩ = false := blk_frozen (S5.blk 3 rfl) 1; have z2 : w5.cell? ⟨gW, 2, none⟩ = some (.slice none 0 0) := (blk_cell (S5.blk 3 rfl) 2).trans rfl; have fz2 : w5.frozen? ⟨gW, 2, none⟩ = false := blk_frozen (S5.blk 3 rfl) 2; have z3 : w5.cell? ⟨gW, 3, none⟩ = some (.slice A5 (pl xs).length c5) := (blk_cell (S5.blk 3 rfl) 3).trans rfl; have fz3 : w5.frozen? ⟨gW, 3, none⟩ = false := blk_frozen (S5.blk 3 rfl) 3; have nx : gX ≠ gW := S5.ne 1 3 rfl rfl (by decide); have nx' := Ne.symm nx))
  have S6 : St W F0 _ [Pt gW #[.int .u64 i, .int .u64 tt, .slice none 0 0, .slice A2 (pl ys).length c2] 66, ChP g i tt ys, Pt gX #[.int .u64 i, .int .u64 tt, .slice none 0 0, .slice A2 (pl ys).length c2] 66, Vw k63 A2 (pl ys).length (pl ys), Pt gO #[.int .i64 kd, .int .u64 nn, .int .u64 mo, .int .u64 ri, .int .u64 rt, .slice AB bl cB, .int .u8 od, .bool raw] 84] := ((((S5.front 3 rfl).put 0 (.int .u64 i) rfl).put 1 (.int .u64 tt) rfl).put 2 (.slice none 0 0) rfl).put 3 (.slice A2 (pl ys).length c2) rfl
  exact hK _ _ _ _ _ _ _ _ _ _ _ _ _ _ _ _ _ _ _ _ _ _ _ _ _ _ _ _ _ _ _ _ _ i tt ys A2 c2 HL2.out HY.out (((S6.front 2 rfl).drop).take 3)
set_option maxHeartbeats 16000000 in
set_option maxRecDepth 100000 in
theorem pk16 {Q : Exit → Act → World → Prop} {ops : Array Oper} (hops : findR 16 ((Try.f9.body).getD .skip) = some ops) {wr : World} {dfs : List Deferred} {gL gX : Nat} {li lt y0 y1 : Int}
    (nx : gX ≠ gL)
    (l0 : wr.cell? ⟨gL, 0, none⟩ = some (.int .u64 li)) (l1 : wr.cell? ⟨gL, 1, none⟩ = some (.int .u64 lt)) (x0 : wr.cell? ⟨gX, 0, none⟩ = some (.int .u64 y0)) (x1 : wr.cell? ⟨gX, 1, none⟩ = some (.int .u64 y1))
    (f0 : wr.frozen? ⟨gX, 0, none⟩ = false) (f1 : wr.frozen? ⟨gX, 1, none⟩ = false)
    {T0 T1 T2 T3 T4 T5 T6 T7 T8 T9 T11 T12 T13 T14 T15 T16 T17 T18 T19 T20 T21 T22 T23 T24 T26 T27 T28 T29 T30 T31 T32 T33 T34 T35 T36 T37 T38 T39 T40 T41 T42 T43 T44 T45 T46 T47 T48 T49 T50 T51 T52 T53 T54 T55 T56 T57 T58 T59 T60 T61 T62 T63 T64 T65 T66 T67 T68 T69 T70 T71 T72 T73 T74 T75 T76 T77 T78 T79 T80 T81 T82 T83 T84 T85 T86 T87 T88 T89 T90 T91 T92 T93 T94 T95 T96 T97 T98 T99 T100 T101 T102 T103 T104 T105 T106 T107 T108 T109 T110 T111 T112 T113 T114 T115 T116 T117 T118 T119 T120 T121 T122 T123 T124 T125 T126 T127 T128 T129 T130 T131 T132 T133 T134 T135 T136 T137 T138 T139 T140 T141 T142 T143 T144 T145 T146 T147 T148 T149 T150 T151 T152 T153 T154 T155 T156 T157 T158 T159 T160 T161 T162 T163 T164 T165 T166 T167 T168 T169 T170 T171 T172 T173 T174 T175 T176 T177 T178 T179 T180 T181 T182 T183 T184 T185 T186 T187 T188 T189 T190 T191 T192 T193 T194 T195 T196 T197 T198 T199 T200 T201 T202 T203 T204 T205 T206 T207 T208 T209 T210 T211 T212 T213 T214 T215 T216 T217 T218 T219 T220 T221 T222 T223 T224 T225 T226 T227 T228 T229 : Value}
    (hK : ∀ (u82 u83 u84 u85 u86 u87 : Value) ,  Q .normal { tmps := #[T0, T1, T2, T3, T4, T5, T6, T7, T8, T9, .pointer (some ⟨gL, 0, none⟩), T11, T12, T13, T14, T15, T16, T17, T18, T19, T20, T21, T22, T23, T24, .pointer (some ⟨gX, 0, none⟩), T26, T27, T28, T29, T30, T31, T32, T33, T34, T35, T36, T37, T38, T39, T40, T41, T42, T43, T44, T45, T46, T47, T48, T49, T50, T51, T52, T53, T54, T55, T56, T57, T58, T59, T60, T61, T62, T63, T64, T65, T66, T67, T68, T69, T70, T71, T72, T73, T74, T75, T76, T77, T78, T79, T80, T81, u82, u83, u84, u85, u86, u87, T88, T89, T90, T91, T92, T93, T94, T95, T96, T97, T98, T99, T100, T101, T102, T103, T104, T105, T106, T107, T108, T109, T110, T111, T112, T113, T114, T115, T116, T117, T118, T119, T120, T121, T122, T123, T124, T125, T126, T127, T128, T129, T130, T131, T132, T133, T134, T135, T136, T137, T138, T139, T140, T141, T142, T143, T144, T145, T146, T147, T148, T149, T150, T151, T152, T153, T154, T155, T156, T157, T158, T159, T160, T161, T162, T163, T164, T165, T166, T167, T168, T169, T170, T171, T172, T173, T174, T175, T176, T177, T178, T179, T180, T181, T182, T183, T184, T185, T186, T187, T188, T189, T190, T191, T192, T193, T194, T195, T196, T197, T198, T199, T200, T201, T202, T203, T204, T205, T206, T207, T208, T209, T210, T211, T212, T213, T214, T215, T216, T217, T218, T219, T220, T221, T222, T223, T224, T225, T226, T227, T228, T229], defers := dfs } ((wr.drew.setCell ⟨gX, 0, none⟩ (.int .u64 li)).setCell ⟨gX, 1, none⟩ (.int .u64 lt))) :
    (Code.region 16 ops true).wp Try.prog Q { tmps := #[T0, T1, T2, T3, T4, T5, T6, T7, T8, T9, .pointer (some ⟨gL, 0, none⟩), T11, T12, T13, T14, T15, T16, T17, T18, T19, T20, T21, T22, T23, T24, .pointer (some ⟨gX, 0, none⟩), T26, T27, T28, T29, T30, T31, T32, T33, T34, T35, T36, T37, T38, T39, T40, T41, T42, T43, T44, T45, T46, T47, T48, T49, T50, T51, T52, T53, T54, T55, T56, T57, T58, T59, T60, T61, T62, T63, T64, T65, T66, T67, T68, T69, T70, T71, T72, T73, T74, T75, T76, T77, T78, T79, T80, T81, T82, T83, T84, T85, T86, T87, T88, T89, T90, T91, T92, T93, T94, T95, T96, T97, T98, T99, T100, T101, T102, T103, T104, T105, T106, T107, T108, T109, T110, T111, T112, T113, T114, T115, T116, T117, T118, T119, T120, T121, T122, T123, T124, T125, T126, T127, T128, T129, T130, T131, T132, T133, T134, T135, T136, T137, T138, T139, T140, T141, T142, T143, T144, T145, T146, T147, T148, T149, T150, T151, T152, T153, T154, T155, T156, T157, T158, T159, T160, T161, T162, T163, T164, T165, T166, T167, T168, T169, T170, T171, T172, T173, T174, T175, T176, T177, T178, T179, T180, T181, T182, T183, T184, T185, T186, T187, T188, T189, T190, T191, T192, T193, T194, T195, T196, T197, T198, T199, T200, T201, T202, T203, T204, T205, T206, T207, T208, T209, T210, T211, T212, T213, T214, T215, T216, T217, T218, T219, T220, T221, T222, T223, T224, T225, T226, T227, T228, T229], defers := dfs } wr := by
  have hops' := Option.some.inj (hops.symm.trans (show findR 16 ((Try.f9.body).getD .skip) = some _ from rfl))
  subst hops'
  clear hops
  have s0x : (wr.drew.setCell ⟨gX, 0, none⟩ (.int .u64 li)).cell? ⟨gL, 0, none⟩ = some (.int .u64 li) := (World.cell?_setCell_other _ _ _ _ (by intro h; simp only [Addr.mk.injEq] at h; exact nx h.1)).trans l0
  have s1x : (wr.drew.setCell ⟨gX, 0, none⟩ (.int .u64 li)).cell? ⟨gL, 1, none⟩ = some (.int .u64 lt) := (World.cell?_setCell_other _ _ _ _ (by intro h; simp only [Addr.mk.injEq] at h; exact nx h.1)).trans l1
  have nx' := Ne.symm nx
  refine wp_mono (Q := onlyN (Q .normal)) ?_ onlyN_to
  refine start_ (n := 8) (S := fun w' => w'.cell? ⟨gL, 0, none⟩ = some (.int .u64 li) ∧ w'.cell? ⟨gL, 1, none⟩ = some (.int .u64 lt)) (ds := [7]) #[false, false, false, false, false, false, false, false] (by kernel_rfl) rfl rfl ⟨l0, l1⟩ (fun hHeld => ?_)
  refine pure_ (i := 0) (N := some 82) (v := ?_) (a' := ?_) #[true, false, false, false, false, false, false, false] rfl rfl (by kernel_rfl) (fun _ _ _ h => h) (Or.inl ⟨by rfl, ?_⟩) ?_ ?_
  rotate_left
  · intro w'
    go_simp
    with_reducible rfl
  rotate_left
  · simp only [Act.put, List.setIfInBounds_toArray, List.set_cons_zero, List.set_cons_succ, i64_w, i32_w]
    rfl
  refine pure_ (i := 2) (N := some 84) (v := ?_) (a' := ?_) #[true, false, true, false, false, false, false, false] rfl rfl (by kernel_rfl) (fun _ _ _ h => h) (Or.inl ⟨by rfl, ?_⟩) ?_ ?_
  rotate_left
  · intro w'
    go_simp
    with_reducible rfl
  rotate_left
  · simp only [Act.put, List.setIfInBounds_toArray, List.set_cons_zero, List.set_cons_succ, i64_w, i32_w]
    rfl
  refine take_ (i := 1) (N := some 83) (v := ?_) (a' := ?_) #[true, true, true, false, false, false, false, false] rfl rfl (by kernel_rfl) (fun _ _ _ h => h) (Or.inl ⟨by rfl, ?_⟩) hHeld ?_ ?_
  rotate_left
  · rintro w' ⟨s0, s1⟩
    go_simp
    with_reducible rfl
  rotate_left
  · simp only [Act.put, List.setIfInBounds_toArray, List.set_cons_zero, List.set_cons_succ, i64_w, i32_w]
    rfl
  refine pure_ (i := 4) (N := some 86) (v := ?_) (a' := ?_) #[true, true, true, false, true, false, false, false] rfl rfl (by kernel_rfl) (fun _ _ _ h => h) (Or.inl ⟨by rfl, ?_⟩) ?_ ?_
  rotate_left
  · intro w'
    go_simp
    with_reducible rfl
  rotate_left
  · simp only [Act.put, List.setIfInBounds_toArray, List.set_cons_zero, List.set_cons_succ, i64_w, i32_w]
    rfl
  refine take_ (i := 3) (N := some 85) (v := ?_) (a' := ?_) #[true, true, true, true, true, false, false, false] rfl rfl (by kernel_rfl) (fun _ _ _ h => h) (Or.inl ⟨by rfl, ?_⟩) hHeld ?_ ?_
  rotate_left
  · rintro w' ⟨s0, s1⟩
    go_simp
    with_reducible rfl
  rotate_left
  · simp only [Act.put, List.setIfInBounds_toArray, List.set_cons_zero, List.set_cons_succ, i64_w, i32_w]
    rfl
  refine one_ (i := 5) (N := none) #[true, true, true, true, true, true, false, false] rfl rfl (by kernel_rfl) (by decide) (fun K hK => ?_)
  refine skip_ (w1 := ?_) (by rfl) rfl ?_ ?_
  rotate_left
  · go_simp
    rfl
  refine hK.out _ _ ⟨s0x, s1x⟩ (fun hHeld => ?_)
  clear hK K
  refine pure_ (i := 6) (N := some 87) (v := ?_) (a' := ?_) #[true, true, true, true, true, true, true, false] rfl rfl (by kernel_rfl) (fun _ _ _ h => h) (Or.inl ⟨by rfl, ?_⟩) ?_ ?_
  rotate_left
  · intro w'
    go_simp
    with_reducible rfl
  rotate_left
  · simp only [Act.put, List.setIfInBounds_toArray, List.set_cons_zero, List.set_cons_succ, i64_w, i32_w]
    rfl
  refine last_ (i := 7) (N := none) #[true, true, true, true, true, true, true, true] rfl rfl (by kernel_rfl) (by decide) (fun K hK => ?_)
  refine skip_ (w1 := ?_) (by rfl) rfl ?_ ?_
  rotate_left
  · go_simp
    rfl
  refine hK.out _ _ ?_
  clear hK K
  refine done_ (by kernel_rfl) ?_
  refine onlyN_mk ?_
  exact hK _ _ _ _ _ _ 

set_option maxHeartbeats 16000000 in
set_option maxRecDepth 100000 in
theorem pk18 {Q : Exit → Act → World → Prop} {ops : Array Oper} (hops : findR 18 ((Try.f9.body).getD .skip) = some ops) {wr : World} {dfs : List Deferred} {gL : Nat} {li lt : Int} {AL A3 : Option Addr} {ml cL n3 c3 n4 : Nat} {gd : Bool} {R : World → Option Addr → Nat → Prop} {R' : World → Prop}
    (hl : wr.cell? ⟨gL, 0, none⟩ = some (.int .u64 li) ∧ wr.cell? ⟨gL, 1, none⟩ = some (.int .u64 lt) ∧ wr.cell? ⟨gL, 2, none⟩ = some (.slice AL ml cL))
    (HP : Aside0 (Calls Try.prog 41 #[.slice A3 n3 c3] wr.drew fun e w2 => ∃ A4 c4, e = .returned (.slice A4 n4 c4) ∧ R w2 A4 c4))
    (HKp : Aside0 (∀ w2 A4 c4, R w2 A4 c4 → w2.cell? ⟨gL, 0, none⟩ = some (.int .u64 li) ∧ w2.cell? ⟨gL, 1, none⟩ = some (.int .u64 lt) ∧ w2.cell? ⟨gL, 2, none⟩ = some (.slice AL ml cL)))
    (HS : Aside0 (∀ w2 A4 c4, R w2 A4 c4 → Calls Try.prog 43 #[.agg #[.int .u64 li, .int .u64 lt, .slice AL ml cL], .slice A4 n4 c4] w2 fun e w3 => e = .returned (.bool gd) ∧ R' w3))
    {T0 T1 T2 T3 T4 T5 T6 T7 T8 T9 T11 T12 T13 T14 T15 T16 T17 T18 T19 T20 T21 T22 T23 T24 T25 T27 T28 T29 T30 T31 T32 T33 T34 T35 T36 T37 T38 T39 T40 T41 T42 T43 T44 T45 T46 T47 T48 T49 T50 T51 T52 T53 T54 T55 T56 T57 T58 T59 T60 T61 T62 T63 T64 T65 T66 T67 T68 T69 T70 T71 T72 T73 T74 T75 T76 T77 T78 T79 T80 T81 T82 T83 T84 T85 T86 T87 T88 T89 T90 T91 T92 T93 T94 T95 T96 T97 T98 T99 T100 T101 T102 T103 T104 T105 T106 T107 T108 T109 T110 T111 T112 T113 T114 T115 T116 T117 T118 T119 T120 T121 T122 T123 T124 T125 T126 T127 T128 T129 T130 T131 T132 T133 T134 T135 T136 T137 T138 T139 T140 T141 T142 T143 T144 T145 T146 T147 T148 T149 T150 T151 T152 T153 T154 T155 T156 T157 T158 T159 T160 T161 T162 T163 T164 T165 T166 T167 T168 T169 T170 T171 T172 T173 T174 T175 T176 T177 T178 T179 T180 T181 T182 T183 T184 T185 T186 T187 T188 T189 T190 T191 T192 T193 T194 T195 T196 T197 T198 T199 T200 T201 T202 T203 T204 T205 T206 T207 T208 T209 T210 T211 T212 T213 T214 T215 T216 T217 T218 T219 T220 T221 T222 T223 T224 T225 T226 T227 T228 T229 : Value}
    (hK : ∀ (u90 u91 u92 u93 : Value) (w3 : World), R' w3 → Q .normal { tmps := #[T0, T1, T2, T3, T4, T5, T6, T7, T8, T9, .pointer (some ⟨gL, 0, none⟩), T11, T12, T13, T14, T15, T16, T17, T18, T19, T20, T21, T22, T23, T24, T25, .slice A3 n3 c3, .bool gd, T28, T29, T30, T31, T32, T33, T34, T35, T36, T37, T38, T39, T40, T41, T42, T43, T44, T45, T46, T47, T48, T49, T50, T51, T52, T53, T54, T55, T56, T57, T58, T59, T60, T61, T62, T63, T64, T65, T66, T67, T68, T69, T70, T71, T72, T73, T74, T75, T76, T77, T78, T79, T80, T81, T82, T83, T84, T85, T86, T87, T88, T89, u90, u91, u92, u93, T94, T95, T96, T97, T98, T99, T100, T101, T102, T103, T104, T105, T106, T107, T108, T109, T110, T111, T112, T113, T114, T115, T116, T117, T118, T119, T120, T121, T122, T123, T124, T125, T126, T127, T128, T129, T130, T131, T132, T133, T134, T135, T136, T137, T138, T139, T140, T141, T142, T143, T144, T145, T146, T147, T148, T149, T150, T151, T152, T153, T154, T155, T156, T157, T158, T159, T160, T161, T162, T163, T164, T165, T166, T167, T168, T169, T170, T171, T172, T173, T174, T175, T176, T177, T178, T179, T180, T181, T182, T183, T184, T185, T186, T187, T188, T189, T190, T191, T192, T193, T194, T195, T196, T197, T198, T199, T200, T201, T202, T203, T204, T205, T206, T207, T208, T209, T210, T211, T212, T213, T214, T215, T216, T217, T218, T219, T220, T221, T222, T223, T224, T225, T226, T227, T228, T229], defers := dfs } (w3)) :
    (Code.region 18 ops true).wp Try.prog Q { tmps := #[T0, T1, T2, T3, T4, T5, T6, T7, T8, T9, .pointer (some ⟨gL, 0, none⟩), T11, T12, T13, T14, T15, T16, T17, T18, T19, T20, T21, T22, T23, T24, T25, .slice A3 n3 c3, T27, T28, T29, T30, T31, T32, T33, T34, T35, T36, T37, T38, T39, T40, T41, T42, T43, T44, T45, T46, T47, T48, T49, T50, T51, T52, T53, T54, T55, T56, T57, T58, T59, T60, T61, T62, T63, T64, T65, T66, T67, T68, T69, T70, T71, T72, T73, T74, T75, T76, T77, T78, T79, T80, T81, T82, T83, T84, T85, T86, T87, T88, T89, T90, T91, T92, T93, T94, T95, T96, T97, T98, T99, T100, T101, T102, T103, T104, T105, T106, T107, T108, T109, T110, T111, T112, T113, T114, T115, T116, T117, T118, T119, T120, T121, T122, T123, T124, T125, T126, T127, T128, T129, T130, T131, T132, T133, T134, T135, T136, T137, T138, T139, T140, T141, T142, T143, T144, T145, T146, T147, T148, T149, T150, T151, T152, T153, T154, T155, T156, T157, T158, T159, T160, T161, T162, T163, T164, T165, T166, T167, T168, T169, T170, T171, T172, T173, T174, T175, T176, T177, T178, T179, T180, T181, T182, T183, T184, T185, T186, T187, T188, T189, T190, T191, T192, T193, T194, T195, T196, T197, T198, T199, T200, T201, T202, T203, T204, T205, T206, T207, T208, T209, T210, T211, T212, T213, T214, T215, T216, T217, T218, T219, T220, T221, T222, T223, T224, T225, T226, T227, T228, T229], defers := dfs } wr := by
  have hops' := Option.some.inj (hops.symm.trans (show findR 18 ((Try.f9.body).getD .skip) = some _ from rfl))
  subst hops'
  clear hops
  refine wp_mono (Q := onlyN (Q .normal)) ?_ onlyN_to
  refine start_ (n := 5) (S := fun w' => w'.cell? ⟨gL, 0, none⟩ = some (.int .u64 li) ∧ w'.cell? ⟨gL, 1, none⟩ = some (.int .u64 lt) ∧ w'.cell? ⟨gL, 2, none⟩ = some (.slice AL ml cL)) (ds := [3]) #[false, false, false, false, false] (by kernel_rfl) rfl rfl ⟨hl.1, hl.2.1, hl.2.2⟩ (fun hHeld => ?_)
  refine pure_ (i := 1) (N := some 91) (v := ?_) (a' := ?_) #[false, true, false, false, false] rfl rfl (by kernel_rfl) (fun _ _ _ h => h) (Or.inl ⟨by rfl, ?_⟩) ?_ ?_
  rotate_left
  · intro w'
    go_simp
    with_reducible rfl
  rotate_left
  · simp only [Act.put, List.setIfInBounds_toArray, List.set_cons_zero, List.set_cons_succ, i64_w, i32_w]
    rfl
  refine take_ (i := 0) (N := some 90) (v := ?_) (a' := ?_) #[true, true, false, false, false] rfl rfl (by kernel_rfl) (fun _ _ _ h => h) (Or.inl ⟨by rfl, ?_⟩) hHeld ?_ ?_
  rotate_left
  · rintro w' ⟨s0, s1, s2⟩
    go_simp
    with_reducible rfl
  rotate_left
  · simp only [Act.put, List.setIfInBounds_toArray, List.set_cons_zero, List.set_cons_succ, i64_w, i32_w]
    rfl
  refine one_ (i := 2) (N := some 92) #[true, true, true, false, false] rfl rfl (by kernel_rfl) (by decide) (fun K hK => ?_)
  refine goes_ Try.func41 (by kernel_rfl) rfl #[.slice A3 n3 c3] (by rfl) rfl rfl (by simp only [List.map_toArray, List.map_cons, List.map_nil]; rfl) ?_
  with_reducible refine (HP.out).mono ?_
  rintro e w2 ⟨A4, c4, rfl, hR⟩
  refine ⟨_, rfl, ?_⟩
  have hk2 := HKp.out _ _ _ hR
  have HR := Aside0.mk hR
  clear hR
  refine hK.out _ _ ⟨hk2.1, hk2.2.1, hk2.2.2⟩ (fun hHeld => ?_)
  clear hK K
  refine norm_ (a' := ?_) ?_ ?_
  rotate_left
  · show Act.put _ (some 92) _ = _
    simp only [Act.put, List.setIfInBounds_toArray, List.set_cons_zero, List.set_cons_succ, i64_w, i32_w]
    rfl
  refine last_ (i := 3) (N := some 93) #[true, true, true, true, false] rfl rfl (by kernel_rfl) (by decide) (fun K hK => ?_)
  refine goes_ Try.func43 (by kernel_rfl) rfl #[.agg #[.int .u64 li, .int .u64 lt, .slice AL ml cL], .slice A4 n4 c4] (by rfl) rfl rfl (by simp only [List.map_toArray, List.map_cons, List.map_nil]; rfl) ?_
  with_reducible refine (HS.out _ _ _ HR.out).mono ?_
  rintro e w3 ⟨rfl, hR3⟩
  refine ⟨_, rfl, ?_⟩
  have HR3 := Aside0.mk hR3
  clear hR3
  refine hK.out _ _ ?_
  clear hK K
  refine norm_ (a' := ?_) ?_ ?_
  rotate_left
  · show Act.put _ (some 93) _ = _
    simp only [Act.put, List.setIfInBounds_toArray, List.set_cons_zero, List.set_cons_succ, i64_w, i32_w]
    rfl
  refine pure_ (i := 4) (N := some 27) (v := ?_) (a' := ?_) #[true, true, true, true, true] rfl rfl (by kernel_rfl) (fun _ _ _ h => h) (Or.inl ⟨by rfl, ?_⟩) ?_ ?_
  rotate_left
  · intro w'
    go_simp
    with_reducible rfl
  rotate_left
  · simp only [Act.put, List.setIfInBounds_toArray, List.set_cons_zero, List.set_cons_succ, i64_w, i32_w]
    rfl
  refine done_ (by kernel_rfl) ?_
  refine onlyN_mk ?_
  exact hK _ _ _ _ _ HR3.out
set_option maxHeartbeats 16000000 in
set_option maxRecDepth 100000 in
theorem kind0 {Q : Exit → Act → World → Prop} {cd : Code} (hcd : condB 154 ((Try.f9.body).getD .skip) = some cd) {W w : World} {F0 : Nat → Prop} {dfs : List Deferred} {g gW : Nat} {a b i : Int} {xs : List SE} {A5 : Option Addr} {c5 : Nat} {gO gL : Nat} {kd nn mo ri rt od : Int} {raw : Bool} {AB AL : Option Addr} {cB cL : Nat} {By bs : List Int}
    (hBy : (Kd.int .u8).C w AB By.length By) (hcB : By.length ≤ cB) (h60 : By.length ≤ 60) (hri : 0 ≤ ri ∧ ri < 18446744073709551616) (hbs : (Kd.int .u8).C w AL bs.length bs) (hcL : bs.length ≤ cL) (hfew : xs.length ≤ 90000)
    (hi : 0 ≤ i ∧ i < 18446744073709551616) (hc5 : (pl xs).length ≤ c5) (S : St W F0 w [Pt gW #[.int .u64 a, .int .u64 b, .slice none 0 0, .slice A5 (pl xs).length c5] 66, ChP g a b xs, Vw k63 A5 (pl xs).length (pl xs), Pt gO #[.int .i64 kd, .int .u64 nn, .int .u64 mo, .int .u64 ri, .int .u64 rt, .slice AB By.length cB, .int .u8 od, .bool raw] 84, Pt gL #[.int .u64 (a + xs.length), .int .u64 (lastT b xs), .slice AL bs.length cL] 63])
    {T0 T1 T2 T3 T4 T7 T8 T12 T13 T14 T15 T16 T17 T18 T19 T20 T21 T22 T23 T24 T25 T26 T27 T28 T29 T30 T31 T32 T33 T34 T35 T36 T37 T38 T39 T40 T41 T42 T43 T44 T45 T46 T47 T48 T49 T50 T51 T52 T53 T54 T55 T56 T57 T58 T59 T60 T61 T62 T63 T64 T65 T66 T67 T68 T69 T70 T71 T72 T73 T74 T75 T76 T77 T78 T79 T80 T81 T82 T83 T84 T85 T86 T87 T88 T89 T90 T91 T92 T93 T94 T95 T96 T97 T98 T99 T100 T101 T102 T103 T104 T105 T106 T107 T108 T109 T110 T111 T112 T113 T114 T115 T116 T117 T118 T119 T120 T121 T122 T123 T124 T125 T126 T127 T128 T129 T130 T131 T132 T133 T134 T135 T136 T137 T138 T139 T140 T141 T142 T143 T144 T145 T146 T147 T148 T149 T150 T151 T152 T153 T154 T155 T156 T157 T158 T159 T160 T161 T162 T163 T164 T165 T166 T167 T168 T169 T170 T171 T172 T173 T174 T175 T176 T177 T178 T179 T180 T181 T182 T183 T184 T185 T186 T187 T188 T189 T190 T191 T192 T193 T194 T195 T196 T197 T198 T199 T200 T201 T202 T203 T204 T205 T206 T207 T208 T209 T210 T211 T212 T213 T214 T215 T216 T217 T218 T219 T220 T221 T222 T223 T224 T225 T226 T227 T228 T229 : Value}
    (hK : ∀ (u25 u26 u27 u77 u78 u79 u80 u81 u82 u83 u84 u85 u86 u87 u88 u89 u90 u91 u92 u93 u94 u95 u96 u97 u98 u99 u100 u101 u102 u103 u104 u105 u106 u107 u108 : Value) (w' : World) (a' b' : Int) (xs' : List SE) (A' : Option Addr) (c' : Nat), (pl xs').length ≤ c' → xs'.length ≤ xs.length + 60 → St W F0 w' [Pt gW #[.int .u64 a', .int .u64 b', .slice none 0 0, .slice A' (pl xs').length c'] 66, ChP g a' b' xs', Vw k63 A' (pl xs').length (pl xs')] → Q .normal { tmps := #[T0, T1, T2, T3, T4, .pointer (some ⟨g, 0, none⟩), .pointer (some ⟨gW, 0, none⟩), T7, T8, .pointer (some ⟨gO, 0, none⟩), .pointer (some ⟨gL, 0, none⟩), .int .u64 i, T12, T13, T14, T15, T16, T17, T18, T19, T20, T21, T22, T23, T24, u25, u26, u27, T28, T29, T30, T31, T32, T33, T34, T35, T36, T37, T38, T39, T40, T41, T42, T43, T44, T45, T46, T47, T48, T49, T50, T51, T52, T53, T54, T55, T56, T57, T58, T59, T60, T61, T62, T63, T64, T65, T66, T67, T68, T69, T70, T71, T72, T73, T74, T75, T76, u77, u78, u79, u80, u81, u82, u83, u84, u85, u86, u87, u88, u89, u90, u91, u92, u93, u94, u95, u96, u97, u98, u99, u100, u101, u102, u103, u104, u105, u106, u107, u108, T109, T110, T111, T112, T113, T114, T115, T116, T117, T118, T119, T120, T121, T122, T123, T124, T125, T126, T127, T128, T129, T130, T131, T132, T133, T134, T135, T136, T137, T138, T139, T140, T141, T142, T143, T144, T145, T146, T147, T148, T149, T150, T151, T152, T153, T154, T155, T156, T157, T158, T159, T160, T161, T162, T163, T164, T165, T166, T167, T168, T169, T170, T171, T172, T173, T174, T175, T176, T177, T178, T179, T180, T181, T182, T183, T184, T185, T186, T187, T188, T189, T190, T191, T192, T193, T194, T195, T196, T197, T198, T199, T200, T201, T202, T203, T204, T205, T206, T207, T208, T209, T210, T211, T212, T213, T214, T215, T216, T217, T218, T219, T220, T221, T222, T223, T224, T225, T226, T227, T228, T229], defers := dfs } w') :
    cd.wp Try.prog Q { tmps := #[T0, T1, T2, T3, T4, .pointer (some ⟨g, 0, none⟩), .pointer (some ⟨gW, 0, none⟩), T7, T8, .pointer (some ⟨gO, 0, none⟩), .pointer (some ⟨gL, 0, none⟩), .int .u64 i, T12, T13, T14, T15, T16, T17, T18, T19, T20, T21, T22, T23, T24, T25, T26, T27, T28, T29, T30, T31, T32, T33, T34, T35, T36, T37, T38, T39, T40, T41, T42, T43, T44, T45, T46, T47, T48, T49, T50, T51, T52, T53, T54, T55, T56, T57, T58, T59, T60, T61, T62, T63, T64, T65, T66, T67, T68, T69, T70, T71, T72, T73, T74, T75, T76, T77, T78, T79, T80, T81, T82, T83, T84, T85, T86, T87, T88, T89, T90, T91, T92, T93, T94, T95, T96, T97, T98, T99, T100, T101, T102, T103, T104, T105, T106, T107, T108, T109, T110, T111, T112, T113, T114, T115, T116, T117, T118, T119, T120, T121, T122, T123, T124, T125, T126, T127, T128, T129, T130, T131, T132, T133, T134, T135, T136, T137, T138, T139, T140, T141, T142, T143, T144, T145, T146, T147, T148, T149, T150, T151, T152, T153, T154, T155, T156, T157, T158, T159, T160, T161, T162, T163, T164, T165, T166, T167, T168, T169, T170, T171, T172, T173, T174, T175, T176, T177, T178, T179, T180, T181, T182, T183, T184, T185, T186, T187, T188, T189, T190, T191, T192, T193, T194, T195, T196, T197, T198, T199, T200, T201, T202, T203, T204, T205, T206, T207, T208, T209, T210, T211, T212, T213, T214, T215, T216, T217, T218, T219, T220, T221, T222, T223, T224, T225, T226, T227, T228, T229], defers := dfs } w := by
  have hcd' := Option.some.inj (hcd.symm.trans (show condB 154 ((Try.f9.body).getD .skip) = some _ from rfl))
  subst hcd'
  clear hcd
  have hu := Try.underlying66
  have hu2 := Try.underlying63
  have HI := Aside0.mk hi
  have HC5 := Aside0.mk hc5
  have hrow := ((S.front 1 rfl).chOpen).1
  have HRW := Aside0.mk hrow
  cases raw with
  | true =>
    obtain ⟨m, hms, hm⟩ := entries_ex ri rt od By h60 (k := 61) (by omega)
    have hix : 0 ≤ (ri : Int) ∧ (ri : Int) < 18446744073709551616 := hri
    have HE : Aside0 (∀ w', Below w.heap.size w w' → Calls Try.prog 30 #[.agg #[.int .u64 ri, .int .u64 rt, .slice AB By.length cB, .int .u8 od]] w' fun e w'' => ∃ v0_ : Value, e = .returned (v0_) ∧ Kd.S KE 78 w'' w'.heap.size (fun _ => True) v0_ m ∧ Below w'.heap.size w' w'') := ⟨fun w' hb => jobberlaw38_Run_entries.calls 61 ri rt AB cB By od m w' (Kd.C_below hBy hb) hcB hms⟩
    have HM : Aside0 (m.length ≤ 60 ∧ (∀ x ∈ m, x.f2.length ≤ 1000000) ∧ (∀ x ∈ m, 0 ≤ x.f0 ∧ x.f0 < 18446744073709551616)) := ⟨by rw [hm.len]; exact h60, fun x hx => by rw [hm.bod x hx]; omega, fun x hx => (hm.rng x hx).1⟩
    have HPE := Aside0.mk (plain_eval m (by have := HM.out.1; omega) (k := 61) (by have := HM.out.1; omega))
    have HFE := Aside0.mk hfew
    have HBS := Aside0.mk (And.intro hbs hcL)
    have B0 := St.start w (fun _ => False)
    clear hi hc5 hrow hBy hcB h60 hri hbs hcL hfew hms hm hix
    have o0 : w.cell? ⟨gO, 0, none⟩ = some (.int .i64 kd) := (blk_cell (S.blk 3 rfl) 0).trans rfl; have o1 : w.cell? ⟨gO, 1, none⟩ = some (.int .u64 nn) := (blk_cell (S.blk 3 rfl) 1).trans rfl; have o2 : w.cell? ⟨gO, 2, none⟩ = some (.int .u64 mo) := (blk_cell (S.blk 3 rfl) 2).trans rfl; have o3 : w.cell? ⟨gO, 3, none⟩ = some (.int .u64 ri) := (blk_cell (S.blk 3 rfl) 3).trans rfl; have o4 : w.cell? ⟨gO, 4, none⟩ = some (.int .u64 rt) := (blk_cell (S.blk 3 rfl) 4).trans rfl; have o5 : w.cell? ⟨gO, 5, none⟩ = some (.slice AB By.length cB) := (blk_cell (S.blk 3 rfl) 5).trans rfl; have o6 : w.cell? ⟨gO, 6, none⟩ = some (.int .u8 od) := (blk_cell (S.blk 3 rfl) 6).trans rfl; have o7 : w.cell? ⟨gO, 7, none⟩ = some (.bool true) := (blk_cell (S.blk 3 rfl) 7).trans rfl
    go_upto_region 17 with ((with_reducible refine gate_dst (N := 25) rfl ?_); refine box_event ?hg (N := 25) ?hd (cs := #[.int .u64 0, .int .u64 0, .slice none 0 0, .int .u8 0]) (t := 60) ?hr ?_; (case hd => rfl); (case hg => rfl); (case hr => first | (go_simp; done) | (go_simp; rfl)); intro gX hg_ w1 hbB hb; have S1 := S.box hg_ hb hbB; have B1 := B0.box hg_ hb hbB; clear S B0 hg_ hbB hb; have x0 : w1.cell? ⟨gX, 0, none⟩ = some (.int .u64 0) := (blk_cell (S1.blk 0 rfl) 0).trans rfl; have fx0 : w1.frozen? ⟨gX, 0, none⟩ = false := blk_frozen (S1.blk 0 rfl) 0; have x1 : w1.cell? ⟨gX, 1, none⟩ = some (.int .u64 0) := (blk_cell (S1.blk 0 rfl) 1).trans rfl; have fx1 : w1.frozen? ⟨gX, 1, none⟩ = false := blk_frozen (S1.blk 0 rfl) 1; have x2 : w1.cell? ⟨gX, 2, none⟩ = some (.slice none 0 0) := (blk_cell (S1.blk 0 rfl) 2).trans rfl; have fx2 : w1.frozen? ⟨gX, 2, none⟩ = false := blk_frozen (S1.blk 0 rfl) 2; have x3 : w1.cell? ⟨gX, 3, none⟩ = some (.int .u8 0) := (blk_cell (S1.blk 0 rfl) 3).trans rfl; have fx3 : w1.frozen? ⟨gX, 3, none⟩ = false := blk_frozen (S1.blk 0 rfl) 3; have o0 : w1.cell? ⟨gO, 0, none⟩ = some (.int .i64 kd) := (blk_cell (S1.blk 4 rfl) 0).trans rfl; have o1 : w1.cell? ⟨gO, 1, none⟩ = some (.int .u64 nn) := (blk_cell (S1.blk 4 rfl) 1).trans rfl; have o2 : w1.cell? ⟨gO, 2, none⟩ = some (.int .u64 mo) := (blk_cell (S1.blk 4 rfl) 2).trans rfl; have o3 : w1.cell? ⟨gO, 3, none⟩ = some (.int .u64 ri) := (blk_cell (S1.blk 4 rfl) 3).trans rfl; have o4 : w1.cell? ⟨gO, 4, none⟩ = some (.int .u64 rt) := (blk_cell (S1.blk 4 rfl) 4).trans rfl; have o5 : w1.cell? ⟨gO, 5, none⟩ = some (.slice AB By.length cB) := (blk_cell (S1.blk 4 rfl) 5).trans rfl; have o6 : w1.cell? ⟨gO, 6, none⟩ = some (.int .u8 od) := (blk_cell (S1.blk 4 rfl) 6).trans rfl; have o7 : w1.cell? ⟨gO, 7, none⟩ = some (.bool true) := (blk_cell (S1.blk 4 rfl) 7).trans rfl; have no : gX ≠ gO := S1.ne 0 4 rfl rfl (by decide); have no' := Ne.symm no)
    refine wp_named ?_
    intro w2 hw2
    have S2 : St W F0 w2 [Pt gX #[.int .u64 ri, .int .u64 rt, .slice AB By.length cB, .int .u8 od] 60, Pt gW #[.int .u64 a, .int .u64 b, .slice none 0 0, .slice A5 (pl xs).length c5] 66, ChP g a b xs, Vw k63 A5 (pl xs).length (pl xs), Pt gO #[.int .i64 kd, .int .u64 nn, .int .u64 mo, .int .u64 ri, .int .u64 rt, .slice AB By.length cB, .int .u8 od, .bool true] 84, Pt gL #[.int .u64 (a + xs.length), .int .u64 (lastT b xs), .slice AL bs.length cL] 63] := by rw [hw2]; exact (((S1.put 0 _ rfl).put 1 _ rfl).put 2 _ rfl).put 3 _ rfl
    have B2 : St w (fun _ => False) w2 [Pt gX #[.int .u64 ri, .int .u64 rt, .slice AB By.length cB, .int .u8 od] 60] := by rw [hw2]; exact (((B1.put 0 _ rfl).put 1 _ rfl).put 2 _ rfl).put 3 _ rfl
    clear hw2 S1 B1 x0 x1 x2 x3 fx0 fx1 fx2 fx3 o0 o1 o2 o3 o4 o5 o6 o7 no no'
    have x0 : w2.cell? ⟨gX, 0, none⟩ = some (.int .u64 ri) := (blk_cell (S2.blk 0 rfl) 0).trans rfl; have x1 : w2.cell? ⟨gX, 1, none⟩ = some (.int .u64 rt) := (blk_cell (S2.blk 0 rfl) 1).trans rfl; have x2 : w2.cell? ⟨gX, 2, none⟩ = some (.slice AB By.length cB) := (blk_cell (S2.blk 0 rfl) 2).trans rfl; have x3 : w2.cell? ⟨gX, 3, none⟩ = some (.int .u8 od) := (blk_cell (S2.blk 0 rfl) 3).trans rfl
    go_upto_region 18 with (go_at_call 30; refine (HE.out w2 B2.below).mono ?_; rintro e w3 ⟨v, rfl, hR, hb⟩; obtain ⟨A3, c3, e3⟩ := Kd.R_slice (Kd.S_R hR); subst e3; have S3 := S2.row hb (Kd.S_R hR); have HB3 := Aside0.mk (below_step B2.below hb); clear S2 B2 hR hb x0 x1 x2 x3)
    have HPP : Aside0 (Calls Try.prog 41 #[.slice A3 m.length c3] w3.drew fun e w2 => ∃ A4 c4, e = .returned (.slice A4 (pl m).length c4) ∧ ((pl m).length ≤ c4 ∧ k63.C w2 A4 (pl m).length (pl m) ∧ Below w3.heap.size w3 w2)) := ⟨by
      obtain ⟨ok, hR⟩ := S3.drew1.rd 0 rfl
      refine (jobberlaw32_Plain.calls 61 ok A3 c3 m (pl m) w3.drew (Kd.R_V hR) HPE.out).mono ?_
      rintro e w4 ⟨v, rfl, hN, hb⟩
      obtain ⟨A4, c4, rfl⟩ := Kd.N_slice hN
      exact ⟨A4, c4, rfl, (Kd.N_reads' hN).2.1, (Kd.N_reads' hN).2.2, below_step (below_drew (Below.refl _ _)) hb⟩⟩
    have HSS : Aside0 (∀ w2 A4 c4, ((pl m).length ≤ c4 ∧ k63.C w2 A4 (pl m).length (pl m) ∧ Below w3.heap.size w3 w2) → Calls Try.prog 43 #[.agg #[.int .u64 (a + xs.length), .int .u64 (lastT b xs), .slice AL bs.length cL], .slice A4 (pl m).length c4] w2 fun e w3' => e = .returned (.bool (standG (a + xs.length) (lastT b xs) m)) ∧ Below w3.heap.size w3 w3') := ⟨fun w2 A4 c4 h =>
      (jobberref38_Stands.calls 61 (a + xs.length) (lastT b xs) (fun _ => True) AL cL bs (fun _ => True) A4 c4 (pl m) _ w2 (V_all (Kd.heap_int .u8) (Kd.C_below HBS.out.1 (below_step HB3.out h.2.2)) HBS.out.2) (V_all k63_heap h.2.1 h.1) (rstands_eval m (by have := HM.out.1; omega) _ _ bs (by have := HM.out.1; omega))).mono (fun e w' hh => ⟨hh.1, below_step h.2.2 hh.2⟩)⟩
    have HKK : Aside0 (∀ w2 (A4 : Option Addr) (c4 : Nat), ((pl m).length ≤ c4 ∧ k63.C w2 A4 (pl m).length (pl m) ∧ Below w3.heap.size w3 w2) → w2.cell? ⟨gL, 0, none⟩ = some (.int .u64 (a + xs.length)) ∧ w2.cell? ⟨gL, 1, none⟩ = some (.int .u64 (lastT b xs)) ∧ w2.cell? ⟨gL, 2, none⟩ = some (.slice AL bs.length cL)) := ⟨fun w2 A4 c4 h => by
      have := (h.2.2.block _ (blk_lt (S3.blk 6 rfl))).trans (S3.blk 6 rfl)
      exact ⟨(blk_cell this 0).trans rfl, (blk_cell this 1).trans rfl, (blk_cell this 2).trans rfl⟩⟩
    have hl3 := S3.blk 6 rfl
    cases hgd : standG (a + xs.length) (lastT b xs) m with
    | true =>
      rw [hgd] at HSS
      have HRA : Aside0 (Row (a + xs.length) m) := ⟨stand_row m _ (lastT b xs) (by have := HRW.out.lo; omega) HRW.out.hi (by have := HM.out.1; omega) HM.out.2.1 HM.out.2.2 hgd⟩
      have HST := Aside0.mk (stands_eval m (by have := HM.out.1; omega) (a + xs.length) (lastT b xs) (k := 100001) (by have := HM.out.1; omega))
      rw [hgd] at HST
      obtain ⟨zs, hzs⟩ : ∃ zs, xs ++ m = zs := ⟨_, rfl⟩
      have hpz : pl xs ++ pl m = pl zs := by rw [← hzs]; simp [pl]
      have HZS := Aside0.mk (And.intro hzs hpz)
      have HPL : Aside0 ((pl xs).length ≤ 100000 ∧ (pl m).length ≤ 60) := ⟨by rw [pl_len]; have := HFE.out; omega, by rw [pl_len]; exact HM.out.1⟩
      clear hgd hzs hpz
      refine pk18 (R := fun w2 A4 c4 => ((pl m).length ≤ c4 ∧ k63.C w2 A4 (pl m).length (pl m) ∧ Below w3.heap.size w3 w2)) (R' := fun w5 => Below w3.heap.size w3 w5) rfl ⟨(blk_cell hl3 0).trans rfl, (blk_cell hl3 1).trans rfl, (blk_cell hl3 2).trans rfl⟩ HPP HKK HSS ?_
      intro u90 u91 u92 u93 w5 hb5
      have S5 := S3.call hb5
      clear S3 hb5 HPP HSS HKK hl3
      go_wp2_with (first
        | (go_at_call 33; obtain ⟨F, hA, _, hrd, hj⟩ := (S5.front 3 rfl).joinR; refine (chain_append w5 F g a b xs hA A3 c3 m (fun W' hf => by obtain ⟨G, hst⟩ := hrd W' hf; obtain ⟨ok, hR⟩ := hst.rd 0 rfl; exact (Kd.R_reads' hR).2.2) (by obtain ⟨ok, hR⟩ := S5.rd 0 rfl; exact (Kd.R_reads' hR).2.1) 100001 HST.out HRA.out (by have := HFE.out; have := HM.out.1; omega)).mono ?_; rintro e w6 ⟨rfl, hs⟩; rw [HZS.out.1] at hs; have S6 := hj _ _ hs; clear S5 hA hrd hj hs; have hbW := S6.blk 3 rfl; have y3 : ∀ o, (w6.alloc o).cell? ⟨gW, 3, none⟩ = some (.slice A5 (pl xs).length c5) := (fun o => (blk_cell (((below_alloc (Below.refl _ _) o).block _ (blk_lt hbW)).trans hbW) 3).trans rfl); clear hbW)
        | ((with_reducible refine gate_builtin (b := .append) (xs := #[.tmp 101, .tmp 103]) rfl ?_); have S4 := (S6.new (A := Nw k63 63 (.slice (some ⟨w6.heap.size, 0, none⟩) 0 0) []) (below_alloc (Below.refl _ _) (.cells #[] 63)) Nw.loc (nil_Ne (blk_new w6 _) (Nat.zero_le _))).front 5 rfl; obtain ⟨ok2, okp, p1, p2, p3, p4, p5⟩ := (S4.front 1 rfl).append_rows; refine Kd.N_append_rows k63 (w0 := w6.alloc (.cells #[] 63)) 0 rfl (.tmp 101) (.tmp 103) 64 63 (.agg #[.int .u64 0, .int .u64 0, .slice none 0 0]) 40 rfl Try.underlying64 info63 rfl (by decide) (by decide) (.slice (some ⟨w6.heap.size, 0, none⟩) 0 0) [] (pl xs) A5 (pl xs).length c5 ok2 okp rfl rfl p1 p2 p3 p4 (Below.refl _ _) (Nat.zero_le _) (by have := HPL.out.1; simp; omega) ?_; intro v1 w7 hN _ hg _; rw [List.nil_append] at hN p5; obtain ⟨A7, c7, e7⟩ := Kd.N_slice hN; subst e7; have S7 := p5 _ _ hN hg; clear p1 p2 p3 p4 p5 hN hg S4 S6 y3)
        | (go_at_call 41; obtain ⟨ok, hR, hup⟩ := (S7.front 2 rfl).shared; refine (jobberlaw32_Plain.calls 61 ok A3 c3 m (pl m) w7 (Kd.R_V hR) HPE.out).mono ?_; rintro e w8 ⟨v, rfl, hN, hb⟩; obtain ⟨A8, c8, e8⟩ := Kd.N_slice hN; subst e8; have S8 := hup w8 (Vw k63 A8 (pl m).length (pl m)) hb Vw.loc (Kd.N_F hN); clear hR hup hN hb S7)
        | ((with_reducible refine gate_builtin (b := .append) (xs := #[.tmp 104, .tmp 106]) rfl ?_); obtain ⟨ok2, okp, p1, p2, p3, p4, p5⟩ := (S8.front 1 rfl).append_rows; refine Kd.N_append_rows k63 (w0 := w8) 0 rfl (.tmp 104) (.tmp 106) 64 63 (.agg #[.int .u64 0, .int .u64 0, .slice none 0 0]) 40 rfl Try.underlying64 info63 rfl (by decide) (by decide) (.slice A7 (pl xs).length c7) (pl xs) (pl m) A8 (pl m).length c8 ok2 okp rfl rfl p1 p2 p3 p4 (Below.refl _ _) (Nat.zero_le _) (by have := HPL.out; omega) ?_; intro v1 w9 hN _ hg _; rw [HZS.out.2] at hN p5; obtain ⟨A9, c9, e9⟩ := Kd.N_slice hN; subst e9; have S9 := p5 _ _ hN hg; clear p1 p2 p3 p4 p5 hN hg S8; have hl9 := (S9.nrd 0 rfl).2.1; have z0 : w9.cell? ⟨gW, 0, none⟩ = some (.int .u64 a) := (blk_cell (S9.blk 3 rfl) 0).trans rfl; have fz0 : w9.frozen? ⟨gW, 0, none⟩ = false := blk_frozen (S9.blk 3 rfl) 0; have z1 : w9.cell? ⟨gW, 1, none⟩ = some (.int .u64 b) := (blk_cell (S9.blk 3 rfl) 1).trans rfl; have fz1 : w9.frozen? ⟨gW, 1, none⟩ = false := blk_frozen (S9.blk 3 rfl) 1; have z2 : w9.cell? ⟨gW, 2, none⟩ = some (.slice none 0 0) := (blk_cell (S9.blk 3 rfl) 2).trans rfl; have fz2 : w9.frozen? ⟨gW, 2, none⟩ = false := blk_frozen (S9.blk 3 rfl) 2; have z3 : w9.cell? ⟨gW, 3, none⟩ = some (.slice A5 (pl xs).length c5) := (blk_cell (S9.blk 3 rfl) 3).trans rfl; have fz3 : w9.frozen? ⟨gW, 3, none⟩ = false := blk_frozen (S9.blk 3 rfl) 3))
      have S10 : St W F0 _ [Pt gW #[.int .u64 a, .int .u64 b, .slice none 0 0, .slice A9 (pl zs).length c9] 66, Nw k63 63 (.slice A9 (pl zs).length c9) (pl zs), ChP g a b zs, Pt gX #[.int .u64 ri, .int .u64 rt, .slice AB By.length cB, .int .u8 od] 60, Pt gO #[.int .i64 kd, .int .u64 nn, .int .u64 mo, .int .u64 ri, .int .u64 rt, .slice AB By.length cB, .int .u8 od, .bool true] 84, Pt gL #[.int .u64 (a + xs.length), .int .u64 (lastT b xs), .slice AL bs.length cL] 63] := (S9.front 3 rfl).put 3 (.slice A9 (pl zs).length c9) rfl
      exact hK _ _ _ _ _ _ _ _ _ _ _ _ _ _ _ _ _ _ _ _ _ _ _ _ _ _ _ _ _ _ _ _ _ _ _ _ a b zs A9 c9 hl9 (by rw [← HZS.out.1, List.length_append]; have := HM.out.1; omega) (((((S10.front 1 rfl).nw_vw).front 2 rfl).front 2 rfl).take 3)
    | false =>
      rw [hgd] at HSS
      have HST := Aside0.mk (stands_eval m (by have := HM.out.1; omega) (a + xs.length) (lastT b xs) (k := 100001) (by have := HM.out.1; omega))
      rw [hgd] at HST
      clear hgd
      refine pk18 (R := fun w2 A4 c4 => ((pl m).length ≤ c4 ∧ k63.C w2 A4 (pl m).length (pl m) ∧ Below w3.heap.size w3 w2)) (R' := fun w5 => Below w3.heap.size w3 w5) rfl ⟨(blk_cell hl3 0).trans rfl, (blk_cell hl3 1).trans rfl, (blk_cell hl3 2).trans rfl⟩ HPP HKK HSS ?_
      intro u90 u91 u92 u93 w5 hb5
      have S5 := S3.call hb5
      clear S3 hb5 HPP HSS HKK hl3
      go_wp2_with (go_at_call 33; obtain ⟨ok, hR⟩ := S5.rd 0 rfl; refine (chain_append_bad w5 g a b xs (S5.ch 3 rfl) A3 c3 m (Kd.R_reads' hR).2.2 (Kd.R_reads' hR).2.1 100001 HST.out).mono ?_; rintro e w6 ⟨rfl, hb⟩; have S6 := S5.call hb; clear S5 hb hR)
      exact hK _ _ _ _ _ _ _ _ _ _ _ _ _ _ _ _ _ _ _ _ _ _ _ _ _ _ _ _ _ _ _ _ _ _ _ _ a b xs A5 c5 HC5.out (Nat.le_add_right _ _) ((S6.drop.drop).take 3)
  | false =>
    obtain ⟨m, hms, hm⟩ := entries_ex (a + xs.length) (lastT b xs) od By h60 (k := 61) (by omega)
    have hix : 0 ≤ ((a + xs.length) : Int) ∧ ((a + xs.length) : Int) < 18446744073709551616 := ⟨by have := hrow.lo; omega, hrow.hi⟩
    have HE : Aside0 (∀ w', Below w.heap.size w w' → Calls Try.prog 30 #[.agg #[.int .u64 (a + xs.length), .int .u64 (lastT b xs), .slice AB By.length cB, .int .u8 od]] w' fun e w'' => ∃ v0_ : Value, e = .returned (v0_) ∧ Kd.S KE 78 w'' w'.heap.size (fun _ => True) v0_ m ∧ Below w'.heap.size w' w'') := ⟨fun w' hb => jobberlaw38_Run_entries.calls 61 (a + xs.length) (lastT b xs) AB cB By od m w' (Kd.C_below hBy hb) hcB hms⟩
    have HM : Aside0 (m.length ≤ 60 ∧ (∀ x ∈ m, x.f2.length ≤ 1000000) ∧ (∀ x ∈ m, 0 ≤ x.f0 ∧ x.f0 < 18446744073709551616)) := ⟨by rw [hm.len]; exact h60, fun x hx => by rw [hm.bod x hx]; omega, fun x hx => (hm.rng x hx).1⟩
    have HPE := Aside0.mk (plain_eval m (by have := HM.out.1; omega) (k := 61) (by have := HM.out.1; omega))
    have HFE := Aside0.mk hfew
    have HBS := Aside0.mk (And.intro hbs hcL)
    have B0 := St.start w (fun _ => False)
    clear hi hc5 hrow hBy hcB h60 hri hbs hcL hfew hms hm hix
    have o0 : w.cell? ⟨gO, 0, none⟩ = some (.int .i64 kd) := (blk_cell (S.blk 3 rfl) 0).trans rfl; have o1 : w.cell? ⟨gO, 1, none⟩ = some (.int .u64 nn) := (blk_cell (S.blk 3 rfl) 1).trans rfl; have o2 : w.cell? ⟨gO, 2, none⟩ = some (.int .u64 mo) := (blk_cell (S.blk 3 rfl) 2).trans rfl; have o3 : w.cell? ⟨gO, 3, none⟩ = some (.int .u64 ri) := (blk_cell (S.blk 3 rfl) 3).trans rfl; have o4 : w.cell? ⟨gO, 4, none⟩ = some (.int .u64 rt) := (blk_cell (S.blk 3 rfl) 4).trans rfl; have o5 : w.cell? ⟨gO, 5, none⟩ = some (.slice AB By.length cB) := (blk_cell (S.blk 3 rfl) 5).trans rfl; have o6 : w.cell? ⟨gO, 6, none⟩ = some (.int .u8 od) := (blk_cell (S.blk 3 rfl) 6).trans rfl; have o7 : w.cell? ⟨gO, 7, none⟩ = some (.bool false) := (blk_cell (S.blk 3 rfl) 7).trans rfl
    go_upto_region 16 with ((with_reducible refine gate_dst (N := 25) rfl ?_); refine box_event ?hg (N := 25) ?hd (cs := #[.int .u64 0, .int .u64 0, .slice none 0 0, .int .u8 0]) (t := 60) ?hr ?_; (case hd => rfl); (case hg => rfl); (case hr => first | (go_simp; done) | (go_simp; rfl)); intro gX hg_ w1 hbB hb; have S1 := S.box hg_ hb hbB; have B1 := B0.box hg_ hb hbB; clear S B0 hg_ hbB hb; have x0 : w1.cell? ⟨gX, 0, none⟩ = some (.int .u64 0) := (blk_cell (S1.blk 0 rfl) 0).trans rfl; have fx0 : w1.frozen? ⟨gX, 0, none⟩ = false := blk_frozen (S1.blk 0 rfl) 0; have x1 : w1.cell? ⟨gX, 1, none⟩ = some (.int .u64 0) := (blk_cell (S1.blk 0 rfl) 1).trans rfl; have fx1 : w1.frozen? ⟨gX, 1, none⟩ = false := blk_frozen (S1.blk 0 rfl) 1; have x2 : w1.cell? ⟨gX, 2, none⟩ = some (.slice none 0 0) := (blk_cell (S1.blk 0 rfl) 2).trans rfl; have fx2 : w1.frozen? ⟨gX, 2, none⟩ = false := blk_frozen (S1.blk 0 rfl) 2; have x3 : w1.cell? ⟨gX, 3, none⟩ = some (.int .u8 0) := (blk_cell (S1.blk 0 rfl) 3).trans rfl; have fx3 : w1.frozen? ⟨gX, 3, none⟩ = false := blk_frozen (S1.blk 0 rfl) 3; have o0 : w1.cell? ⟨gO, 0, none⟩ = some (.int .i64 kd) := (blk_cell (S1.blk 4 rfl) 0).trans rfl; have o1 : w1.cell? ⟨gO, 1, none⟩ = some (.int .u64 nn) := (blk_cell (S1.blk 4 rfl) 1).trans rfl; have o2 : w1.cell? ⟨gO, 2, none⟩ = some (.int .u64 mo) := (blk_cell (S1.blk 4 rfl) 2).trans rfl; have o3 : w1.cell? ⟨gO, 3, none⟩ = some (.int .u64 ri) := (blk_cell (S1.blk 4 rfl) 3).trans rfl; have o4 : w1.cell? ⟨gO, 4, none⟩ = some (.int .u64 rt) := (blk_cell (S1.blk 4 rfl) 4).trans rfl; have o5 : w1.cell? ⟨gO, 5, none⟩ = some (.slice AB By.length cB) := (blk_cell (S1.blk 4 rfl) 5).trans rfl; have o6 : w1.cell? ⟨gO, 6, none⟩ = some (.int .u8 od) := (blk_cell (S1.blk 4 rfl) 6).trans rfl; have o7 : w1.cell? ⟨gO, 7, none⟩ = some (.bool false) := (blk_cell (S1.blk 4 rfl) 7).trans rfl; have no : gX ≠ gO := S1.ne 0 4 rfl rfl (by decide); have no' := Ne.symm no)
    refine wp_named ?_
    intro w2 hw2
    have S2 : St W F0 w2 [Pt gX #[.int .u64 ri, .int .u64 rt, .slice AB By.length cB, .int .u8 od] 60, Pt gW #[.int .u64 a, .int .u64 b, .slice none 0 0, .slice A5 (pl xs).length c5] 66, ChP g a b xs, Vw k63 A5 (pl xs).length (pl xs), Pt gO #[.int .i64 kd, .int .u64 nn, .int .u64 mo, .int .u64 ri, .int .u64 rt, .slice AB By.length cB, .int .u8 od, .bool false] 84, Pt gL #[.int .u64 (a + xs.length), .int .u64 (lastT b xs), .slice AL bs.length cL] 63] := by rw [hw2]; exact (((S1.put 0 _ rfl).put 1 _ rfl).put 2 _ rfl).put 3 _ rfl
    have B2 : St w (fun _ => False) w2 [Pt gX #[.int .u64 ri, .int .u64 rt, .slice AB By.length cB, .int .u8 od] 60] := by rw [hw2]; exact (((B1.put 0 _ rfl).put 1 _ rfl).put 2 _ rfl).put 3 _ rfl
    clear hw2 S1 B1 x0 x1 x2 x3 fx0 fx1 fx2 fx3 o0 o1 o2 o3 o4 o5 o6 o7 no no'
    have x0 : w2.cell? ⟨gX, 0, none⟩ = some (.int .u64 ri) := (blk_cell (S2.blk 0 rfl) 0).trans rfl; have fx0 : w2.frozen? ⟨gX, 0, none⟩ = false := blk_frozen (S2.blk 0 rfl) 0; have x1 : w2.cell? ⟨gX, 1, none⟩ = some (.int .u64 rt) := (blk_cell (S2.blk 0 rfl) 1).trans rfl; have fx1 : w2.frozen? ⟨gX, 1, none⟩ = false := blk_frozen (S2.blk 0 rfl) 1; have x2 : w2.cell? ⟨gX, 2, none⟩ = some (.slice AB By.length cB) := (blk_cell (S2.blk 0 rfl) 2).trans rfl; have fx2 : w2.frozen? ⟨gX, 2, none⟩ = false := blk_frozen (S2.blk 0 rfl) 2; have x3 : w2.cell? ⟨gX, 3, none⟩ = some (.int .u8 od) := (blk_cell (S2.blk 0 rfl) 3).trans rfl; have fx3 : w2.frozen? ⟨gX, 3, none⟩ = false := blk_frozen (S2.blk 0 rfl) 3
    have l0 : w2.cell? ⟨gL, 0, none⟩ = some (.int .u64 (a + xs.length)) := (blk_cell (S2.blk 5 rfl) 0).trans rfl; have l1 : w2.cell? ⟨gL, 1, none⟩ = some (.int .u64 (lastT b xs)) := (blk_cell (S2.blk 5 rfl) 1).trans rfl; have l2 : w2.cell? ⟨gL, 2, none⟩ = some (.slice AL bs.length cL) := (blk_cell (S2.blk 5 rfl) 2).trans rfl
    refine pk16 rfl (S2.ne 0 5 rfl rfl (by decide)) l0 l1 x0 x1 fx0 fx1 ?_
    intros
    clear x0 x1 x2 x3 fx0 fx1 fx2 fx3 l0 l1 l2
    go_upto_region 17 with (fail)
    refine wp_named ?_
    intro w2' hw2
    have S2' : St W F0 w2' [Pt gX #[.int .u64 (a + xs.length), .int .u64 (lastT b xs), .slice AB By.length cB, .int .u8 od] 60, Pt gW #[.int .u64 a, .int .u64 b, .slice none 0 0, .slice A5 (pl xs).length c5] 66, ChP g a b xs, Vw k63 A5 (pl xs).length (pl xs), Pt gO #[.int .i64 kd, .int .u64 nn, .int .u64 mo, .int .u64 ri, .int .u64 rt, .slice AB By.length cB, .int .u8 od, .bool false] 84, Pt gL #[.int .u64 (a + xs.length), .int .u64 (lastT b xs), .slice AL bs.length cL] 63] := by rw [hw2]; exact (S2.drew1.put 0 _ rfl).put 1 _ rfl
    have B2' : St w (fun _ => False) w2' [Pt gX #[.int .u64 (a + xs.length), .int .u64 (lastT b xs), .slice AB By.length cB, .int .u8 od] 60] := by rw [hw2]; exact (B2.drew1.put 0 _ rfl).put 1 _ rfl
    clear hw2 S2 B2
    obtain ⟨w2, hw2⟩ : ∃ w2, w2 = w2' := ⟨_, rfl⟩
    subst hw2
    have S2 := S2'
    have B2 := B2'
    clear S2' B2'
    have x0 : w2.cell? ⟨gX, 0, none⟩ = some (.int .u64 (a + xs.length)) := (blk_cell (S2.blk 0 rfl) 0).trans rfl; have x1 : w2.cell? ⟨gX, 1, none⟩ = some (.int .u64 (lastT b xs)) := (blk_cell (S2.blk 0 rfl) 1).trans rfl; have x2 : w2.cell? ⟨gX, 2, none⟩ = some (.slice AB By.length cB) := (blk_cell (S2.blk 0 rfl) 2).trans rfl; have x3 : w2.cell? ⟨gX, 3, none⟩ = some (.int .u8 od) := (blk_cell (S2.blk 0 rfl) 3).trans rfl
    go_upto_region 18 with (go_at_call 30; refine (HE.out w2 B2.below).mono ?_; rintro e w3 ⟨v, rfl, hR, hb⟩; obtain ⟨A3, c3, e3⟩ := Kd.R_slice (Kd.S_R hR); subst e3; have S3 := S2.row hb (Kd.S_R hR); have HB3 := Aside0.mk (below_step B2.below hb); clear S2 B2 hR hb x0 x1 x2 x3)
    have HPP : Aside0 (Calls Try.prog 41 #[.slice A3 m.length c3] w3.drew fun e w2 => ∃ A4 c4, e = .returned (.slice A4 (pl m).length c4) ∧ ((pl m).length ≤ c4 ∧ k63.C w2 A4 (pl m).length (pl m) ∧ Below w3.heap.size w3 w2)) := ⟨by
      obtain ⟨ok, hR⟩ := S3.drew1.rd 0 rfl
      refine (jobberlaw32_Plain.calls 61 ok A3 c3 m (pl m) w3.drew (Kd.R_V hR) HPE.out).mono ?_
      rintro e w4 ⟨v, rfl, hN, hb⟩
      obtain ⟨A4, c4, rfl⟩ := Kd.N_slice hN
      exact ⟨A4, c4, rfl, (Kd.N_reads' hN).2.1, (Kd.N_reads' hN).2.2, below_step (below_drew (Below.refl _ _)) hb⟩⟩
    have HSS : Aside0 (∀ w2 A4 c4, ((pl m).length ≤ c4 ∧ k63.C w2 A4 (pl m).length (pl m) ∧ Below w3.heap.size w3 w2) → Calls Try.prog 43 #[.agg #[.int .u64 (a + xs.length), .int .u64 (lastT b xs), .slice AL bs.length cL], .slice A4 (pl m).length c4] w2 fun e w3' => e = .returned (.bool (standG (a + xs.length) (lastT b xs) m)) ∧ Below w3.heap.size w3 w3') := ⟨fun w2 A4 c4 h =>
      (jobberref38_Stands.calls 61 (a + xs.length) (lastT b xs) (fun _ => True) AL cL bs (fun _ => True) A4 c4 (pl m) _ w2 (V_all (Kd.heap_int .u8) (Kd.C_below HBS.out.1 (below_step HB3.out h.2.2)) HBS.out.2) (V_all k63_heap h.2.1 h.1) (rstands_eval m (by have := HM.out.1; omega) _ _ bs (by have := HM.out.1; omega))).mono (fun e w' hh => ⟨hh.1, below_step h.2.2 hh.2⟩)⟩
    have HKK : Aside0 (∀ w2 (A4 : Option Addr) (c4 : Nat), ((pl m).length ≤ c4 ∧ k63.C w2 A4 (pl m).length (pl m) ∧ Below w3.heap.size w3 w2) → w2.cell? ⟨gL, 0, none⟩ = some (.int .u64 (a + xs.length)) ∧ w2.cell? ⟨gL, 1, none⟩ = some (.int .u64 (lastT b xs)) ∧ w2.cell? ⟨gL, 2, none⟩ = some (.slice AL bs.length cL)) := ⟨fun w2 A4 c4 h => by
      have := (h.2.2.block _ (blk_lt (S3.blk 6 rfl))).trans (S3.blk 6 rfl)
      exact ⟨(blk_cell this 0).trans rfl, (blk_cell this 1).trans rfl, (blk_cell this 2).trans rfl⟩⟩
    have hl3 := S3.blk 6 rfl
    cases hgd : standG (a + xs.length) (lastT b xs) m with
    | true =>
      rw [hgd] at HSS
      have HRA : Aside0 (Row (a + xs.length) m) := ⟨stand_row m _ (lastT b xs) (by have := HRW.out.lo; omega) HRW.out.hi (by have := HM.out.1; omega) HM.out.2.1 HM.out.2.2 hgd⟩
      have HST := Aside0.mk (stands_eval m (by have := HM.out.1; omega) (a + xs.length) (lastT b xs) (k := 100001) (by have := HM.out.1; omega))
      rw [hgd] at HST
      obtain ⟨zs, hzs⟩ : ∃ zs, xs ++ m = zs := ⟨_, rfl⟩
      have hpz : pl xs ++ pl m = pl zs := by rw [← hzs]; simp [pl]
      have HZS := Aside0.mk (And.intro hzs hpz)
      have HPL : Aside0 ((pl xs).length ≤ 100000 ∧ (pl m).length ≤ 60) := ⟨by rw [pl_len]; have := HFE.out; omega, by rw [pl_len]; exact HM.out.1⟩
      clear hgd hzs hpz
      refine pk18 (R := fun w2 A4 c4 => ((pl m).length ≤ c4 ∧ k63.C w2 A4 (pl m).length (pl m) ∧ Below w3.heap.size w3 w2)) (R' := fun w5 => Below w3.heap.size w3 w5) rfl ⟨(blk_cell hl3 0).trans rfl, (blk_cell hl3 1).trans rfl, (blk_cell hl3 2).trans rfl⟩ HPP HKK HSS ?_
      intro u90 u91 u92 u93 w5 hb5
      have S5 := S3.call hb5
      clear S3 hb5 HPP HSS HKK hl3
      go_wp2_with (first
        | (go_at_call 33; obtain ⟨F, hA, _, hrd, hj⟩ := (S5.front 3 rfl).joinR; refine (chain_append w5 F g a b xs hA A3 c3 m (fun W' hf => by obtain ⟨G, hst⟩ := hrd W' hf; obtain ⟨ok, hR⟩ := hst.rd 0 rfl; exact (Kd.R_reads' hR).2.2) (by obtain ⟨ok, hR⟩ := S5.rd 0 rfl; exact (Kd.R_reads' hR).2.1) 100001 HST.out HRA.out (by have := HFE.out; have := HM.out.1; omega)).mono ?_; rintro e w6 ⟨rfl, hs⟩; rw [HZS.out.1] at hs; have S6 := hj _ _ hs; clear S5 hA hrd hj hs; have hbW := S6.blk 3 rfl; have y3 : ∀ o, (w6.alloc o).cell? ⟨gW, 3, none⟩ = some (.slice A5 (pl xs).length c5) := (fun o => (blk_cell (((below_alloc (Below.refl _ _) o).block _ (blk_lt hbW)).trans hbW) 3).trans rfl); clear hbW)
        | ((with_reducible refine gate_builtin (b := .append) (xs := #[.tmp 101, .tmp 103]) rfl ?_); have S4 := (S6.new (A := Nw k63 63 (.slice (some ⟨w6.heap.size, 0, none⟩) 0 0) []) (below_alloc (Below.refl _ _) (.cells #[] 63)) Nw.loc (nil_Ne (blk_new w6 _) (Nat.zero_le _))).front 5 rfl; obtain ⟨ok2, okp, p1, p2, p3, p4, p5⟩ := (S4.front 1 rfl).append_rows; refine Kd.N_append_rows k63 (w0 := w6.alloc (.cells #[] 63)) 0 rfl (.tmp 101) (.tmp 103) 64 63 (.agg #[.int .u64 0, .int .u64 0, .slice none 0 0]) 40 rfl Try.underlying64 info63 rfl (by decide) (by decide) (.slice (some ⟨w6.heap.size, 0, none⟩) 0 0) [] (pl xs) A5 (pl xs).length c5 ok2 okp rfl rfl p1 p2 p3 p4 (Below.refl _ _) (Nat.zero_le _) (by have := HPL.out.1; simp; omega) ?_; intro v1 w7 hN _ hg _; rw [List.nil_append] at hN p5; obtain ⟨A7, c7, e7⟩ := Kd.N_slice hN; subst e7; have S7 := p5 _ _ hN hg; clear p1 p2 p3 p4 p5 hN hg S4 S6 y3)
        | (go_at_call 41; obtain ⟨ok, hR, hup⟩ := (S7.front 2 rfl).shared; refine (jobberlaw32_Plain.calls 61 ok A3 c3 m (pl m) w7 (Kd.R_V hR) HPE.out).mono ?_; rintro e w8 ⟨v, rfl, hN, hb⟩; obtain ⟨A8, c8, e8⟩ := Kd.N_slice hN; subst e8; have S8 := hup w8 (Vw k63 A8 (pl m).length (pl m)) hb Vw.loc (Kd.N_F hN); clear hR hup hN hb S7)
        | ((with_reducible refine gate_builtin (b := .append) (xs := #[.tmp 104, .tmp 106]) rfl ?_); obtain ⟨ok2, okp, p1, p2, p3, p4, p5⟩ := (S8.front 1 rfl).append_rows; refine Kd.N_append_rows k63 (w0 := w8) 0 rfl (.tmp 104) (.tmp 106) 64 63 (.agg #[.int .u64 0, .int .u64 0, .slice none 0 0]) 40 rfl Try.underlying64 info63 rfl (by decide) (by decide) (.slice A7 (pl xs).length c7) (pl xs) (pl m) A8 (pl m).length c8 ok2 okp rfl rfl p1 p2 p3 p4 (Below.refl _ _) (Nat.zero_le _) (by have := HPL.out; omega) ?_; intro v1 w9 hN _ hg _; rw [HZS.out.2] at hN p5; obtain ⟨A9, c9, e9⟩ := Kd.N_slice hN; subst e9; have S9 := p5 _ _ hN hg; clear p1 p2 p3 p4 p5 hN hg S8; have hl9 := (S9.nrd 0 rfl).2.1; have z0 : w9.cell? ⟨gW, 0, none⟩ = some (.int .u64 a) := (blk_cell (S9.blk 3 rfl) 0).trans rfl; have fz0 : w9.frozen? ⟨gW, 0, none⟩ = false := blk_frozen (S9.blk 3 rfl) 0; have z1 : w9.cell? ⟨gW, 1, none⟩ = some (.int .u64 b) := (blk_cell (S9.blk 3 rfl) 1).trans rfl; have fz1 : w9.frozen? ⟨gW, 1, none⟩ = false := blk_frozen (S9.blk 3 rfl) 1; have z2 : w9.cell? ⟨gW, 2, none⟩ = some (.slice none 0 0) := (blk_cell (S9.blk 3 rfl) 2).trans rfl; have fz2 : w9.frozen? ⟨gW, 2, none⟩ = false := blk_frozen (S9.blk 3 rfl) 2; have z3 : w9.cell? ⟨gW, 3, none⟩ = some (.slice A5 (pl xs).length c5) := (blk_cell (S9.blk 3 rfl) 3).trans rfl; have fz3 : w9.frozen? ⟨gW, 3, none⟩ = false := blk_frozen (S9.blk 3 rfl) 3))
      have S10 : St W F0 _ [Pt gW #[.int .u64 a, .int .u64 b, .slice none 0 0, .slice A9 (pl zs).length c9] 66, Nw k63 63 (.slice A9 (pl zs).length c9) (pl zs), ChP g a b zs, Pt gX #[.int .u64 (a + xs.length), .int .u64 (lastT b xs), .slice AB By.length cB, .int .u8 od] 60, Pt gO #[.int .i64 kd, .int .u64 nn, .int .u64 mo, .int .u64 ri, .int .u64 rt, .slice AB By.length cB, .int .u8 od, .bool false] 84, Pt gL #[.int .u64 (a + xs.length), .int .u64 (lastT b xs), .slice AL bs.length cL] 63] := (S9.front 3 rfl).put 3 (.slice A9 (pl zs).length c9) rfl
      exact hK _ _ _ _ _ _ _ _ _ _ _ _ _ _ _ _ _ _ _ _ _ _ _ _ _ _ _ _ _ _ _ _ _ _ _ _ a b zs A9 c9 hl9 (by rw [← HZS.out.1, List.length_append]; have := HM.out.1; omega) (((((S10.front 1 rfl).nw_vw).front 2 rfl).front 2 rfl).take 3)
    | false =>
      rw [hgd] at HSS
      have HST := Aside0.mk (stands_eval m (by have := HM.out.1; omega) (a + xs.length) (lastT b xs) (k := 100001) (by have := HM.out.1; omega))
      rw [hgd] at HST
      clear hgd
      refine pk18 (R := fun w2 A4 c4 => ((pl m).length ≤ c4 ∧ k63.C w2 A4 (pl m).length (pl m) ∧ Below w3.heap.size w3 w2)) (R' := fun w5 => Below w3.heap.size w3 w5) rfl ⟨(blk_cell hl3 0).trans rfl, (blk_cell hl3 1).trans rfl, (blk_cell hl3 2).trans rfl⟩ HPP HKK HSS ?_
      intro u90 u91 u92 u93 w5 hb5
      have S5 := S3.call hb5
      clear S3 hb5 HPP HSS HKK hl3
      go_wp2_with (go_at_call 33; obtain ⟨ok, hR⟩ := S5.rd 0 rfl; refine (chain_append_bad w5 g a b xs (S5.ch 3 rfl) A3 c3 m (Kd.R_reads' hR).2.2 (Kd.R_reads' hR).2.1 100001 HST.out).mono ?_; rintro e w6 ⟨rfl, hb⟩; have S6 := S5.call hb; clear S5 hb hR)
      exact hK _ _ _ _ _ _ _ _ _ _ _ _ _ _ _ _ _ _ _ _ _ _ _ _ _ _ _ _ _ _ _ _ _ _ _ _ a b xs A5 c5 HC5.out (Nat.le_add_right _ _) ((S6.drop.drop).take 3)
theorem join_facts {a b i t : Int} {xs m : List SE} {r : Int × List SE × Bool} (hrow : Row a xs) (hi : 0 ≤ i) (hrg : ∀ x ∈ m, 0 ≤ x.f0 ∧ x.f0 < 18446744073709551616) (hr : joinA a b xs i t m = r) :
    ∃ xs1 : List SE, (r.1 ≠ 0 → a < r.1 ∧ r.1 - 1 ≤ a + xs.length ∧ xs.take (r.1 - 1 - a).toNat = xs1) ∧ (r.1 = 0 → xs1 = xs) ∧ 0 ≤ r.1 ∧ r.1 < 18446744073709551616 ∧ (r.2.2 = true → standG (a + xs1.length) (lastT b xs1) r.2.1 = true) ∧ r.2.1.length ≤ m.length ∧ (∀ x ∈ r.2.1, x ∈ m) ∧ (r.2.2 = false → r.1 = 0) := by
  have ha := hrow.lo
  have h64 := hrow.hi
  cases hg : r.2.2 with
  | false =>
    have h := joinA_bad (a := a) (b := b) (xs := xs) (i := i) (t := t) (l := m) (by rw [hr]; exact hg) ha hi hrg
    rw [hr] at h
    subst h
    exact ⟨xs, fun h => absurd rfl h, fun _ => rfl, by simp, by simp, fun h => by simp at h, by simp, fun x hx => by simp at hx, fun _ => rfl⟩
  | true =>
    obtain ⟨i', T, l', k, T', J⟩ := joined_ex a b xs ha i t m hi hrg (by rw [hr]; exact hg)
    rw [hr] at J
    have hadd : r.2.1 = l'.drop k := J.scan.add
    have hlen : r.2.1.length ≤ m.length := by rw [hadd, List.length_drop, J.part, List.length_drop]; omega
    have hsub : ∀ x ∈ r.2.1, x ∈ m := fun x hx => by
      rw [hadd] at hx
      have := List.mem_of_mem_drop hx
      rw [J.part] at this
      exact List.mem_of_mem_drop this
    by_cases h0 : r.1 = 0
    · refine ⟨xs, fun h => absurd h0 h, fun _ => rfl, by omega, by omega, fun _ => ?_, hlen, hsub, fun h => by simp at h⟩
      by_cases hk : k < l'.length
      · have h1 := J.appendok
        rw [J.nocut ha h0 hk] at h1
        exact h1
      · rw [(J.none hk).1]
        rfl
    · obtain ⟨h1, h2, h3⟩ := J.cutok h0
      refine ⟨xs.take (r.1 - 1 - a).toNat, fun _ => ⟨h1, by omega, rfl⟩, fun h => absurd h h0, by omega, by omega, fun _ => ?_, hlen, hsub, fun h => by simp at h⟩
      rw [h3]
      exact J.appendok
set_option maxHeartbeats 16000000 in
set_option maxRecDepth 100000 in
theorem pk37 {Q : Exit → Act → World → Prop} {ops : Array Oper} (hops : findR 37 ((Try.f9.body).getD .skip) = some ops) {wr : World} {dfs : List Deferred} {gW gO : Nat} {a b ri rt r1 : Int} {A5 A3 : Option Addr} {m5 c5 n3 c3 n4 n7 : Nat} {rb : Bool} {R : World → Option Addr → Nat → Prop} {R' : World → Option Addr → Nat → Prop}
    (hl : wr.cell? ⟨gW, 0, none⟩ = some (.int .u64 a) ∧ wr.cell? ⟨gW, 1, none⟩ = some (.int .u64 b) ∧ wr.cell? ⟨gW, 2, none⟩ = some (.slice none 0 0) ∧ wr.cell? ⟨gW, 3, none⟩ = some (.slice A5 m5 c5) ∧ wr.cell? ⟨gO, 3, none⟩ = some (.int .u64 ri) ∧ wr.cell? ⟨gO, 4, none⟩ = some (.int .u64 rt))
    (HP : Aside0 (Calls Try.prog 41 #[.slice A3 n3 c3] wr.drew fun e w2 => ∃ A4 c4, e = .returned (.slice A4 n4 c4) ∧ R w2 A4 c4))
    (HKp : Aside0 (∀ w2 A4 c4, R w2 A4 c4 → w2.cell? ⟨gW, 0, none⟩ = some (.int .u64 a) ∧ w2.cell? ⟨gW, 1, none⟩ = some (.int .u64 b) ∧ w2.cell? ⟨gW, 2, none⟩ = some (.slice none 0 0) ∧ w2.cell? ⟨gW, 3, none⟩ = some (.slice A5 m5 c5) ∧ w2.cell? ⟨gO, 3, none⟩ = some (.int .u64 ri) ∧ w2.cell? ⟨gO, 4, none⟩ = some (.int .u64 rt)))
    (HS : Aside0 (∀ w2 A4 c4, R w2 A4 c4 → Calls Try.prog 40 #[.agg #[.int .u64 a, .int .u64 b, .slice none 0 0, .slice A5 m5 c5], .int .u64 ri, .int .u64 rt, .slice A4 n4 c4] w2 fun e w3 => ∃ A7 c7, e = .returned (.tuple #[.int .u64 r1, .slice A7 n7 c7, .bool rb]) ∧ R' w3 A7 c7))
    {T0 T1 T2 T3 T4 T5 T7 T8 T10 T11 T12 T13 T14 T15 T16 T17 T19 T20 T21 T22 T23 T24 T25 T26 T27 T28 T29 T30 T31 T32 T33 T34 T35 T36 T37 T38 T39 T40 T41 T42 T43 T44 T45 T46 T47 T48 T49 T50 T51 T52 T53 T54 T55 T56 T57 T58 T59 T60 T61 T62 T63 T64 T65 T66 T67 T68 T69 T70 T71 T72 T73 T74 T75 T76 T77 T78 T79 T80 T81 T82 T83 T84 T85 T86 T87 T88 T89 T90 T91 T92 T93 T94 T95 T96 T97 T98 T99 T100 T101 T102 T103 T104 T105 T106 T107 T108 T109 T110 T111 T112 T113 T114 T115 T116 T117 T118 T119 T120 T121 T122 T123 T124 T125 T126 T127 T128 T129 T130 T131 T132 T133 T134 T135 T136 T137 T138 T139 T140 T141 T142 T143 T144 T145 T146 T147 T148 T149 T150 T151 T152 T153 T154 T155 T156 T157 T158 T159 T160 T161 T162 T163 T164 T165 T166 T167 T168 T169 T170 T171 T172 T173 T174 T175 T176 T177 T178 T179 T180 T181 T182 T183 T184 T185 T186 T187 T188 T189 T190 T191 T192 T193 T194 T195 T196 T197 T198 T199 T200 T201 T202 T203 T204 T205 T206 T207 T208 T209 T210 T211 T212 T213 T214 T215 T216 T217 T218 T219 T220 T221 T222 T223 T224 T225 T226 T227 T228 T229 : Value}
    (hK : ∀ (u173 u174 u175 u176 u177 u178 u179 u180 u181 u182 u172 u183 u184 u185 : Value) (w3 : World) (A7 : Option Addr) (c7 : Nat), R' w3 A7 c7 → Q .normal { tmps := #[T0, T1, T2, T3, T4, T5, .pointer (some ⟨gW, 0, none⟩), T7, T8, .pointer (some ⟨gO, 0, none⟩), T10, T11, T12, T13, T14, T15, T16, T17, .slice A3 n3 c3, T19, T20, T21, .int .u64 r1, .slice A7 n7 c7, .bool rb, T25, T26, T27, T28, T29, T30, T31, T32, T33, T34, T35, T36, T37, T38, T39, T40, T41, T42, T43, T44, T45, T46, T47, T48, T49, T50, T51, T52, T53, T54, T55, T56, T57, T58, T59, T60, T61, T62, T63, T64, T65, T66, T67, T68, T69, T70, T71, T72, T73, T74, T75, T76, T77, T78, T79, T80, T81, T82, T83, T84, T85, T86, T87, T88, T89, T90, T91, T92, T93, T94, T95, T96, T97, T98, T99, T100, T101, T102, T103, T104, T105, T106, T107, T108, T109, T110, T111, T112, T113, T114, T115, T116, T117, T118, T119, T120, T121, T122, T123, T124, T125, T126, T127, T128, T129, T130, T131, T132, T133, T134, T135, T136, T137, T138, T139, T140, T141, T142, T143, T144, T145, T146, T147, T148, T149, T150, T151, T152, T153, T154, T155, T156, T157, T158, T159, T160, T161, T162, T163, T164, T165, T166, T167, T168, T169, T170, T171, u172, u173, u174, u175, u176, u177, u178, u179, u180, u181, u182, u183, u184, u185, T186, T187, T188, T189, T190, T191, T192, T193, T194, T195, T196, T197, T198, T199, T200, T201, T202, T203, T204, T205, T206, T207, T208, T209, T210, T211, T212, T213, T214, T215, T216, T217, T218, T219, T220, T221, T222, T223, T224, T225, T226, T227, T228, T229], defers := dfs } (w3)) :
    (Code.region 37 ops true).wp Try.prog Q { tmps := #[T0, T1, T2, T3, T4, T5, .pointer (some ⟨gW, 0, none⟩), T7, T8, .pointer (some ⟨gO, 0, none⟩), T10, T11, T12, T13, T14, T15, T16, T17, .slice A3 n3 c3, T19, T20, T21, T22, T23, T24, T25, T26, T27, T28, T29, T30, T31, T32, T33, T34, T35, T36, T37, T38, T39, T40, T41, T42, T43, T44, T45, T46, T47, T48, T49, T50, T51, T52, T53, T54, T55, T56, T57, T58, T59, T60, T61, T62, T63, T64, T65, T66, T67, T68, T69, T70, T71, T72, T73, T74, T75, T76, T77, T78, T79, T80, T81, T82, T83, T84, T85, T86, T87, T88, T89, T90, T91, T92, T93, T94, T95, T96, T97, T98, T99, T100, T101, T102, T103, T104, T105, T106, T107, T108, T109, T110, T111, T112, T113, T114, T115, T116, T117, T118, T119, T120, T121, T122, T123, T124, T125, T126, T127, T128, T129, T130, T131, T132, T133, T134, T135, T136, T137, T138, T139, T140, T141, T142, T143, T144, T145, T146, T147, T148, T149, T150, T151, T152, T153, T154, T155, T156, T157, T158, T159, T160, T161, T162, T163, T164, T165, T166, T167, T168, T169, T170, T171, T172, T173, T174, T175, T176, T177, T178, T179, T180, T181, T182, T183, T184, T185, T186, T187, T188, T189, T190, T191, T192, T193, T194, T195, T196, T197, T198, T199, T200, T201, T202, T203, T204, T205, T206, T207, T208, T209, T210, T211, T212, T213, T214, T215, T216, T217, T218, T219, T220, T221, T222, T223, T224, T225, T226, T227, T228, T229], defers := dfs } wr := by
  have hops' := Option.some.inj (hops.symm.trans (show findR 37 ((Try.f9.body).getD .skip) = some _ from rfl))
  subst hops'
  clear hops
  refine wp_mono (Q := onlyN (Q .normal)) ?_ onlyN_to
  refine start_ (n := 17) (S := fun w' => w'.cell? ⟨gW, 0, none⟩ = some (.int .u64 a) ∧ w'.cell? ⟨gW, 1, none⟩ = some (.int .u64 b) ∧ w'.cell? ⟨gW, 2, none⟩ = some (.slice none 0 0) ∧ w'.cell? ⟨gW, 3, none⟩ = some (.slice A5 m5 c5) ∧ w'.cell? ⟨gO, 3, none⟩ = some (.int .u64 ri) ∧ w'.cell? ⟨gO, 4, none⟩ = some (.int .u64 rt)) (ds := [9]) #[false, false, false, false, false, false, false, false, false, false, false, false, false, false, false, false, false] (by kernel_rfl) rfl rfl ⟨hl.1, hl.2.1, hl.2.2.1, hl.2.2.2.1, hl.2.2.2.2.1, hl.2.2.2.2.2⟩ (fun hHeld => ?_)
  refine pure_ (i := 1) (N := some 174) (v := ?_) (a' := ?_) #[false, true, false, false, false, false, false, false, false, false, false, false, false, false, false, false, false] rfl rfl (by kernel_rfl) (fun _ _ _ h => h) (Or.inl ⟨by rfl, ?_⟩) ?_ ?_
  rotate_left
  · intro w'
    go_simp
    with_reducible rfl
  rotate_left
  · simp only [Act.put, List.setIfInBounds_toArray, List.set_cons_zero, List.set_cons_succ, i64_w, i32_w]
    rfl
  refine pure_ (i := 2) (N := some 175) (v := ?_) (a' := ?_) #[false, true, true, false, false, false, false, false, false, false, false, false, false, false, false, false, false] rfl rfl (by kernel_rfl) (fun _ _ _ h => h) (Or.inl ⟨by rfl, ?_⟩) ?_ ?_
  rotate_left
  · intro w'
    go_simp
    with_reducible rfl
  rotate_left
  · simp only [Act.put, List.setIfInBounds_toArray, List.set_cons_zero, List.set_cons_succ, i64_w, i32_w]
    rfl
  refine pure_ (i := 4) (N := some 177) (v := ?_) (a' := ?_) #[false, true, true, false, true, false, false, false, false, false, false, false, false, false, false, false, false] rfl rfl (by kernel_rfl) (fun _ _ _ h => h) (Or.inl ⟨by rfl, ?_⟩) ?_ ?_
  rotate_left
  · intro w'
    go_simp
    with_reducible rfl
  rotate_left
  · simp only [Act.put, List.setIfInBounds_toArray, List.set_cons_zero, List.set_cons_succ, i64_w, i32_w]
    rfl
  refine pure_ (i := 5) (N := some 178) (v := ?_) (a' := ?_) #[false, true, true, false, true, true, false, false, false, false, false, false, false, false, false, false, false] rfl rfl (by kernel_rfl) (fun _ _ _ h => h) (Or.inl ⟨by rfl, ?_⟩) ?_ ?_
  rotate_left
  · intro w'
    go_simp
    with_reducible rfl
  rotate_left
  · simp only [Act.put, List.setIfInBounds_toArray, List.set_cons_zero, List.set_cons_succ, i64_w, i32_w]
    rfl
  refine pure_ (i := 7) (N := some 180) (v := ?_) (a' := ?_) #[false, true, true, false, true, true, false, true, false, false, false, false, false, false, false, false, false] rfl rfl (by kernel_rfl) (fun _ _ _ h => h) (Or.inl ⟨by rfl, ?_⟩) ?_ ?_
  rotate_left
  · intro w'
    go_simp
    with_reducible rfl
  rotate_left
  · simp only [Act.put, List.setIfInBounds_toArray, List.set_cons_zero, List.set_cons_succ, i64_w, i32_w]
    rfl
  refine take_ (i := 0) (N := some 173) (v := ?_) (a' := ?_) #[true, true, true, false, true, true, false, true, false, false, false, false, false, false, false, false, false] rfl rfl (by kernel_rfl) (fun _ _ _ h => h) (Or.inl ⟨by rfl, ?_⟩) hHeld ?_ ?_
  rotate_left
  · rintro w' ⟨s0, s1, s2, s3, s4, s5⟩
    go_simp
    with_reducible rfl
  rotate_left
  · simp only [Act.put, List.setIfInBounds_toArray, List.set_cons_zero, List.set_cons_succ, i64_w, i32_w]
    rfl
  refine take_ (i := 3) (N := some 176) (v := ?_) (a' := ?_) #[true, true, true, true, true, true, false, true, false, false, false, false, false, false, false, false, false] rfl rfl (by kernel_rfl) (fun _ _ _ h => h) (Or.inl ⟨by rfl, ?_⟩) hHeld ?_ ?_
  rotate_left
  · rintro w' ⟨s0, s1, s2, s3, s4, s5⟩
    go_simp
    with_reducible rfl
  rotate_left
  · simp only [Act.put, List.setIfInBounds_toArray, List.set_cons_zero, List.set_cons_succ, i64_w, i32_w]
    rfl
  refine take_ (i := 6) (N := some 179) (v := ?_) (a' := ?_) #[true, true, true, true, true, true, true, true, false, false, false, false, false, false, false, false, false] rfl rfl (by kernel_rfl) (fun _ _ _ h => h) (Or.inl ⟨by rfl, ?_⟩) hHeld ?_ ?_
  rotate_left
  · rintro w' ⟨s0, s1, s2, s3, s4, s5⟩
    go_simp
    with_reducible rfl
  rotate_left
  · simp only [Act.put, List.setIfInBounds_toArray, List.set_cons_zero, List.set_cons_succ, i64_w, i32_w]
    rfl
  refine one_ (i := 8) (N := some 181) #[true, true, true, true, true, true, true, true, true, false, false, false, false, false, false, false, false] rfl rfl (by kernel_rfl) (by decide) (fun K hK => ?_)
  refine goes_ Try.func41 (by kernel_rfl) rfl #[.slice A3 n3 c3] (by rfl) rfl rfl (by simp only [List.map_toArray, List.map_cons, List.map_nil]; rfl) ?_
  with_reducible refine (HP.out).mono ?_
  rintro e w2 ⟨A4, c4, rfl, hR⟩
  refine ⟨_, rfl, ?_⟩
  have hk2 := HKp.out _ _ _ hR
  have HR := Aside0.mk hR
  clear hR
  refine hK.out _ _ ⟨hk2.1, hk2.2.1, hk2.2.2.1, hk2.2.2.2.1, hk2.2.2.2.2.1, hk2.2.2.2.2.2⟩ (fun hHeld => ?_)
  clear hK K
  refine norm_ (a' := ?_) ?_ ?_
  rotate_left
  · show Act.put _ (some 181) _ = _
    simp only [Act.put, List.setIfInBounds_toArray, List.set_cons_zero, List.set_cons_succ, i64_w, i32_w]
    rfl
  refine last_ (i := 9) (N := some 182) #[true, true, true, true, true, true, true, true, true, true, false, false, false, false, false, false, false] rfl rfl (by kernel_rfl) (by decide) (fun K hK => ?_)
  refine goes_ Try.func40 (by kernel_rfl) rfl #[.agg #[.int .u64 a, .int .u64 b, .slice none 0 0, .slice A5 m5 c5], .int .u64 ri, .int .u64 rt, .slice A4 n4 c4] (by rfl) rfl rfl (by simp only [List.map_toArray, List.map_cons, List.map_nil]; rfl) ?_
  with_reducible refine (HS.out _ _ _ HR.out).mono ?_
  rintro e w3 ⟨A7, c7, rfl, hR3⟩
  refine ⟨_, rfl, ?_⟩
  have HR3 := Aside0.mk hR3
  clear hR3
  refine hK.out _ _ ?_
  clear hK K
  refine norm_ (a' := ?_) ?_ ?_
  rotate_left
  · show Act.put _ (some 182) _ = _
    simp only [Act.put, List.setIfInBounds_toArray, List.set_cons_zero, List.set_cons_succ, i64_w, i32_w]
    rfl
  refine pure_ (i := 10) (N := some 172) (v := ?_) (a' := ?_) #[true, true, true, true, true, true, true, true, true, true, true, false, false, false, false, false, false] rfl rfl (by kernel_rfl) (fun _ _ _ h => h) (Or.inl ⟨by rfl, ?_⟩) ?_ ?_
  rotate_left
  · intro w'
    go_simp
    with_reducible rfl
  rotate_left
  · simp only [Act.put, List.setIfInBounds_toArray, List.set_cons_zero, List.set_cons_succ, i64_w, i32_w]
    rfl
  refine pure_ (i := 11) (N := some 183) (v := ?_) (a' := ?_) #[true, true, true, true, true, true, true, true, true, true, true, true, false, false, false, false, false] rfl rfl (by kernel_rfl) (fun _ _ _ h => h) (Or.inl ⟨by rfl, ?_⟩) ?_ ?_
  rotate_left
  · intro w'
    go_simp
    with_reducible rfl
  rotate_left
  · simp only [Act.put, List.setIfInBounds_toArray, List.set_cons_zero, List.set_cons_succ, i64_w, i32_w]
    rfl
  refine pure_ (i := 12) (N := some 184) (v := ?_) (a' := ?_) #[true, true, true, true, true, true, true, true, true, true, true, true, true, false, false, false, false] rfl rfl (by kernel_rfl) (fun _ _ _ h => h) (Or.inl ⟨by rfl, ?_⟩) ?_ ?_
  rotate_left
  · intro w'
    go_simp
    with_reducible rfl
  rotate_left
  · simp only [Act.put, List.setIfInBounds_toArray, List.set_cons_zero, List.set_cons_succ, i64_w, i32_w]
    rfl
  refine pure_ (i := 13) (N := some 185) (v := ?_) (a' := ?_) #[true, true, true, true, true, true, true, true, true, true, true, true, true, true, false, false, false] rfl rfl (by kernel_rfl) (fun _ _ _ h => h) (Or.inl ⟨by rfl, ?_⟩) ?_ ?_
  rotate_left
  · intro w'
    go_simp
    with_reducible rfl
  rotate_left
  · simp only [Act.put, List.setIfInBounds_toArray, List.set_cons_zero, List.set_cons_succ, i64_w, i32_w]
    rfl
  refine pure_ (i := 14) (N := some 22) (v := ?_) (a' := ?_) #[true, true, true, true, true, true, true, true, true, true, true, true, true, true, true, false, false] rfl rfl (by kernel_rfl) (fun _ _ _ h => h) (Or.inl ⟨by rfl, ?_⟩) ?_ ?_
  rotate_left
  · intro w'
    go_simp
    with_reducible rfl
  rotate_left
  · simp only [Act.put, List.setIfInBounds_toArray, List.set_cons_zero, List.set_cons_succ, i64_w, i32_w]
    rfl
  refine pure_ (i := 15) (N := some 23) (v := ?_) (a' := ?_) #[true, true, true, true, true, true, true, true, true, true, true, true, true, true, true, true, false] rfl rfl (by kernel_rfl) (fun _ _ _ h => h) (Or.inl ⟨by rfl, ?_⟩) ?_ ?_
  rotate_left
  · intro w'
    go_simp
    with_reducible rfl
  rotate_left
  · simp only [Act.put, List.setIfInBounds_toArray, List.set_cons_zero, List.set_cons_succ, i64_w, i32_w]
    rfl
  refine pure_ (i := 16) (N := some 24) (v := ?_) (a' := ?_) #[true, true, true, true, true, true, true, true, true, true, true, true, true, true, true, true, true] rfl rfl (by kernel_rfl) (fun _ _ _ h => h) (Or.inl ⟨by rfl, ?_⟩) ?_ ?_
  rotate_left
  · intro w'
    go_simp
    with_reducible rfl
  rotate_left
  · simp only [Act.put, List.setIfInBounds_toArray, List.set_cons_zero, List.set_cons_succ, i64_w, i32_w]
    rfl
  refine done_ (by kernel_rfl) ?_
  refine onlyN_mk ?_
  exact hK _ _ _ _ _ _ _ _ _ _ _ _ _ _ _ _ _ HR3.out

set_option maxHeartbeats 16000000 in
set_option maxRecDepth 100000 in
theorem kind3 {Q : Exit → Act → World → Prop} {cd : Code} (hcd : condA 154 ((Try.f9.body).getD .skip) = some cd) {W w : World} {F0 : Nat → Prop} {dfs : List Deferred} {g gW : Nat} {a b i : Int} {xs : List SE} {A5 : Option Addr} {c5 : Nat} {gO : Nat} {kd nn mo ri rt od : Int} {raw : Bool} {AB : Option Addr} {cB : Nat} {By : List Int}
    (hBy : (Kd.int .u8).C w AB By.length By) (hcB : By.length ≤ cB) (h60 : By.length ≤ 60) (hri : 0 ≤ ri ∧ ri < 18446744073709551616) (hfew : xs.length ≤ 90000)
    (hi : 0 ≤ i ∧ i < 18446744073709551616) (hc5 : (pl xs).length ≤ c5) (S : St W F0 w [Pt gW #[.int .u64 a, .int .u64 b, .slice none 0 0, .slice A5 (pl xs).length c5] 66, ChP g a b xs, Vw k63 A5 (pl xs).length (pl xs), Pt gO #[.int .i64 kd, .int .u64 nn, .int .u64 mo, .int .u64 ri, .int .u64 rt, .slice AB By.length cB, .int .u8 od, .bool raw] 84])
    {T0 T1 T2 T3 T4 T7 T8 T10 T12 T13 T14 T15 T16 T17 T18 T19 T20 T21 T22 T23 T24 T25 T26 T27 T28 T29 T30 T31 T32 T33 T34 T35 T36 T37 T38 T39 T40 T41 T42 T43 T44 T45 T46 T47 T48 T49 T50 T51 T52 T53 T54 T55 T56 T57 T58 T59 T60 T61 T62 T63 T64 T65 T66 T67 T68 T69 T70 T71 T72 T73 T74 T75 T76 T77 T78 T79 T80 T81 T82 T83 T84 T85 T86 T87 T88 T89 T90 T91 T92 T93 T94 T95 T96 T97 T98 T99 T100 T101 T102 T103 T104 T105 T106 T107 T108 T109 T110 T111 T112 T113 T114 T115 T116 T117 T118 T119 T120 T121 T122 T123 T124 T125 T126 T127 T128 T129 T130 T131 T132 T133 T134 T135 T136 T137 T138 T139 T140 T141 T142 T143 T144 T145 T146 T147 T148 T149 T150 T151 T152 T153 T154 T155 T156 T157 T158 T159 T160 T161 T162 T163 T164 T165 T166 T167 T168 T169 T170 T171 T172 T173 T174 T175 T176 T177 T178 T179 T180 T181 T182 T183 T184 T185 T186 T187 T188 T189 T190 T191 T192 T193 T194 T195 T196 T197 T198 T199 T200 T201 T202 T203 T204 T205 T206 T207 T208 T209 T210 T211 T212 T213 T214 T215 T216 T217 T218 T219 T220 T221 T222 T223 T224 T225 T226 T227 T228 T229 : Value}
    (hK : ∀ (u18 u19 u20 u21 u22 u23 u24 u156 u157 u158 u159 u160 u161 u162 u163 u164 u165 u166 u167 u168 u169 u170 u171 u172 u173 u174 u175 u176 u177 u178 u179 u180 u181 u182 u183 u184 u185 u186 u187 u188 u189 u190 u191 u192 u193 u194 u195 u196 u197 u198 u199 u200 u201 u202 u203 u204 u205 u206 u207 u208 u209 u210 u211 u212 u213 u214 u215 u216 u217 u218 u219 u220 u221 u222 : Value) (w' : World) (a' b' : Int) (xs' : List SE) (A' : Option Addr) (c' : Nat), (pl xs').length ≤ c' → xs'.length ≤ xs.length + 60 → St W F0 w' [Pt gW #[.int .u64 a', .int .u64 b', .slice none 0 0, .slice A' (pl xs').length c'] 66, ChP g a' b' xs', Vw k63 A' (pl xs').length (pl xs')] → Q .normal { tmps := #[T0, T1, T2, T3, T4, .pointer (some ⟨g, 0, none⟩), .pointer (some ⟨gW, 0, none⟩), T7, T8, .pointer (some ⟨gO, 0, none⟩), T10, .int .u64 i, T12, T13, T14, T15, T16, T17, u18, u19, u20, u21, u22, u23, u24, T25, T26, T27, T28, T29, T30, T31, T32, T33, T34, T35, T36, T37, T38, T39, T40, T41, T42, T43, T44, T45, T46, T47, T48, T49, T50, T51, T52, T53, T54, T55, T56, T57, T58, T59, T60, T61, T62, T63, T64, T65, T66, T67, T68, T69, T70, T71, T72, T73, T74, T75, T76, T77, T78, T79, T80, T81, T82, T83, T84, T85, T86, T87, T88, T89, T90, T91, T92, T93, T94, T95, T96, T97, T98, T99, T100, T101, T102, T103, T104, T105, T106, T107, T108, T109, T110, T111, T112, T113, T114, T115, T116, T117, T118, T119, T120, T121, T122, T123, T124, T125, T126, T127, T128, T129, T130, T131, T132, T133, T134, T135, T136, T137, T138, T139, T140, T141, T142, T143, T144, T145, T146, T147, T148, T149, T150, T151, T152, T153, T154, T155, u156, u157, u158, u159, u160, u161, u162, u163, u164, u165, u166, u167, u168, u169, u170, u171, u172, u173, u174, u175, u176, u177, u178, u179, u180, u181, u182, u183, u184, u185, u186, u187, u188, u189, u190, u191, u192, u193, u194, u195, u196, u197, u198, u199, u200, u201, u202, u203, u204, u205, u206, u207, u208, u209, u210, u211, u212, u213, u214, u215, u216, u217, u218, u219, u220, u221, u222, T223, T224, T225, T226, T227, T228, T229], defers := dfs } w') :
    cd.wp Try.prog Q { tmps := #[T0, T1, T2, T3, T4, .pointer (some ⟨g, 0, none⟩), .pointer (some ⟨gW, 0, none⟩), T7, T8, .pointer (some ⟨gO, 0, none⟩), T10, .int .u64 i, T12, T13, T14, T15, T16, T17, T18, T19, T20, T21, T22, T23, T24, T25, T26, T27, T28, T29, T30, T31, T32, T33, T34, T35, T36, T37, T38, T39, T40, T41, T42, T43, T44, T45, T46, T47, T48, T49, T50, T51, T52, T53, T54, T55, T56, T57, T58, T59, T60, T61, T62, T63, T64, T65, T66, T67, T68, T69, T70, T71, T72, T73, T74, T75, T76, T77, T78, T79, T80, T81, T82, T83, T84, T85, T86, T87, T88, T89, T90, T91, T92, T93, T94, T95, T96, T97, T98, T99, T100, T101, T102, T103, T104, T105, T106, T107, T108, T109, T110, T111, T112, T113, T114, T115, T116, T117, T118, T119, T120, T121, T122, T123, T124, T125, T126, T127, T128, T129, T130, T131, T132, T133, T134, T135, T136, T137, T138, T139, T140, T141, T142, T143, T144, T145, T146, T147, T148, T149, T150, T151, T152, T153, T154, T155, T156, T157, T158, T159, T160, T161, T162, T163, T164, T165, T166, T167, T168, T169, T170, T171, T172, T173, T174, T175, T176, T177, T178, T179, T180, T181, T182, T183, T184, T185, T186, T187, T188, T189, T190, T191, T192, T193, T194, T195, T196, T197, T198, T199, T200, T201, T202, T203, T204, T205, T206, T207, T208, T209, T210, T211, T212, T213, T214, T215, T216, T217, T218, T219, T220, T221, T222, T223, T224, T225, T226, T227, T228, T229], defers := dfs } w := by
  have hcd' := Option.some.inj (hcd.symm.trans (show condA 154 ((Try.f9.body).getD .skip) = some _ from rfl))
  subst hcd'
  clear hcd
  have hu := Try.underlying66
  have hu2 := Try.underlying63
  have HI := Aside0.mk hi
  have HC5 := Aside0.mk hc5
  have hrow := ((S.front 1 rfl).chOpen).1
  have HRW := Aside0.mk hrow
  obtain ⟨m, hms, hm⟩ := entries_ex ri rt od By h60 (k := 61) (by omega)
  have HE : Aside0 (Calls Try.prog 30 #[.agg #[.int .u64 ri, .int .u64 rt, .slice AB By.length cB, .int .u8 od]] w fun e w'' => ∃ v0_ : Value, e = .returned (v0_) ∧ Kd.S KE 78 w'' w.heap.size (fun _ => True) v0_ m ∧ Below w.heap.size w w'') := ⟨jobberlaw38_Run_entries.calls 61 ri rt AB cB By od m w hBy hcB hms⟩
  have HM : Aside0 (m.length ≤ 60 ∧ (∀ x ∈ m, x.f2.length ≤ 1000000) ∧ (∀ x ∈ m, 0 ≤ x.f0 ∧ x.f0 < 18446744073709551616)) := ⟨by rw [hm.len]; exact h60, fun x hx => by rw [hm.bod x hx]; omega, fun x hx => (hm.rng x hx).1⟩
  obtain ⟨r1, ad, rb, hr⟩ : ∃ u v x, joinA a b xs ri rt m = (u, v, x) := ⟨_, _, _, rfl⟩
  obtain ⟨xs1, f1, f2, f3, f4, f5, f6, f7, f8⟩ := join_facts hrow hri.1 HM.out.2.2 hr
  simp only at f1 f2 f3 f4 f5 f6 f7 f8
  have HPE := Aside0.mk (plain_eval m (by have := HM.out.1; omega) (k := 61) (by have := HM.out.1; omega))
  have HPA := Aside0.mk (plain_eval ad (by have := HM.out.1; omega) (k := 61) (by have := HM.out.1; omega))
  have HSA := Aside0.mk (same_eval (pl ad) (by rw [pl_len]; have := HM.out.1; omega) (k := 61) (by rw [pl_len]; have := HM.out.1; omega))
  have HFE := Aside0.mk (And.intro hfew f6)
  have HCH : Aside0 (∀ w A3 c3, Ch w g a b xs → KE.C w A3 m.length m → m.length ≤ c3 → Calls Try.prog 31 #[.pointer (some ⟨g, 0, none⟩), .int .u64 ri, .int .u64 rt, .slice A3 m.length c3] w fun e w' => ∃ v, e = .returned (.tuple #[.int .u64 r1, v, .bool rb]) ∧ KE.R 78 w' w.heap.size (fun _ => True) v ad ∧ Below w.heap.size w w') := ⟨fun w A3 c3 h1 h2 h3 => by
    have h4 := chain_join w g a b xs h1 ri rt hri A3 c3 m h2 h3 (by have := HM.out.1; omega) HM.out.2.1 HM.out.2.2
    rw [hr] at h4
    exact h4⟩
  have HRJ : Aside0 (∀ w ok A4 c4, k63.C w A5 (pl xs).length (pl xs) → Kd.F k63 w ok A4 (pl m).length (pl m) → (pl m).length ≤ c4 → Calls Try.prog 40 #[.agg #[.int .u64 a, .int .u64 b, .slice none 0 0, .slice A5 (pl xs).length c5], .int .u64 ri, .int .u64 rt, .slice A4 (pl m).length c4] w fun e w' => ∃ A' c', e = .returned (.tuple #[.int .u64 r1, .slice A' (pl ad).length c', .bool rb]) ∧ (pl ad).length ≤ c' ∧ RowTo w w' ok A' (pl ad) ∧ Below w.heap.size w w') := ⟨fun w ok A4 c4 h1 h2 h3 => by
    have h4 := rjoin w ok a b ri rt A5 c5 xs h1 hc5 hrow hri A4 c4 m h2 h3 (by have := HM.out.1; omega) HM.out.2.2
    rw [hr] at h4
    exact h4⟩
  have HAD : Aside0 ((∀ x ∈ ad, x.f2.length ≤ 1000000) ∧ (∀ x ∈ ad, 0 ≤ x.f0 ∧ x.f0 < 18446744073709551616)) := ⟨fun x hx => HM.out.2.1 x (f7 x hx), fun x hx => HM.out.2.2 x (f7 x hx)⟩
  cases rb with
  | false =>
    have hr0 := f8 rfl
    have hpos : decide (r1 > 0) = false := decide_eq_false (by omega)
    have hx1 : xs1.length ≤ xs.length := Nat.le_of_eq (by rw [f2 hr0])
    have HRO1 : Aside0 (a + xs1.length < 18446744073709551616) := ⟨by have := hrow.hi; omega⟩
    have HEX := Aside0.mk (f2 hr0)
    have HX1 := Aside0.mk hx1
    clear hi hc5 hrow hBy hcB h60 hri hfew hms hm hr f1 f2 f3 f4 f5 f6 f7 f8 hx1 hr0
    have o0 : w.cell? ⟨gO, 0, none⟩ = some (.int .i64 kd) := (blk_cell (S.blk 3 rfl) 0).trans rfl; have o1 : w.cell? ⟨gO, 1, none⟩ = some (.int .u64 nn) := (blk_cell (S.blk 3 rfl) 1).trans rfl; have o2 : w.cell? ⟨gO, 2, none⟩ = some (.int .u64 mo) := (blk_cell (S.blk 3 rfl) 2).trans rfl; have o3 : w.cell? ⟨gO, 3, none⟩ = some (.int .u64 ri) := (blk_cell (S.blk 3 rfl) 3).trans rfl; have o4 : w.cell? ⟨gO, 4, none⟩ = some (.int .u64 rt) := (blk_cell (S.blk 3 rfl) 4).trans rfl; have o5 : w.cell? ⟨gO, 5, none⟩ = some (.slice AB By.length cB) := (blk_cell (S.blk 3 rfl) 5).trans rfl; have o6 : w.cell? ⟨gO, 6, none⟩ = some (.int .u8 od) := (blk_cell (S.blk 3 rfl) 6).trans rfl; have o7 : w.cell? ⟨gO, 7, none⟩ = some (.bool raw) := (blk_cell (S.blk 3 rfl) 7).trans rfl
    go_upto_region 37 with (first
      | (go_at_call 30; refine HE.out.mono ?_; rintro e w1 ⟨v, rfl, hR, hb⟩; obtain ⟨A3, c3, e3⟩ := Kd.R_slice (Kd.S_R hR); subst e3; have S1 := S.row hb (Kd.S_R hR); clear S hR hb o0 o1 o2 o3 o4 o5 o6 o7; have o0 : w1.cell? ⟨gO, 0, none⟩ = some (.int .i64 kd) := (blk_cell (S1.blk 4 rfl) 0).trans rfl; have o1 : w1.cell? ⟨gO, 1, none⟩ = some (.int .u64 nn) := (blk_cell (S1.blk 4 rfl) 1).trans rfl; have o2 : w1.cell? ⟨gO, 2, none⟩ = some (.int .u64 mo) := (blk_cell (S1.blk 4 rfl) 2).trans rfl; have o3 : w1.cell? ⟨gO, 3, none⟩ = some (.int .u64 ri) := (blk_cell (S1.blk 4 rfl) 3).trans rfl; have o4 : w1.cell? ⟨gO, 4, none⟩ = some (.int .u64 rt) := (blk_cell (S1.blk 4 rfl) 4).trans rfl; have o5 : w1.cell? ⟨gO, 5, none⟩ = some (.slice AB By.length cB) := (blk_cell (S1.blk 4 rfl) 5).trans rfl; have o6 : w1.cell? ⟨gO, 6, none⟩ = some (.int .u8 od) := (blk_cell (S1.blk 4 rfl) 6).trans rfl; have o7 : w1.cell? ⟨gO, 7, none⟩ = some (.bool raw) := (blk_cell (S1.blk 4 rfl) 7).trans rfl)
      | (go_at_call 31; obtain ⟨okm, hRm⟩ := S1.rd 0 rfl; refine (HCH.out w1 A3 c3 (S1.ch 2 rfl) (Kd.R_reads' hRm).2.2 (Kd.R_reads' hRm).2.1).mono ?_; rintro e w2 ⟨v, rfl, hR, hb⟩; obtain ⟨A6, c6, e6⟩ := Kd.R_slice hR; subst e6; have S2 := S1.row hb hR; clear S1 hRm hR hb o0 o1 o2 o3 o4 o5 o6 o7))
    obtain ⟨ok, hR2, hup⟩ := (S2.front 1 rfl).shared
    have HPP : Aside0 (Calls Try.prog 41 #[.slice A3 m.length c3] w2.drew fun e w3 => ∃ A4 c4, e = .returned (.slice A4 (pl m).length c4) ∧ ((pl m).length ≤ c4 ∧ Kd.F k63 w3 (fun k => ok k ∨ w2.heap.size ≤ k) A4 (pl m).length (pl m) ∧ Below w2.heap.size w2 w3)) := ⟨by
      refine (jobberlaw32_Plain.calls 61 ok A3 c3 m (pl m) w2.drew (Kd.R_V (Kd.R_drew hR2)) HPE.out).mono ?_
      rintro e w4 ⟨v, rfl, hN, hb⟩
      obtain ⟨A4, c4, rfl⟩ := Kd.N_slice hN
      exact ⟨A4, c4, rfl, (Kd.N_reads' hN).2.1, Kd.N_F hN, below_step (below_drew (Below.refl _ _)) hb⟩⟩
    have HKK : Aside0 (∀ w3 (A4 : Option Addr) (c4 : Nat), ((pl m).length ≤ c4 ∧ Kd.F k63 w3 (fun k => ok k ∨ w2.heap.size ≤ k) A4 (pl m).length (pl m) ∧ Below w2.heap.size w2 w3) → w3.cell? ⟨gW, 0, none⟩ = some (.int .u64 a) ∧ w3.cell? ⟨gW, 1, none⟩ = some (.int .u64 b) ∧ w3.cell? ⟨gW, 2, none⟩ = some (.slice none 0 0) ∧ w3.cell? ⟨gW, 3, none⟩ = some (.slice A5 (pl xs).length c5) ∧ w3.cell? ⟨gO, 3, none⟩ = some (.int .u64 ri) ∧ w3.cell? ⟨gO, 4, none⟩ = some (.int .u64 rt)) := ⟨fun w3 A4 c4 h => by
      have h1 := (h.2.2.block _ (blk_lt (S2.blk 2 rfl))).trans (S2.blk 2 rfl)
      have h2 := (h.2.2.block _ (blk_lt (S2.blk 5 rfl))).trans (S2.blk 5 rfl)
      exact ⟨(blk_cell h1 0).trans rfl, (blk_cell h1 1).trans rfl, (blk_cell h1 2).trans rfl, (blk_cell h1 3).trans rfl, (blk_cell h2 3).trans rfl, (blk_cell h2 4).trans rfl⟩⟩
    have HSS : Aside0 (∀ w3 A4 c4, ((pl m).length ≤ c4 ∧ Kd.F k63 w3 (fun k => ok k ∨ w2.heap.size ≤ k) A4 (pl m).length (pl m) ∧ Below w2.heap.size w2 w3) → Calls Try.prog 40 #[.agg #[.int .u64 a, .int .u64 b, .slice none 0 0, .slice A5 (pl xs).length c5], .int .u64 ri, .int .u64 rt, .slice A4 (pl m).length c4] w3 fun e w4 => ∃ A7 c7, e = .returned (.tuple #[.int .u64 r1, .slice A7 (pl ad).length c7, .bool false]) ∧ ((pl ad).length ≤ c7 ∧ Kd.F k63 w4 (fun k => ok k ∨ w2.heap.size ≤ k) A7 (pl ad).length (pl ad) ∧ Below w2.heap.size w2 w4)) := ⟨fun w3 A4 c4 h =>
      (HRJ.out w3 _ A4 c4 (Kd.C_below (S2.vw 4 rfl) h.2.2) h.2.1 h.1).mono (fun e w4 hh => by
        obtain ⟨A7, c7, rfl, h1, h2, h3⟩ := hh
        exact ⟨A7, c7, rfl, h1, Kd.F_mono h2 (fun k hk => hk.elim (fun x => x) (fun x => .inr (Nat.le_trans h.2.2.size x))), below_step h.2.2 h3⟩)⟩
    have hw2 := S2.blk 2 rfl
    have ho2 := S2.blk 5 rfl
    refine pk37 (R := fun w3 A4 c4 => ((pl m).length ≤ c4 ∧ Kd.F k63 w3 (fun k => ok k ∨ w2.heap.size ≤ k) A4 (pl m).length (pl m) ∧ Below w2.heap.size w2 w3)) (R' := fun w4 A7 c7 => ((pl ad).length ≤ c7 ∧ Kd.F k63 w4 (fun k => ok k ∨ w2.heap.size ≤ k) A7 (pl ad).length (pl ad) ∧ Below w2.heap.size w2 w4)) rfl ⟨(blk_cell hw2 0).trans rfl, (blk_cell hw2 1).trans rfl, (blk_cell hw2 2).trans rfl, (blk_cell hw2 3).trans rfl, (blk_cell ho2 3).trans rfl, (blk_cell ho2 4).trans rfl⟩ HPP HKK HSS ?_
    intro u173 u174 u175 u176 u177 u178 u179 u180 u181 u182 u172 u183 u184 u185 w4 A7 c7 hR4
    have S4 := hup w4 (Vw k63 A7 (pl ad).length (pl ad)) hR4.2.2 Vw.loc hR4.2.1
    have HL7 := Aside0.mk hR4.1
    clear S2 hR2 hup HPP HKK HSS hw2 ho2 hR4
    obtain ⟨r1', hr1'⟩ : ∃ r1', r1' = r1 := ⟨_, rfl⟩
    go_wp2_with (first
      | (go_at_call 41; obtain ⟨oka, hRa⟩ := S4.rd 1 rfl; refine (jobberlaw32_Plain.calls 61 oka A6 c6 ad (pl ad) w4 (Kd.R_V hRa) HPA.out).mono ?_; rintro e w5 ⟨v, rfl, hN, hb⟩; obtain ⟨A8, c8, e8⟩ := Kd.N_slice hN; subst e8; have HN8 := Aside0.mk (Kd.N_reads' hN).2; have S5 := S4.call hb; clear S4 hRa hN hb)
      | (go_at_call 42; refine (jobberlaw32_Same.calls 61 A8 c8 (pl ad) A7 c7 (pl ad) true w5 HN8.out.2 HN8.out.1 (S5.vw 0 rfl) HL7.out HSA.out).mono ?_; rintro e w6 ⟨rfl, hd⟩; have S6 := S5.call hd.below; clear S5 hd))
    exact hK _ _ _ _ _ _ _ _ _ _ _ _ _ _ _ _ _ _ _ _ _ _ _ _ _ _ _ _ _ _ _ _ _ _ _ _ _ _ _ _ _ _ _ _ _ _ _ _ _ _ _ _ _ _ _ _ _ _ _ _ _ _ _ _ _ _ _ _ _ _ _ _ _ _ _ a b xs A5 c5 HC5.out (Nat.le_add_right _ _) ((((S6.front 4 rfl).front 4 rfl).front 4 rfl).take 3)
  | true =>
    by_cases hr0 : r1 = 0
    · obtain rfl := (f2 hr0).symm
      have hpos : decide (r1 > 0) = false := decide_eq_false (by omega)
      have hx1 : xs.length ≤ xs.length := Nat.le_of_eq (by rw [f2 hr0])
      have HRO1 : Aside0 (a + xs.length < 18446744073709551616) := ⟨by have := hrow.hi; omega⟩
      have HEX := Aside0.mk (f2 hr0)
      have hst := f5 rfl
      have HRA : Aside0 (Row (a + xs.length) ad) := ⟨stand_row ad _ (lastT b xs) (by have := hrow.lo; omega) HRO1.out (by have := HM.out.1; omega) HAD.out.1 HAD.out.2 hst⟩
      have HST := Aside0.mk (stands_eval ad (by have := HM.out.1; omega) (a + xs.length) (lastT b xs) (k := 100001) (by have := HM.out.1; omega))
      rw [hst] at HST
      obtain ⟨zs, hzs⟩ : ∃ zs, xs ++ ad = zs := ⟨_, rfl⟩
      have hpz : pl xs ++ pl ad = pl zs := by rw [← hzs]; simp [pl]
      have HZS := Aside0.mk (And.intro hzs hpz)
      have HZL : Aside0 (zs.length ≤ xs.length + 60) := ⟨by rw [← hzs, List.length_append]; have := HM.out.1; omega⟩
      have HPL : Aside0 ((pl xs).length ≤ 100000 ∧ (pl ad).length ≤ 60) := ⟨by rw [pl_len]; omega, by rw [pl_len]; have := HM.out.1; omega⟩
      clear hst hzs hpz
      have HX1 := Aside0.mk hx1
      clear hi hc5 hrow hBy hcB h60 hri hfew hms hm hr f1 f2 f3 f4 f5 f6 f7 f8 hx1 hr0
      have o0 : w.cell? ⟨gO, 0, none⟩ = some (.int .i64 kd) := (blk_cell (S.blk 3 rfl) 0).trans rfl; have o1 : w.cell? ⟨gO, 1, none⟩ = some (.int .u64 nn) := (blk_cell (S.blk 3 rfl) 1).trans rfl; have o2 : w.cell? ⟨gO, 2, none⟩ = some (.int .u64 mo) := (blk_cell (S.blk 3 rfl) 2).trans rfl; have o3 : w.cell? ⟨gO, 3, none⟩ = some (.int .u64 ri) := (blk_cell (S.blk 3 rfl) 3).trans rfl; have o4 : w.cell? ⟨gO, 4, none⟩ = some (.int .u64 rt) := (blk_cell (S.blk 3 rfl) 4).trans rfl; have o5 : w.cell? ⟨gO, 5, none⟩ = some (.slice AB By.length cB) := (blk_cell (S.blk 3 rfl) 5).trans rfl; have o6 : w.cell? ⟨gO, 6, none⟩ = some (.int .u8 od) := (blk_cell (S.blk 3 rfl) 6).trans rfl; have o7 : w.cell? ⟨gO, 7, none⟩ = some (.bool raw) := (blk_cell (S.blk 3 rfl) 7).trans rfl
      go_upto_region 37 with (first
        | (go_at_call 30; refine HE.out.mono ?_; rintro e w1 ⟨v, rfl, hR, hb⟩; obtain ⟨A3, c3, e3⟩ := Kd.R_slice (Kd.S_R hR); subst e3; have S1 := S.row hb (Kd.S_R hR); clear S hR hb o0 o1 o2 o3 o4 o5 o6 o7; have o0 : w1.cell? ⟨gO, 0, none⟩ = some (.int .i64 kd) := (blk_cell (S1.blk 4 rfl) 0).trans rfl; have o1 : w1.cell? ⟨gO, 1, none⟩ = some (.int .u64 nn) := (blk_cell (S1.blk 4 rfl) 1).trans rfl; have o2 : w1.cell? ⟨gO, 2, none⟩ = some (.int .u64 mo) := (blk_cell (S1.blk 4 rfl) 2).trans rfl; have o3 : w1.cell? ⟨gO, 3, none⟩ = some (.int .u64 ri) := (blk_cell (S1.blk 4 rfl) 3).trans rfl; have o4 : w1.cell? ⟨gO, 4, none⟩ = some (.int .u64 rt) := (blk_cell (S1.blk 4 rfl) 4).trans rfl; have o5 : w1.cell? ⟨gO, 5, none⟩ = some (.slice AB By.length cB) := (blk_cell (S1.blk 4 rfl) 5).trans rfl; have o6 : w1.cell? ⟨gO, 6, none⟩ = some (.int .u8 od) := (blk_cell (S1.blk 4 rfl) 6).trans rfl; have o7 : w1.cell? ⟨gO, 7, none⟩ = some (.bool raw) := (blk_cell (S1.blk 4 rfl) 7).trans rfl)
        | (go_at_call 31; obtain ⟨okm, hRm⟩ := S1.rd 0 rfl; refine (HCH.out w1 A3 c3 (S1.ch 2 rfl) (Kd.R_reads' hRm).2.2 (Kd.R_reads' hRm).2.1).mono ?_; rintro e w2 ⟨v, rfl, hR, hb⟩; obtain ⟨A6, c6, e6⟩ := Kd.R_slice hR; subst e6; have S2 := S1.row hb hR; clear S1 hRm hR hb o0 o1 o2 o3 o4 o5 o6 o7))
      obtain ⟨ok, hR2, hup⟩ := (S2.front 1 rfl).shared
      have HPP : Aside0 (Calls Try.prog 41 #[.slice A3 m.length c3] w2.drew fun e w3 => ∃ A4 c4, e = .returned (.slice A4 (pl m).length c4) ∧ ((pl m).length ≤ c4 ∧ Kd.F k63 w3 (fun k => ok k ∨ w2.heap.size ≤ k) A4 (pl m).length (pl m) ∧ Below w2.heap.size w2 w3)) := ⟨by
        refine (jobberlaw32_Plain.calls 61 ok A3 c3 m (pl m) w2.drew (Kd.R_V (Kd.R_drew hR2)) HPE.out).mono ?_
        rintro e w4 ⟨v, rfl, hN, hb⟩
        obtain ⟨A4, c4, rfl⟩ := Kd.N_slice hN
        exact ⟨A4, c4, rfl, (Kd.N_reads' hN).2.1, Kd.N_F hN, below_step (below_drew (Below.refl _ _)) hb⟩⟩
      have HKK : Aside0 (∀ w3 (A4 : Option Addr) (c4 : Nat), ((pl m).length ≤ c4 ∧ Kd.F k63 w3 (fun k => ok k ∨ w2.heap.size ≤ k) A4 (pl m).length (pl m) ∧ Below w2.heap.size w2 w3) → w3.cell? ⟨gW, 0, none⟩ = some (.int .u64 a) ∧ w3.cell? ⟨gW, 1, none⟩ = some (.int .u64 b) ∧ w3.cell? ⟨gW, 2, none⟩ = some (.slice none 0 0) ∧ w3.cell? ⟨gW, 3, none⟩ = some (.slice A5 (pl xs).length c5) ∧ w3.cell? ⟨gO, 3, none⟩ = some (.int .u64 ri) ∧ w3.cell? ⟨gO, 4, none⟩ = some (.int .u64 rt)) := ⟨fun w3 A4 c4 h => by
        have h1 := (h.2.2.block _ (blk_lt (S2.blk 2 rfl))).trans (S2.blk 2 rfl)
        have h2 := (h.2.2.block _ (blk_lt (S2.blk 5 rfl))).trans (S2.blk 5 rfl)
        exact ⟨(blk_cell h1 0).trans rfl, (blk_cell h1 1).trans rfl, (blk_cell h1 2).trans rfl, (blk_cell h1 3).trans rfl, (blk_cell h2 3).trans rfl, (blk_cell h2 4).trans rfl⟩⟩
      have HSS : Aside0 (∀ w3 A4 c4, ((pl m).length ≤ c4 ∧ Kd.F k63 w3 (fun k => ok k ∨ w2.heap.size ≤ k) A4 (pl m).length (pl m) ∧ Below w2.heap.size w2 w3) → Calls Try.prog 40 #[.agg #[.int .u64 a, .int .u64 b, .slice none 0 0, .slice A5 (pl xs).length c5], .int .u64 ri, .int .u64 rt, .slice A4 (pl m).length c4] w3 fun e w4 => ∃ A7 c7, e = .returned (.tuple #[.int .u64 r1, .slice A7 (pl ad).length c7, .bool true]) ∧ ((pl ad).length ≤ c7 ∧ Kd.F k63 w4 (fun k => ok k ∨ w2.heap.size ≤ k) A7 (pl ad).length (pl ad) ∧ Below w2.heap.size w2 w4)) := ⟨fun w3 A4 c4 h =>
        (HRJ.out w3 _ A4 c4 (Kd.C_below (S2.vw 4 rfl) h.2.2) h.2.1 h.1).mono (fun e w4 hh => by
          obtain ⟨A7, c7, rfl, h1, h2, h3⟩ := hh
          exact ⟨A7, c7, rfl, h1, Kd.F_mono h2 (fun k hk => hk.elim (fun x => x) (fun x => .inr (Nat.le_trans h.2.2.size x))), below_step h.2.2 h3⟩)⟩
      have hw2 := S2.blk 2 rfl
      have ho2 := S2.blk 5 rfl
      refine pk37 (R := fun w3 A4 c4 => ((pl m).length ≤ c4 ∧ Kd.F k63 w3 (fun k => ok k ∨ w2.heap.size ≤ k) A4 (pl m).length (pl m) ∧ Below w2.heap.size w2 w3)) (R' := fun w4 A7 c7 => ((pl ad).length ≤ c7 ∧ Kd.F k63 w4 (fun k => ok k ∨ w2.heap.size ≤ k) A7 (pl ad).length (pl ad) ∧ Below w2.heap.size w2 w4)) rfl ⟨(blk_cell hw2 0).trans rfl, (blk_cell hw2 1).trans rfl, (blk_cell hw2 2).trans rfl, (blk_cell hw2 3).trans rfl, (blk_cell ho2 3).trans rfl, (blk_cell ho2 4).trans rfl⟩ HPP HKK HSS ?_
      intro u173 u174 u175 u176 u177 u178 u179 u180 u181 u182 u172 u183 u184 u185 w4 A7 c7 hR4
      have S4 := hup w4 (Vw k63 A7 (pl ad).length (pl ad)) hR4.2.2 Vw.loc hR4.2.1
      have HL7 := Aside0.mk hR4.1
      clear S2 hR2 hup HPP HKK HSS hw2 ho2 hR4
      obtain ⟨r1', hr1'⟩ : ∃ r1', r1' = r1 := ⟨_, rfl⟩
      go_wp2_with (first
        | (go_at_call 41; obtain ⟨oka, hRa⟩ := S4.rd 1 rfl; refine (jobberlaw32_Plain.calls 61 oka A6 c6 ad (pl ad) w4 (Kd.R_V hRa) HPA.out).mono ?_; rintro e w5 ⟨v, rfl, hN, hb⟩; obtain ⟨A8, c8, e8⟩ := Kd.N_slice hN; subst e8; have HN8 := Aside0.mk (Kd.N_reads' hN).2; have S5 := S4.call hb; clear S4 hRa hN hb)
        | (go_at_call 42; refine (jobberlaw32_Same.calls 61 A8 c8 (pl ad) A7 c7 (pl ad) true w5 HN8.out.2 HN8.out.1 (S5.vw 0 rfl) HL7.out HSA.out).mono ?_; rintro e w6 ⟨rfl, hd⟩; have S6 := S5.call hd.below; clear S5 hd)
        | (go_at_call 33; refine Calls.named ?_; intro w9 hw9; have S9 : St W F0 w9 [Vw k63 A7 (pl ad).length (pl ad), Rw KE 78 (.slice A6 ad.length c6) ad, Pt gW #[.int .u64 a, .int .u64 b, .slice none 0 0, .slice A5 (pl xs).length c5] 66, ChP g a b xs, Vw k63 A5 (pl xs).length (pl xs), Pt gO #[.int .i64 kd, .int .u64 nn, .int .u64 mo, .int .u64 ri, .int .u64 rt, .slice AB By.length cB, .int .u8 od, .bool raw] 84] := (by rw [hw9]; exact S6); clear hw9 S6; obtain ⟨F, hA, _, hrd, hj⟩ := ((S9.front 3 rfl)).joinR; refine (chain_append w9 F g a b xs hA A6 c6 ad (fun W' hf => by obtain ⟨G, hst⟩ := hrd W' hf; obtain ⟨ok, hR⟩ := hst.rd 1 rfl; exact (Kd.R_reads' hR).2.2) (by obtain ⟨ok, hR⟩ := S9.rd 1 rfl; exact (Kd.R_reads' hR).2.1) 100001 HST.out HRA.out (by have := HFE.out; have := HM.out.1; have := HX1.out; omega)).mono ?_; rintro e w10 ⟨rfl, hs⟩; rw [HZS.out.1] at hs; have S10 := hj _ _ hs; clear S9 hA hrd hj hs; have hbW := S10.blk 3 rfl; have y3 : ∀ o, (w10.alloc o).cell? ⟨gW, 3, none⟩ = some (.slice A5 (pl xs).length c5) := (fun o => (blk_cell (((below_alloc (Below.refl _ _) o).block _ (blk_lt hbW)).trans hbW) 3).trans rfl); clear hbW)
        | ((with_reducible refine gate_builtin (b := .append) (xs := #[.tmp 216, .tmp 218]) rfl ?_); obtain ⟨ok2, okp, p1, p2, p3, p4, p5⟩ := ((((S10.new (A := Nw k63 63 (.slice (some ⟨w10.heap.size, 0, none⟩) 0 0) []) (below_alloc (Below.refl _ _) (.cells #[] 63)) Nw.loc (nil_Ne (blk_new w10 _) (Nat.zero_le _))).front 5 rfl).front 1 rfl)).append_rows; refine Kd.N_append_rows k63 (w0 := w10.alloc (.cells #[] 63)) 0 rfl (.tmp 216) (.tmp 218) 64 63 (.agg #[.int .u64 0, .int .u64 0, .slice none 0 0]) 40 rfl Try.underlying64 info63 rfl (by decide) (by decide) (.slice (some ⟨w10.heap.size, 0, none⟩) 0 0) [] (pl xs) A5 (pl xs).length c5 ok2 okp rfl rfl p1 p2 p3 p4 (Below.refl _ _) (Nat.zero_le _) (by have := HPL.out.1; simp; omega) ?_; intro v1 w11 hN _ hg _; rw [List.nil_append] at hN p5; obtain ⟨A11, c11, e11⟩ := Kd.N_slice hN; subst e11; have S11 := p5 _ _ hN hg; clear p1 p2 p3 p4 p5 hN hg S10 y3)
        | ((with_reducible refine gate_builtin (b := .append) (xs := #[.tmp 219, .tmp 220]) rfl ?_); obtain ⟨ok2, okp, p1, p2, p3, p4, p5⟩ := (((S11.front 2 rfl).front 1 rfl)).append_rows; refine Kd.N_append_rows k63 (w0 := w11) 0 rfl (.tmp 219) (.tmp 220) 64 63 (.agg #[.int .u64 0, .int .u64 0, .slice none 0 0]) 40 rfl Try.underlying64 info63 rfl (by decide) (by decide) (.slice A11 (pl xs).length c11) (pl xs) (pl ad) A7 (pl ad).length c7 ok2 okp rfl rfl p1 p2 p3 p4 (Below.refl _ _) (Nat.zero_le _) (by have := HPL.out; omega) ?_; intro v1 w12 hN _ hg _; rw [HZS.out.2] at hN p5; obtain ⟨A12, c12, e12⟩ := Kd.N_slice hN; subst e12; have S12 := p5 _ _ hN hg; clear p1 p2 p3 p4 p5 hN hg S11; have hl12 := (S12.nrd 0 rfl).2.1; have z0 : w12.cell? ⟨gW, 0, none⟩ = some (.int .u64 a) := (blk_cell (S12.blk 3 rfl) 0).trans rfl; have fz0 : w12.frozen? ⟨gW, 0, none⟩ = false := blk_frozen (S12.blk 3 rfl) 0; have z1 : w12.cell? ⟨gW, 1, none⟩ = some (.int .u64 b) := (blk_cell (S12.blk 3 rfl) 1).trans rfl; have fz1 : w12.frozen? ⟨gW, 1, none⟩ = false := blk_frozen (S12.blk 3 rfl) 1; have z2 : w12.cell? ⟨gW, 2, none⟩ = some (.slice none 0 0) := (blk_cell (S12.blk 3 rfl) 2).trans rfl; have fz2 : w12.frozen? ⟨gW, 2, none⟩ = false := blk_frozen (S12.blk 3 rfl) 2; have z3 : w12.cell? ⟨gW, 3, none⟩ = some (.slice A5 (pl xs).length c5) := (blk_cell (S12.blk 3 rfl) 3).trans rfl; have fz3 : w12.frozen? ⟨gW, 3, none⟩ = false := blk_frozen (S12.blk 3 rfl) 3))
      have S13 := (S12.front 3 rfl).put 3 (.slice A12 (pl zs).length c12) (cs' := #[.int .u64 a, .int .u64 b, .slice none 0 0, .slice A12 (pl zs).length c12]) rfl
      exact hK _ _ _ _ _ _ _ _ _ _ _ _ _ _ _ _ _ _ _ _ _ _ _ _ _ _ _ _ _ _ _ _ _ _ _ _ _ _ _ _ _ _ _ _ _ _ _ _ _ _ _ _ _ _ _ _ _ _ _ _ _ _ _ _ _ _ _ _ _ _ _ _ _ _ _ a b zs A12 c12 hl12 HZL.out (((((S13.front 1 rfl).nw_vw).front 2 rfl).front 2 rfl).take 3)
    · skip
      obtain ⟨g1, g2, g3⟩ := f1 hr0
      have hpos : decide (r1 > 0) = true := decide_eq_true (by omega)
      have HXC : Aside0 (∀ w F, ChP g a b xs w F → Calls Try.prog 32 #[.pointer (some ⟨g, 0, none⟩), .int .u64 r1] w fun e w' => e = .returned (.int .i64 0) ∧ St w F w' [ChP g a b xs1]) := ⟨fun w F hF => by rw [← g3]; exact chain_cut w F g a b xs hF r1 ⟨f3, f4⟩ g1 g2⟩
      have HRC : Aside0 (∀ w F, Kd.F k63 w F A5 (pl xs).length (pl xs) → Calls Try.prog 36 #[.agg #[.int .u64 a, .int .u64 b, .slice none 0 0, .slice A5 (pl xs).length c5], .int .u64 r1] w fun e w' => ∃ A' c', e = .returned (.tuple #[.agg #[.int .u64 a, .int .u64 b, .slice none 0 0, .slice A' (pl xs1).length c'], .bool true]) ∧ (pl xs1).length ≤ c' ∧ St w F w' [Vw k63 A' (pl xs1).length (pl xs1)]) := ⟨fun w F hF => by rw [← g3]; exact rcut w F a b r1 A5 c5 xs hF hc5 hrow ⟨f3, f4⟩ g1 g2⟩
      have hx1 : xs1.length ≤ xs.length := by rw [← g3, List.length_take]; omega
      have HRO1 : Aside0 (a + xs1.length < 18446744073709551616) := ⟨by have := hrow.hi; omega⟩
      clear g1 g2 g3
      have hst := f5 rfl
      have HRA : Aside0 (Row (a + xs1.length) ad) := ⟨stand_row ad _ (lastT b xs1) (by have := hrow.lo; omega) HRO1.out (by have := HM.out.1; omega) HAD.out.1 HAD.out.2 hst⟩
      have HST := Aside0.mk (stands_eval ad (by have := HM.out.1; omega) (a + xs1.length) (lastT b xs1) (k := 100001) (by have := HM.out.1; omega))
      rw [hst] at HST
      obtain ⟨zs, hzs⟩ : ∃ zs, xs1 ++ ad = zs := ⟨_, rfl⟩
      have hpz : pl xs1 ++ pl ad = pl zs := by rw [← hzs]; simp [pl]
      have HZS := Aside0.mk (And.intro hzs hpz)
      have HZL : Aside0 (zs.length ≤ xs.length + 60) := ⟨by rw [← hzs, List.length_append]; have := HM.out.1; omega⟩
      have HPL : Aside0 ((pl xs1).length ≤ 100000 ∧ (pl ad).length ≤ 60) := ⟨by rw [pl_len]; omega, by rw [pl_len]; have := HM.out.1; omega⟩
      clear hst hzs hpz
      have HX1 := Aside0.mk hx1
      clear hi hc5 hrow hBy hcB h60 hri hfew hms hm hr f1 f2 f3 f4 f5 f6 f7 f8 hx1 hr0
      have o0 : w.cell? ⟨gO, 0, none⟩ = some (.int .i64 kd) := (blk_cell (S.blk 3 rfl) 0).trans rfl; have o1 : w.cell? ⟨gO, 1, none⟩ = some (.int .u64 nn) := (blk_cell (S.blk 3 rfl) 1).trans rfl; have o2 : w.cell? ⟨gO, 2, none⟩ = some (.int .u64 mo) := (blk_cell (S.blk 3 rfl) 2).trans rfl; have o3 : w.cell? ⟨gO, 3, none⟩ = some (.int .u64 ri) := (blk_cell (S.blk 3 rfl) 3).trans rfl; have o4 : w.cell? ⟨gO, 4, none⟩ = some (.int .u64 rt) := (blk_cell (S.blk 3 rfl) 4).trans rfl; have o5 : w.cell? ⟨gO, 5, none⟩ = some (.slice AB By.length cB) := (blk_cell (S.blk 3 rfl) 5).trans rfl; have o6 : w.cell? ⟨gO, 6, none⟩ = some (.int .u8 od) := (blk_cell (S.blk 3 rfl) 6).trans rfl; have o7 : w.cell? ⟨gO, 7, none⟩ = some (.bool raw) := (blk_cell (S.blk 3 rfl) 7).trans rfl
      go_upto_region 37 with (first
        | (go_at_call 30; refine HE.out.mono ?_; rintro e w1 ⟨v, rfl, hR, hb⟩; obtain ⟨A3, c3, e3⟩ := Kd.R_slice (Kd.S_R hR); subst e3; have S1 := S.row hb (Kd.S_R hR); clear S hR hb o0 o1 o2 o3 o4 o5 o6 o7; have o0 : w1.cell? ⟨gO, 0, none⟩ = some (.int .i64 kd) := (blk_cell (S1.blk 4 rfl) 0).trans rfl; have o1 : w1.cell? ⟨gO, 1, none⟩ = some (.int .u64 nn) := (blk_cell (S1.blk 4 rfl) 1).trans rfl; have o2 : w1.cell? ⟨gO, 2, none⟩ = some (.int .u64 mo) := (blk_cell (S1.blk 4 rfl) 2).trans rfl; have o3 : w1.cell? ⟨gO, 3, none⟩ = some (.int .u64 ri) := (blk_cell (S1.blk 4 rfl) 3).trans rfl; have o4 : w1.cell? ⟨gO, 4, none⟩ = some (.int .u64 rt) := (blk_cell (S1.blk 4 rfl) 4).trans rfl; have o5 : w1.cell? ⟨gO, 5, none⟩ = some (.slice AB By.length cB) := (blk_cell (S1.blk 4 rfl) 5).trans rfl; have o6 : w1.cell? ⟨gO, 6, none⟩ = some (.int .u8 od) := (blk_cell (S1.blk 4 rfl) 6).trans rfl; have o7 : w1.cell? ⟨gO, 7, none⟩ = some (.bool raw) := (blk_cell (S1.blk 4 rfl) 7).trans rfl)
        | (go_at_call 31; obtain ⟨okm, hRm⟩ := S1.rd 0 rfl; refine (HCH.out w1 A3 c3 (S1.ch 2 rfl) (Kd.R_reads' hRm).2.2 (Kd.R_reads' hRm).2.1).mono ?_; rintro e w2 ⟨v, rfl, hR, hb⟩; obtain ⟨A6, c6, e6⟩ := Kd.R_slice hR; subst e6; have S2 := S1.row hb hR; clear S1 hRm hR hb o0 o1 o2 o3 o4 o5 o6 o7))
      obtain ⟨ok, hR2, hup⟩ := (S2.front 1 rfl).shared
      have HPP : Aside0 (Calls Try.prog 41 #[.slice A3 m.length c3] w2.drew fun e w3 => ∃ A4 c4, e = .returned (.slice A4 (pl m).length c4) ∧ ((pl m).length ≤ c4 ∧ Kd.F k63 w3 (fun k => ok k ∨ w2.heap.size ≤ k) A4 (pl m).length (pl m) ∧ Below w2.heap.size w2 w3)) := ⟨by
        refine (jobberlaw32_Plain.calls 61 ok A3 c3 m (pl m) w2.drew (Kd.R_V (Kd.R_drew hR2)) HPE.out).mono ?_
        rintro e w4 ⟨v, rfl, hN, hb⟩
        obtain ⟨A4, c4, rfl⟩ := Kd.N_slice hN
        exact ⟨A4, c4, rfl, (Kd.N_reads' hN).2.1, Kd.N_F hN, below_step (below_drew (Below.refl _ _)) hb⟩⟩
      have HKK : Aside0 (∀ w3 (A4 : Option Addr) (c4 : Nat), ((pl m).length ≤ c4 ∧ Kd.F k63 w3 (fun k => ok k ∨ w2.heap.size ≤ k) A4 (pl m).length (pl m) ∧ Below w2.heap.size w2 w3) → w3.cell? ⟨gW, 0, none⟩ = some (.int .u64 a) ∧ w3.cell? ⟨gW, 1, none⟩ = some (.int .u64 b) ∧ w3.cell? ⟨gW, 2, none⟩ = some (.slice none 0 0) ∧ w3.cell? ⟨gW, 3, none⟩ = some (.slice A5 (pl xs).length c5) ∧ w3.cell? ⟨gO, 3, none⟩ = some (.int .u64 ri) ∧ w3.cell? ⟨gO, 4, none⟩ = some (.int .u64 rt)) := ⟨fun w3 A4 c4 h => by
        have h1 := (h.2.2.block _ (blk_lt (S2.blk 2 rfl))).trans (S2.blk 2 rfl)
        have h2 := (h.2.2.block _ (blk_lt (S2.blk 5 rfl))).trans (S2.blk 5 rfl)
        exact ⟨(blk_cell h1 0).trans rfl, (blk_cell h1 1).trans rfl, (blk_cell h1 2).trans rfl, (blk_cell h1 3).trans rfl, (blk_cell h2 3).trans rfl, (blk_cell h2 4).trans rfl⟩⟩
      have HSS : Aside0 (∀ w3 A4 c4, ((pl m).length ≤ c4 ∧ Kd.F k63 w3 (fun k => ok k ∨ w2.heap.size ≤ k) A4 (pl m).length (pl m) ∧ Below w2.heap.size w2 w3) → Calls Try.prog 40 #[.agg #[.int .u64 a, .int .u64 b, .slice none 0 0, .slice A5 (pl xs).length c5], .int .u64 ri, .int .u64 rt, .slice A4 (pl m).length c4] w3 fun e w4 => ∃ A7 c7, e = .returned (.tuple #[.int .u64 r1, .slice A7 (pl ad).length c7, .bool true]) ∧ ((pl ad).length ≤ c7 ∧ Kd.F k63 w4 (fun k => ok k ∨ w2.heap.size ≤ k) A7 (pl ad).length (pl ad) ∧ Below w2.heap.size w2 w4)) := ⟨fun w3 A4 c4 h =>
        (HRJ.out w3 _ A4 c4 (Kd.C_below (S2.vw 4 rfl) h.2.2) h.2.1 h.1).mono (fun e w4 hh => by
          obtain ⟨A7, c7, rfl, h1, h2, h3⟩ := hh
          exact ⟨A7, c7, rfl, h1, Kd.F_mono h2 (fun k hk => hk.elim (fun x => x) (fun x => .inr (Nat.le_trans h.2.2.size x))), below_step h.2.2 h3⟩)⟩
      have hw2 := S2.blk 2 rfl
      have ho2 := S2.blk 5 rfl
      refine pk37 (R := fun w3 A4 c4 => ((pl m).length ≤ c4 ∧ Kd.F k63 w3 (fun k => ok k ∨ w2.heap.size ≤ k) A4 (pl m).length (pl m) ∧ Below w2.heap.size w2 w3)) (R' := fun w4 A7 c7 => ((pl ad).length ≤ c7 ∧ Kd.F k63 w4 (fun k => ok k ∨ w2.heap.size ≤ k) A7 (pl ad).length (pl ad) ∧ Below w2.heap.size w2 w4)) rfl ⟨(blk_cell hw2 0).trans rfl, (blk_cell hw2 1).trans rfl, (blk_cell hw2 2).trans rfl, (blk_cell hw2 3).trans rfl, (blk_cell ho2 3).trans rfl, (blk_cell ho2 4).trans rfl⟩ HPP HKK HSS ?_
      intro u173 u174 u175 u176 u177 u178 u179 u180 u181 u182 u172 u183 u184 u185 w4 A7 c7 hR4
      have S4 := hup w4 (Vw k63 A7 (pl ad).length (pl ad)) hR4.2.2 Vw.loc hR4.2.1
      have HL7 := Aside0.mk hR4.1
      clear S2 hR2 hup HPP HKK HSS hw2 ho2 hR4
      obtain ⟨r1', hr1'⟩ : ∃ r1', r1' = r1 := ⟨_, rfl⟩
      go_wp2_with (first
        | (go_at_call 41; obtain ⟨oka, hRa⟩ := S4.rd 1 rfl; refine (jobberlaw32_Plain.calls 61 oka A6 c6 ad (pl ad) w4 (Kd.R_V hRa) HPA.out).mono ?_; rintro e w5 ⟨v, rfl, hN, hb⟩; obtain ⟨A8, c8, e8⟩ := Kd.N_slice hN; subst e8; have HN8 := Aside0.mk (Kd.N_reads' hN).2; have S5 := S4.call hb; clear S4 hRa hN hb)
        | (go_at_call 42; refine (jobberlaw32_Same.calls 61 A8 c8 (pl ad) A7 c7 (pl ad) true w5 HN8.out.2 HN8.out.1 (S5.vw 0 rfl) HL7.out HSA.out).mono ?_; rintro e w6 ⟨rfl, hd⟩; have S6 := S5.call hd.below; clear S5 hd)
        | (go_at_call 32; obtain ⟨F, hA, _, hj⟩ := ((S6.front 3 rfl)).join; refine (HXC.out w6 F hA).mono ?_; rintro e w7 ⟨rfl, hs⟩; have S7 := hj w7 _ hs; clear S6 hA hj hs; have z0 : w7.cell? ⟨gW, 0, none⟩ = some (.int .u64 a) := (blk_cell (S7.blk 3 rfl) 0).trans rfl; have fz0 : w7.frozen? ⟨gW, 0, none⟩ = false := blk_frozen (S7.blk 3 rfl) 0; have z1 : w7.cell? ⟨gW, 1, none⟩ = some (.int .u64 b) := (blk_cell (S7.blk 3 rfl) 1).trans rfl; have fz1 : w7.frozen? ⟨gW, 1, none⟩ = false := blk_frozen (S7.blk 3 rfl) 1; have z2 : w7.cell? ⟨gW, 2, none⟩ = some (.slice none 0 0) := (blk_cell (S7.blk 3 rfl) 2).trans rfl; have fz2 : w7.frozen? ⟨gW, 2, none⟩ = false := blk_frozen (S7.blk 3 rfl) 2; have z3 : w7.cell? ⟨gW, 3, none⟩ = some (.slice A5 (pl xs).length c5) := (blk_cell (S7.blk 3 rfl) 3).trans rfl; have fz3 : w7.frozen? ⟨gW, 3, none⟩ = false := blk_frozen (S7.blk 3 rfl) 3)
        | (go_at_call 36; obtain ⟨F, hA, _, hj⟩ := ((S7.front 4 rfl)).join; refine (HRC.out w7 F hA).mono ?_; rintro e w8 ⟨A9, c9, rfl, hl9, hs⟩; have S8 := hj w8 _ hs; have HL9 := Aside0.mk hl9; clear S7 hA hj hs hl9 z0 z1 z2 z3 fz0 fz1 fz2 fz3; have z0 : w8.cell? ⟨gW, 0, none⟩ = some (.int .u64 a) := (blk_cell (S8.blk 4 rfl) 0).trans rfl; have fz0 : w8.frozen? ⟨gW, 0, none⟩ = false := blk_frozen (S8.blk 4 rfl) 0; have z1 : w8.cell? ⟨gW, 1, none⟩ = some (.int .u64 b) := (blk_cell (S8.blk 4 rfl) 1).trans rfl; have fz1 : w8.frozen? ⟨gW, 1, none⟩ = false := blk_frozen (S8.blk 4 rfl) 1; have z2 : w8.cell? ⟨gW, 2, none⟩ = some (.slice none 0 0) := (blk_cell (S8.blk 4 rfl) 2).trans rfl; have fz2 : w8.frozen? ⟨gW, 2, none⟩ = false := blk_frozen (S8.blk 4 rfl) 2; have z3 : w8.cell? ⟨gW, 3, none⟩ = some (.slice A5 (pl xs).length c5) := (blk_cell (S8.blk 4 rfl) 3).trans rfl; have fz3 : w8.frozen? ⟨gW, 3, none⟩ = false := blk_frozen (S8.blk 4 rfl) 3)
        | (go_at_call 33; refine Calls.named ?_; intro w9 hw9; have S9 : St W F0 w9 [Pt gW #[.int .u64 a, .int .u64 b, .slice none 0 0, .slice A9 (pl xs1).length c9] 66, Vw k63 A9 (pl xs1).length (pl xs1), ChP g a b xs1, Vw k63 A7 (pl ad).length (pl ad), Rw KE 78 (.slice A6 ad.length c6) ad, Pt gO #[.int .i64 kd, .int .u64 nn, .int .u64 mo, .int .u64 ri, .int .u64 rt, .slice AB By.length cB, .int .u8 od, .bool raw] 84] := (by rw [hw9]; exact (((((S8.front 4 rfl).put 0 (.int .u64 a) rfl).put 1 (.int .u64 b) rfl).put 2 (.slice none 0 0) rfl).put 3 (.slice A9 (pl xs1).length c9) rfl)); clear hw9 S8 z0 z1 z2 z3 fz0 fz1 fz2 fz3; obtain ⟨F, hA, _, hrd, hj⟩ := ((S9.front 2 rfl)).joinR; refine (chain_append w9 F g a b xs1 hA A6 c6 ad (fun W' hf => by obtain ⟨G, hst⟩ := hrd W' hf; obtain ⟨ok, hR⟩ := hst.rd 3 rfl; exact (Kd.R_reads' hR).2.2) (by obtain ⟨ok, hR⟩ := S9.rd 4 rfl; exact (Kd.R_reads' hR).2.1) 100001 HST.out HRA.out (by have := HFE.out; have := HM.out.1; have := HX1.out; omega)).mono ?_; rintro e w10 ⟨rfl, hs⟩; rw [HZS.out.1] at hs; have S10 := hj _ _ hs; clear S9 hA hrd hj hs; have hbW := S10.blk 1 rfl; have y3 : ∀ o, (w10.alloc o).cell? ⟨gW, 3, none⟩ = some (.slice A9 (pl xs1).length c9) := (fun o => (blk_cell (((below_alloc (Below.refl _ _) o).block _ (blk_lt hbW)).trans hbW) 3).trans rfl); clear hbW)
        | ((with_reducible refine gate_builtin (b := .append) (xs := #[.tmp 216, .tmp 218]) rfl ?_); obtain ⟨ok2, okp, p1, p2, p3, p4, p5⟩ := ((((S10.new (A := Nw k63 63 (.slice (some ⟨w10.heap.size, 0, none⟩) 0 0) []) (below_alloc (Below.refl _ _) (.cells #[] 63)) Nw.loc (nil_Ne (blk_new w10 _) (Nat.zero_le _))).front 3 rfl).front 1 rfl)).append_rows; refine Kd.N_append_rows k63 (w0 := w10.alloc (.cells #[] 63)) 0 rfl (.tmp 216) (.tmp 218) 64 63 (.agg #[.int .u64 0, .int .u64 0, .slice none 0 0]) 40 rfl Try.underlying64 info63 rfl (by decide) (by decide) (.slice (some ⟨w10.heap.size, 0, none⟩) 0 0) [] (pl xs1) A9 (pl xs1).length c9 ok2 okp rfl rfl p1 p2 p3 p4 (Below.refl _ _) (Nat.zero_le _) (by have := HPL.out.1; simp; omega) ?_; intro v1 w11 hN _ hg _; rw [List.nil_append] at hN p5; obtain ⟨A11, c11, e11⟩ := Kd.N_slice hN; subst e11; have S11 := p5 _ _ hN hg; clear p1 p2 p3 p4 p5 hN hg S10 y3)
        | ((with_reducible refine gate_builtin (b := .append) (xs := #[.tmp 219, .tmp 220]) rfl ?_); obtain ⟨ok2, okp, p1, p2, p3, p4, p5⟩ := (((S11.front 3 rfl).front 1 rfl)).append_rows; refine Kd.N_append_rows k63 (w0 := w11) 0 rfl (.tmp 219) (.tmp 220) 64 63 (.agg #[.int .u64 0, .int .u64 0, .slice none 0 0]) 40 rfl Try.underlying64 info63 rfl (by decide) (by decide) (.slice A11 (pl xs1).length c11) (pl xs1) (pl ad) A7 (pl ad).length c7 ok2 okp rfl rfl p1 p2 p3 p4 (Below.refl _ _) (Nat.zero_le _) (by have := HPL.out; omega) ?_; intro v1 w12 hN _ hg _; rw [HZS.out.2] at hN p5; obtain ⟨A12, c12, e12⟩ := Kd.N_slice hN; subst e12; have S12 := p5 _ _ hN hg; clear p1 p2 p3 p4 p5 hN hg S11; have hl12 := (S12.nrd 0 rfl).2.1; have z0 : w12.cell? ⟨gW, 0, none⟩ = some (.int .u64 a) := (blk_cell (S12.blk 2 rfl) 0).trans rfl; have fz0 : w12.frozen? ⟨gW, 0, none⟩ = false := blk_frozen (S12.blk 2 rfl) 0; have z1 : w12.cell? ⟨gW, 1, none⟩ = some (.int .u64 b) := (blk_cell (S12.blk 2 rfl) 1).trans rfl; have fz1 : w12.frozen? ⟨gW, 1, none⟩ = false := blk_frozen (S12.blk 2 rfl) 1; have z2 : w12.cell? ⟨gW, 2, none⟩ = some (.slice none 0 0) := (blk_cell (S12.blk 2 rfl) 2).trans rfl; have fz2 : w12.frozen? ⟨gW, 2, none⟩ = false := blk_frozen (S12.blk 2 rfl) 2; have z3 : w12.cell? ⟨gW, 3, none⟩ = some (.slice A9 (pl xs1).length c9) := (blk_cell (S12.blk 2 rfl) 3).trans rfl; have fz3 : w12.frozen? ⟨gW, 3, none⟩ = false := blk_frozen (S12.blk 2 rfl) 3))
      have S13 := (S12.front 2 rfl).put 3 (.slice A12 (pl zs).length c12) (cs' := #[.int .u64 a, .int .u64 b, .slice none 0 0, .slice A12 (pl zs).length c12]) rfl
      exact hK _ _ _ _ _ _ _ _ _ _ _ _ _ _ _ _ _ _ _ _ _ _ _ _ _ _ _ _ _ _ _ _ _ _ _ _ _ _ _ _ _ _ _ _ _ _ _ _ _ _ _ _ _ _ _ _ _ _ _ _ _ _ _ _ _ _ _ _ _ _ _ _ _ _ _ a b zs A12 c12 hl12 HZL.out (((((S13.front 1 rfl).nw_vw).front 2 rfl).front 2 rfl).take 3)
theorem mem_getD_lt {α : Type} (l : List α) (j : Nat) (z : α) (h : j < l.length) : l.getD j z ∈ l := by
  rw [List.getD_eq_getElem?_getD, List.getElem?_eq_getElem h]
  exact List.getElem_mem h

set_option maxHeartbeats 16000000 in
set_option maxRecDepth 100000 in
theorem plays_many1 (W : World) (a b o : Int) (A : Option Addr) (c : Nat) (By : List Int) (hC : (Kd.int .u8).C W A By.length By) (hc : By.length ≤ c) (A0 : Option Addr) (c0 : Nat) (ops : List S84) (h60 : ¬ By.length ≤ 60) :
    Calls Try.prog 9 #[.agg #[.int .u64 a, .int .u64 b, .slice A By.length c, .int .u8 o], .slice A0 ops.length c0] W fun e w' => e = .returned (.bool true) ∧ Below W.heap.size W w' := by
  have hu := Try.underlying60
  have hu2 := Try.underlying66
  have hu3 := Try.underlying63
  have hu4 := Try.underlying84
  have S0 := St.start W (fun _ => False)
  have HL : Aside0 (∀ W', Below W.heap.size W W' → Calls Try.prog 24 #[.agg #[.int .u64 a, .int .u64 b, .slice A By.length c, .int .u8 o]] W' fun e w' => e = .returned (.bool false) ∧ Below W'.heap.size W' w') := ⟨fun W' hb => jobberlaw38_Run_light.calls a b A c By o false W' (Kd.C_below hC hb) hc (by unfold jobberlaw38_Run_light.f; rw [decide_eq_false (by omega)])⟩
  clear hC hc h60
  go_enter Try.func9, Try.ntmps9
  go_wp2_with (first
    | ((with_reducible refine gate_dst (N := 2) rfl ?_); refine box_event ?hg (N := 2) ?hd (cs := #[.int .u64 a, .int .u64 b, .slice A By.length c, .int .u8 o]) (t := 60) ?hr ?_; (case hd => rfl); (case hg => rfl); (case hr => first | (go_simp; done) | (go_simp; rfl)); intro gR hg_ w1 hbB hb; have S1 := S0.box hg_ hb hbB; clear S0 hg_ hbB hb; have z0 : w1.cell? ⟨gR, 0, none⟩ = some (.int .u64 a) := (blk_cell (S1.blk 0 rfl) 0).trans rfl; have z1 : w1.cell? ⟨gR, 1, none⟩ = some (.int .u64 b) := (blk_cell (S1.blk 0 rfl) 1).trans rfl; have z2 : w1.cell? ⟨gR, 2, none⟩ = some (.slice A By.length c) := (blk_cell (S1.blk 0 rfl) 2).trans rfl; have z3 : w1.cell? ⟨gR, 3, none⟩ = some (.int .u8 o) := (blk_cell (S1.blk 0 rfl) 3).trans rfl)
    | (go_at_call 24; refine (HL.out _ S1.below).mono ?_; rintro e w2 ⟨rfl, hb⟩; have S2 := S1.call hb; clear S1 hb z0 z1 z2 z3; have z0 : w2.cell? ⟨gR, 0, none⟩ = some (.int .u64 a) := (blk_cell (S2.blk 0 rfl) 0).trans rfl; have z1 : w2.cell? ⟨gR, 1, none⟩ = some (.int .u64 b) := (blk_cell (S2.blk 0 rfl) 1).trans rfl; have z2 : w2.cell? ⟨gR, 2, none⟩ = some (.slice A By.length c) := (blk_cell (S2.blk 0 rfl) 2).trans rfl; have z3 : w2.cell? ⟨gR, 3, none⟩ = some (.int .u8 o) := (blk_cell (S2.blk 0 rfl) 3).trans rfl)
    | (go_at_call 25; refine (chain_lives _).mono ?_; rintro e w3 ⟨rfl, hb⟩; have S3 := S2.call hb; clear S2 hb))
  go_ret
  exact ⟨rfl, S3.below⟩

set_option maxHeartbeats 16000000 in
set_option maxRecDepth 100000 in
theorem plays_many2 (W : World) (a b o : Int) (A : Option Addr) (c : Nat) (By : List Int) (hC : (Kd.int .u8).C W A By.length By) (hc : By.length ≤ c) (A0 : Option Addr) (c0 : Nat) (ops : List S84) (h60 : By.length ≤ 60) (h40 : ¬ ops.length ≤ 40) :
    Calls Try.prog 9 #[.agg #[.int .u64 a, .int .u64 b, .slice A By.length c, .int .u8 o], .slice A0 ops.length c0] W fun e w' => e = .returned (.bool true) ∧ Below W.heap.size W w' := by
  have hu := Try.underlying60
  have hu2 := Try.underlying66
  have hu3 := Try.underlying63
  have hu4 := Try.underlying84
  have S0 := St.start W (fun _ => False)
  have HL : Aside0 (∀ W', Below W.heap.size W W' → Calls Try.prog 24 #[.agg #[.int .u64 a, .int .u64 b, .slice A By.length c, .int .u8 o]] W' fun e w' => e = .returned (.bool true) ∧ Below W'.heap.size W' w') := ⟨fun W' hb => jobberlaw38_Run_light.calls a b A c By o true W' (Kd.C_below hC hb) hc (by unfold jobberlaw38_Run_light.f; rw [decide_eq_true (by omega)])⟩
  obtain ⟨n, hn⟩ : ∃ n, ops.length = n := ⟨_, rfl⟩
  rw [hn] at h40 ⊢
  have d1 : decide ((n : Int) > 40) = true := decide_eq_true (by omega)
  clear hC hc h60 h40 hn
  go_enter Try.func9, Try.ntmps9
  go_wp2_with (first
    | ((with_reducible refine gate_dst (N := 2) rfl ?_); refine box_event ?hg (N := 2) ?hd (cs := #[.int .u64 a, .int .u64 b, .slice A By.length c, .int .u8 o]) (t := 60) ?hr ?_; (case hd => rfl); (case hg => rfl); (case hr => first | (go_simp; done) | (go_simp; rfl)); intro gR hg_ w1 hbB hb; have S1 := S0.box hg_ hb hbB; clear S0 hg_ hbB hb; have z0 : w1.cell? ⟨gR, 0, none⟩ = some (.int .u64 a) := (blk_cell (S1.blk 0 rfl) 0).trans rfl; have z1 : w1.cell? ⟨gR, 1, none⟩ = some (.int .u64 b) := (blk_cell (S1.blk 0 rfl) 1).trans rfl; have z2 : w1.cell? ⟨gR, 2, none⟩ = some (.slice A By.length c) := (blk_cell (S1.blk 0 rfl) 2).trans rfl; have z3 : w1.cell? ⟨gR, 3, none⟩ = some (.int .u8 o) := (blk_cell (S1.blk 0 rfl) 3).trans rfl)
    | (go_at_call 24; refine (HL.out _ S1.below).mono ?_; rintro e w2 ⟨rfl, hb⟩; have S2 := S1.call hb; clear S1 hb z0 z1 z2 z3; have z0 : w2.cell? ⟨gR, 0, none⟩ = some (.int .u64 a) := (blk_cell (S2.blk 0 rfl) 0).trans rfl; have z1 : w2.cell? ⟨gR, 1, none⟩ = some (.int .u64 b) := (blk_cell (S2.blk 0 rfl) 1).trans rfl; have z2 : w2.cell? ⟨gR, 2, none⟩ = some (.slice A By.length c) := (blk_cell (S2.blk 0 rfl) 2).trans rfl; have z3 : w2.cell? ⟨gR, 3, none⟩ = some (.int .u8 o) := (blk_cell (S2.blk 0 rfl) 3).trans rfl)
    | (go_at_call 25; refine (chain_lives _).mono ?_; rintro e w3 ⟨rfl, hb⟩; have S3 := S2.call hb; clear S2 hb))
  go_ret
  exact ⟨rfl, S3.below⟩

set_option maxHeartbeats 16000000 in
set_option maxRecDepth 100000 in
theorem plays_bad (W : World) (a b o : Int) (A : Option Addr) (c : Nat) (By : List Int) (hC : (Kd.int .u8).C W A By.length By) (hc : By.length ≤ c) (A0 : Option Addr) (c0 : Nat) (ops : List S84) (h60 : By.length ≤ 60) (h40 : ops.length ≤ 40) (xs : List SE) (hxs : jobberlaw38_Run_entries.f 61 a b By o = some xs) (hx : Ents xs By.length) (hg : standG a b xs = false) :
    Calls Try.prog 9 #[.agg #[.int .u64 a, .int .u64 b, .slice A By.length c, .int .u8 o], .slice A0 ops.length c0] W fun e w' => e = .returned (.bool true) ∧ Below W.heap.size W w' := by
  have hu := Try.underlying60
  have hu2 := Try.underlying66
  have hu3 := Try.underlying63
  have hu4 := Try.underlying84
  have S0 := St.start W (fun _ => False)
  have HL : Aside0 (∀ W', Below W.heap.size W W' → Calls Try.prog 24 #[.agg #[.int .u64 a, .int .u64 b, .slice A By.length c, .int .u8 o]] W' fun e w' => e = .returned (.bool true) ∧ Below W'.heap.size W' w') := ⟨fun W' hb => jobberlaw38_Run_light.calls a b A c By o true W' (Kd.C_below hC hb) hc (by unfold jobberlaw38_Run_light.f; rw [decide_eq_true (by omega)])⟩
  have HB : Aside0 (∀ W', Below W.heap.size W W' → Calls Try.prog 26 #[.agg #[.int .u64 a, .int .u64 b, .slice A By.length c, .int .u8 o]] W' fun e w' => ∃ A5 c5, e = .returned (.tuple #[.pointer none, .agg #[.int .u64 a, .int .u64 b, .slice none 0 0, .slice A5 (pl xs).length c5], .bool true]) ∧ Below W'.heap.size W' w') := ⟨fun W' hb => both_bad W' a b o A c By (Kd.C_below hC hb) hc h60 xs hxs hx hg⟩
  obtain ⟨n, hn⟩ : ∃ n, ops.length = n := ⟨_, rfl⟩
  rw [hn] at h40 ⊢
  have d1 : decide ((n : Int) > 40) = false := decide_eq_false (by omega)
  clear hC hc h60 h40 hxs hx hg hn
  go_enter Try.func9, Try.ntmps9
  go_wp2_with (first
    | ((with_reducible refine gate_dst (N := 2) rfl ?_); refine box_event ?hg (N := 2) ?hd (cs := #[.int .u64 a, .int .u64 b, .slice A By.length c, .int .u8 o]) (t := 60) ?hr ?_; (case hd => rfl); (case hg => rfl); (case hr => first | (go_simp; done) | (go_simp; rfl)); intro gR hg_ w1 hbB hb; have S1 := S0.box hg_ hb hbB; clear S0 hg_ hbB hb; have z0 : w1.cell? ⟨gR, 0, none⟩ = some (.int .u64 a) := (blk_cell (S1.blk 0 rfl) 0).trans rfl; have z1 : w1.cell? ⟨gR, 1, none⟩ = some (.int .u64 b) := (blk_cell (S1.blk 0 rfl) 1).trans rfl; have z2 : w1.cell? ⟨gR, 2, none⟩ = some (.slice A By.length c) := (blk_cell (S1.blk 0 rfl) 2).trans rfl; have z3 : w1.cell? ⟨gR, 3, none⟩ = some (.int .u8 o) := (blk_cell (S1.blk 0 rfl) 3).trans rfl)
    | (go_at_call 24; refine (HL.out _ S1.below).mono ?_; rintro e w2 ⟨rfl, hb⟩; have S2 := S1.call hb; clear S1 hb z0 z1 z2 z3; have z0 : w2.cell? ⟨gR, 0, none⟩ = some (.int .u64 a) := (blk_cell (S2.blk 0 rfl) 0).trans rfl; have z1 : w2.cell? ⟨gR, 1, none⟩ = some (.int .u64 b) := (blk_cell (S2.blk 0 rfl) 1).trans rfl; have z2 : w2.cell? ⟨gR, 2, none⟩ = some (.slice A By.length c) := (blk_cell (S2.blk 0 rfl) 2).trans rfl; have z3 : w2.cell? ⟨gR, 3, none⟩ = some (.int .u8 o) := (blk_cell (S2.blk 0 rfl) 3).trans rfl)
    | (go_at_call 26; refine (HB.out _ S2.below).mono ?_; rintro e w3 ⟨A5, c5, rfl, hb⟩; have S3 := S2.call hb; clear S2 hb z0 z1 z2 z3)
    | ((with_reducible refine gate_dst (N := 6) rfl ?_); refine box_event ?hg (N := 6) ?hd (cs := #[.int .u64 0, .int .u64 0, .slice none 0 0, .slice none 0 0]) (t := 66) ?hr ?_; (case hd => rfl); (case hg => rfl); (case hr => first | (go_simp; done) | (go_simp; rfl)); intro gW hg_ w4 hbB hb; have S4 := S3.box hg_ hb hbB; clear S3 hg_ hbB hb; have z0 : w4.cell? ⟨gW, 0, none⟩ = some (.int .u64 0) := (blk_cell (S4.blk 0 rfl) 0).trans rfl; have fz0 : w4.frozen? ⟨gW, 0, none⟩ = false := blk_frozen (S4.blk 0 rfl) 0; have z1 : w4.cell? ⟨gW, 1, none⟩ = some (.int .u64 0) := (blk_cell (S4.blk 0 rfl) 1).trans rfl; have fz1 : w4.frozen? ⟨gW, 1, none⟩ = false := blk_frozen (S4.blk 0 rfl) 1; have z2 : w4.cell? ⟨gW, 2, none⟩ = some (.slice none 0 0) := (blk_cell (S4.blk 0 rfl) 2).trans rfl; have fz2 : w4.frozen? ⟨gW, 2, none⟩ = false := blk_frozen (S4.blk 0 rfl) 2; have z3 : w4.cell? ⟨gW, 3, none⟩ = some (.slice none 0 0) := (blk_cell (S4.blk 0 rfl) 3).trans rfl; have fz3 : w4.frozen? ⟨gW, 3, none⟩ = false := blk_frozen (S4.blk 0 rfl) 3)
    | (go_at_call 25; refine Calls.named ?_; intro w5 hw5; have S5 : St W (fun _ => False) w5 [Pt gW #[.int .u64 a, .int .u64 b, .slice none 0 0, .slice A5 (pl xs).length c5] 66, Pt gR #[.int .u64 a, .int .u64 b, .slice A By.length c, .int .u8 o] 60] := (by rw [hw5]; exact (((S4.put 0 _ rfl).put 1 _ rfl).put 2 _ rfl).put 3 _ rfl); clear hw5 S4; refine (chain_lives w5).mono ?_; rintro e w6 ⟨rfl, hb⟩; have S6 := S5.call hb; clear S5 hb))
  go_ret
  exact ⟨rfl, S6.below⟩

set_option maxHeartbeats 16000000 in
set_option maxRecDepth 100000 in
theorem plays_main (W : World) (a b o : Int) (A : Option Addr) (c : Nat) (By : List Int) (hC : (Kd.int .u8).C W A By.length By) (hc : By.length ≤ c) (A0 : Option Addr) (c0 : Nat) (ops : List S84) (h60 : By.length ≤ 60) (h40 : ops.length ≤ 40) (xs : List SE) (hxs : jobberlaw38_Run_entries.f 61 a b By o = some xs) (hx : Ents xs By.length) (hg : standG a b xs = true) (ha : 0 ≤ a ∧ a < 18446744073709551616) (hO : k84.C W A0 ops.length ops) (hrg : ∀ x ∈ ops, 0 ≤ x.f3.f0 ∧ x.f3.f0 < 18446744073709551616) :
    Calls Try.prog 9 #[.agg #[.int .u64 a, .int .u64 b, .slice A By.length c, .int .u8 o], .slice A0 ops.length c0] W fun e w' => e = .returned (.bool true) ∧ Below W.heap.size W w' := by
  have hu := Try.underlying60
  have hu2 := Try.underlying66
  have hu3 := Try.underlying63
  have hu4 := Try.underlying84
  have S0 := St.start W (fun _ => False)
  have HL : Aside0 (∀ W', Below W.heap.size W W' → Calls Try.prog 24 #[.agg #[.int .u64 a, .int .u64 b, .slice A By.length c, .int .u8 o]] W' fun e w' => e = .returned (.bool true) ∧ Below W'.heap.size W' w') := ⟨fun W' hb => jobberlaw38_Run_light.calls a b A c By o true W' (Kd.C_below hC hb) hc (by unfold jobberlaw38_Run_light.f; rw [decide_eq_true (by omega)])⟩
  have HB : Aside0 (∀ W', Below W.heap.size W W' → Calls Try.prog 26 #[.agg #[.int .u64 a, .int .u64 b, .slice A By.length c, .int .u8 o]] W' fun e w' => ∃ g A5 c5, e = .returned (.tuple #[.pointer (some ⟨g, 0, none⟩), .agg #[.int .u64 a, .int .u64 b, .slice none 0 0, .slice A5 (pl xs).length c5], .bool true]) ∧ (pl xs).length ≤ c5 ∧ St W' (fun _ => False) w' [ChP g a b xs, Vw k63 A5 (pl xs).length (pl xs)]) := ⟨fun W' hb => both_good W' a b o A c By (Kd.C_below hC hb) hc h60 xs hxs hx hg ha⟩
  have HX0 : Aside0 (xs.length ≤ 60) := ⟨by rw [hx.len]; exact h60⟩
  have HRG := Aside0.mk hrg
  have HOL := Aside0.mk h40
  obtain ⟨n, hn⟩ : ∃ n, ops.length = n := ⟨_, rfl⟩
  rw [hn] at h40 ⊢
  have d1 : decide ((n : Int) > 40) = false := decide_eq_false (by omega)
  have HO : Aside0 (k84.C W A0 n ops) := ⟨by rw [← hn]; exact hO⟩
  have HN := Aside0.mk (And.intro hn h40)
  obtain ⟨k1, h1⟩ : ∃ cd, condA 109 ((Try.f9.body).getD .skip) = some cd := ⟨_, rfl⟩
  obtain ⟨k2, h2⟩ : ∃ cd, condA 124 ((Try.f9.body).getD .skip) = some cd := ⟨_, rfl⟩
  obtain ⟨k3, h3⟩ : ∃ cd, condA 154 ((Try.f9.body).getD .skip) = some cd := ⟨_, rfl⟩
  obtain ⟨k0, h0⟩ : ∃ cd, condB 154 ((Try.f9.body).getD .skip) = some cd := ⟨_, rfl⟩
  have e1 := Option.some.inj ((show condA 109 ((Try.f9.body).getD .skip) = some _ from rfl).symm.trans h1)
  have e2 := Option.some.inj ((show condA 124 ((Try.f9.body).getD .skip) = some _ from rfl).symm.trans h2)
  have e3 := Option.some.inj ((show condA 154 ((Try.f9.body).getD .skip) = some _ from rfl).symm.trans h3)
  have e0 := Option.some.inj ((show condB 154 ((Try.f9.body).getD .skip) = some _ from rfl).symm.trans h0)
  have H1 := Aside0.mk h1
  have H2 := Aside0.mk h2
  have H3 := Aside0.mk h3
  have H0 := Aside0.mk h0
  have E1 := Aside0.mk e1
  have E2 := Aside0.mk e2
  have E3 := Aside0.mk e3
  have E0 := Aside0.mk e0
  clear hC hc h60 h40 hxs hx hg ha hO hrg hn h1 h2 h3 h0 e1 e2 e3 e0
  go_enter Try.func9, Try.ntmps9
  go_wp2_with (first
    | ((with_reducible refine gate_dst (N := 2) rfl ?_); refine box_event ?hg (N := 2) ?hd (cs := #[.int .u64 a, .int .u64 b, .slice A By.length c, .int .u8 o]) (t := 60) ?hr ?_; (case hd => rfl); (case hg => rfl); (case hr => first | (go_simp; done) | (go_simp; rfl)); intro gR hg_ w1 hbB hb; have S1 := S0.box hg_ hb hbB; clear S0 hg_ hbB hb; have z0 : w1.cell? ⟨gR, 0, none⟩ = some (.int .u64 a) := (blk_cell (S1.blk 0 rfl) 0).trans rfl; have z1 : w1.cell? ⟨gR, 1, none⟩ = some (.int .u64 b) := (blk_cell (S1.blk 0 rfl) 1).trans rfl; have z2 : w1.cell? ⟨gR, 2, none⟩ = some (.slice A By.length c) := (blk_cell (S1.blk 0 rfl) 2).trans rfl; have z3 : w1.cell? ⟨gR, 3, none⟩ = some (.int .u8 o) := (blk_cell (S1.blk 0 rfl) 3).trans rfl)
    | (go_at_call 24; refine (HL.out _ S1.below).mono ?_; rintro e w2 ⟨rfl, hb⟩; have S2 := S1.call hb; clear S1 hb z0 z1 z2 z3; have z0 : w2.cell? ⟨gR, 0, none⟩ = some (.int .u64 a) := (blk_cell (S2.blk 0 rfl) 0).trans rfl; have z1 : w2.cell? ⟨gR, 1, none⟩ = some (.int .u64 b) := (blk_cell (S2.blk 0 rfl) 1).trans rfl; have z2 : w2.cell? ⟨gR, 2, none⟩ = some (.slice A By.length c) := (blk_cell (S2.blk 0 rfl) 2).trans rfl; have z3 : w2.cell? ⟨gR, 3, none⟩ = some (.int .u8 o) := (blk_cell (S2.blk 0 rfl) 3).trans rfl)
    | (go_at_call 26; refine (HB.out _ S2.below).mono ?_; rintro e w3 ⟨g, A5, c5, rfl, hc5, hs⟩; have S3 := S2.join0 hs; have HC5 := Aside0.mk hc5; clear S2 hs hc5 z0 z1 z2 z3)
    | ((with_reducible refine gate_dst (N := 6) rfl ?_); refine box_event ?hg (N := 6) ?hd (cs := #[.int .u64 0, .int .u64 0, .slice none 0 0, .slice none 0 0]) (t := 66) ?hr ?_; (case hd => rfl); (case hg => rfl); (case hr => first | (go_simp; done) | (go_simp; rfl)); intro gW hg_ w4 hbB hb; have S4 := S3.box hg_ hb hbB; clear S3 hg_ hbB hb; have z0 : w4.cell? ⟨gW, 0, none⟩ = some (.int .u64 0) := (blk_cell (S4.blk 0 rfl) 0).trans rfl; have fz0 : w4.frozen? ⟨gW, 0, none⟩ = false := blk_frozen (S4.blk 0 rfl) 0; have z1 : w4.cell? ⟨gW, 1, none⟩ = some (.int .u64 0) := (blk_cell (S4.blk 0 rfl) 1).trans rfl; have fz1 : w4.frozen? ⟨gW, 1, none⟩ = false := blk_frozen (S4.blk 0 rfl) 1; have z2 : w4.cell? ⟨gW, 2, none⟩ = some (.slice none 0 0) := (blk_cell (S4.blk 0 rfl) 2).trans rfl; have fz2 : w4.frozen? ⟨gW, 2, none⟩ = false := blk_frozen (S4.blk 0 rfl) 2; have z3 : w4.cell? ⟨gW, 3, none⟩ = some (.slice none 0 0) := (blk_cell (S4.blk 0 rfl) 3).trans rfl; have fz3 : w4.frozen? ⟨gW, 3, none⟩ = false := blk_frozen (S4.blk 0 rfl) 3))
  refine wp_named ?_
  intro w5 hw5
  have S5 : St W (fun _ => False) w5 [Pt gW #[.int .u64 a, .int .u64 b, .slice none 0 0, .slice A5 (pl xs).length c5] 66, ChP g a b xs, Vw k63 A5 (pl xs).length (pl xs)] := by rw [hw5]; exact ((((S4.put 0 _ rfl).put 1 _ rfl).put 2 _ rfl).put 3 _ rfl).take 3
  have HS5 := Aside0.mk S5
  clear hw5 S4 S5 z0 z1 z2 z3 fz0 fz1 fz2 fz3
  go_wp2
  go_loopg [55] n (fun gk v55 wr => ∃ (i a' b' : Int) (ys : List SE) (A5 : Option Addr) (c5 : Nat), v55 = .int .i64 i ∧ Aside0 (0 ≤ i ∧ i + gk = n) ∧ Aside0 ((pl ys).length ≤ c5) ∧ Aside0 (ys.length ≤ 60 * (i.toNat + 1)) ∧ Aside0 (St W (fun _ => False) wr [Pt gW #[.int .u64 a', .int .u64 b', .slice none 0 0, .slice A5 (pl ys).length c5] 66, ChP g a' b' ys, Vw k63 A5 (pl ys).length (pl ys)]))
  case atStart => exact ⟨0, a, b, xs, A5, c5, rfl, ⟨by omega⟩, HC5, ⟨by have := HX0.out; omega⟩, HS5⟩
  case round =>
    clear HS5 HC5
    obtain ⟨i, a', b', ys, A5, c5, rfl, HI, HC5, HF, HS⟩ := hrel
    have hi0 : 0 ≤ i := HI.out.1
    rw [E1.out, E2.out, E3.out, E0.out]
    by_cases hlt : i < (n : Int)
    · have hd : decide (i < (n : Int)) = true := decide_eq_true hlt
      obtain ⟨ad, AB, cB, e1, x0, x1, x2, x3, x4, x5, x6, x7, hcB, hBy⟩ := at_T84 HO.out i hi0 hlt
      subst e1
      have hmem := HRG.out _ (mem_getD_lt ops i.toNat z84 (by have := HN.out; omega))
      obtain ⟨x, hx⟩ : ∃ x, rd_T84 ops i = x := ⟨_, rfl⟩
      rw [show ops.getD i.toNat z84 = x from hx] at hmem
      rw [hx] at x0 x1 x2 x3 x4 x5 x6 x7 hcB hBy
      obtain ⟨kd, nn, mo, ⟨ri, rt, BY, od⟩, raw⟩ := x
      simp only at x0 x1 x2 x3 x4 x5 x6 x7 hcB hBy hmem
      have hb := HS.out.below
      replace x0 := (hb.cell (World.block_lt_of_cell? W _ x0)).trans x0
      replace x1 := (hb.cell (World.block_lt_of_cell? W _ x1)).trans x1
      replace x2 := (hb.cell (World.block_lt_of_cell? W _ x2)).trans x2
      replace x3 := (hb.cell (World.block_lt_of_cell? W _ x3)).trans x3
      replace x4 := (hb.cell (World.block_lt_of_cell? W _ x4)).trans x4
      replace x5 := (hb.cell (World.block_lt_of_cell? W _ x5)).trans x5
      replace x6 := (hb.cell (World.block_lt_of_cell? W _ x6)).trans x6
      replace x7 := (hb.cell (World.block_lt_of_cell? W _ x7)).trans x7
      have S1 := HS.out
      obtain ⟨lg, hlg⟩ : ∃ lg, decide (BY.length ≤ 60) = lg := ⟨_, rfl⟩
      have HLB' : Aside0 (∀ W', Below W.heap.size W W' → Calls Try.prog 24 #[.agg #[.int .u64 ri, .int .u64 rt, .slice AB BY.length cB, .int .u8 od]] W' fun e w' => e = .returned (.bool lg) ∧ Below W'.heap.size W' w') := ⟨fun W' hb => jobberlaw38_Run_light.calls ri rt AB cB BY od lg W' (Kd.C_below hBy hb) hcB (by unfold jobberlaw38_Run_light.f; rw [← hlg]; congr 1; exact decide_eq_decide.2 (by omega))⟩
      have HBY0 := Aside0.mk (And.intro hBy (And.intro hcB (And.intro hlg hmem)))
      have p1 : (0 ≤ i) = True := eq_true hi0
      have p2 : (i < (n : Int)) = True := eq_true hlt
      clear hb hx hBy hcB hlg hmem HS
      go_upto_region 9 with ((with_reducible refine gate_dst (N := 9) rfl ?_); refine box_event ?hg (N := 9) ?hd (cs := #[.int .i64 0, .int .u64 0, .int .u64 0, .int .u64 0, .int .u64 0, .slice none 0 0, .int .u8 0, .bool false]) (t := 84) ?hr ?_; (case hd => rfl); (case hg => rfl); (case hr => first | (go_simp; done) | (go_simp; rfl)); intro gO hg_ w2 hbB hb; have S2 := S1.box hg_ hb hbB; clear S1 hg_ hbB hb; have o0 : w2.cell? ⟨gO, 0, none⟩ = some (.int .i64 0) := (blk_cell (S2.blk 0 rfl) 0).trans rfl; have fo0 : w2.frozen? ⟨gO, 0, none⟩ = false := blk_frozen (S2.blk 0 rfl) 0; have o1 : w2.cell? ⟨gO, 1, none⟩ = some (.int .u64 0) := (blk_cell (S2.blk 0 rfl) 1).trans rfl; have fo1 : w2.frozen? ⟨gO, 1, none⟩ = false := blk_frozen (S2.blk 0 rfl) 1; have o2 : w2.cell? ⟨gO, 2, none⟩ = some (.int .u64 0) := (blk_cell (S2.blk 0 rfl) 2).trans rfl; have fo2 : w2.frozen? ⟨gO, 2, none⟩ = false := blk_frozen (S2.blk 0 rfl) 2; have o3 : w2.cell? ⟨gO, 3, none⟩ = some (.int .u64 0) := (blk_cell (S2.blk 0 rfl) 3).trans rfl; have fo3 : w2.frozen? ⟨gO, 3, none⟩ = false := blk_frozen (S2.blk 0 rfl) 3; have o4 : w2.cell? ⟨gO, 4, none⟩ = some (.int .u64 0) := (blk_cell (S2.blk 0 rfl) 4).trans rfl; have fo4 : w2.frozen? ⟨gO, 4, none⟩ = false := blk_frozen (S2.blk 0 rfl) 4; have o5 : w2.cell? ⟨gO, 5, none⟩ = some (.slice none 0 0) := (blk_cell (S2.blk 0 rfl) 5).trans rfl; have fo5 : w2.frozen? ⟨gO, 5, none⟩ = false := blk_frozen (S2.blk 0 rfl) 5; have o6 : w2.cell? ⟨gO, 6, none⟩ = some (.int .u8 0) := (blk_cell (S2.blk 0 rfl) 6).trans rfl; have fo6 : w2.frozen? ⟨gO, 6, none⟩ = false := blk_frozen (S2.blk 0 rfl) 6; have o7 : w2.cell? ⟨gO, 7, none⟩ = some (.bool false) := (blk_cell (S2.blk 0 rfl) 7).trans rfl; have fo7 : w2.frozen? ⟨gO, 7, none⟩ = false := blk_frozen (S2.blk 0 rfl) 7)
      refine wp_named ?_
      intro w3 hw3
      have S3 : St W (fun _ => False) w3 [Pt gO #[.int .i64 kd, .int .u64 nn, .int .u64 mo, .int .u64 ri, .int .u64 rt, .slice AB BY.length cB, .int .u8 od, .bool raw] 84, Pt gW #[.int .u64 a', .int .u64 b', .slice none 0 0, .slice A5 (pl ys).length c5] 66, ChP g a' b' ys, Vw k63 A5 (pl ys).length (pl ys)] := by rw [hw3]; exact (((((((S2.put 0 _ rfl).put 1 _ rfl).put 2 _ rfl).put 3 _ rfl).put 4 _ rfl).put 5 _ rfl).put 6 _ rfl).put 7 _ rfl
      clear hw3 S2 o0 o1 o2 o3 o4 o5 o6 o7 fo0 fo1 fo2 fo3 fo4 fo5 fo6 fo7 x0 x1 x2 x3 x4 x5 x6 x7
      have o0 : w3.cell? ⟨gO, 0, none⟩ = some (.int .i64 kd) := (blk_cell (S3.blk 0 rfl) 0).trans rfl; have o1 : w3.cell? ⟨gO, 1, none⟩ = some (.int .u64 nn) := (blk_cell (S3.blk 0 rfl) 1).trans rfl; have o2 : w3.cell? ⟨gO, 2, none⟩ = some (.int .u64 mo) := (blk_cell (S3.blk 0 rfl) 2).trans rfl; have o3 : w3.cell? ⟨gO, 3, none⟩ = some (.int .u64 ri) := (blk_cell (S3.blk 0 rfl) 3).trans rfl; have o4 : w3.cell? ⟨gO, 4, none⟩ = some (.int .u64 rt) := (blk_cell (S3.blk 0 rfl) 4).trans rfl; have o5 : w3.cell? ⟨gO, 5, none⟩ = some (.slice AB BY.length cB) := (blk_cell (S3.blk 0 rfl) 5).trans rfl; have o6 : w3.cell? ⟨gO, 6, none⟩ = some (.int .u8 od) := (blk_cell (S3.blk 0 rfl) 6).trans rfl; have o7 : w3.cell? ⟨gO, 7, none⟩ = some (.bool raw) := (blk_cell (S3.blk 0 rfl) 7).trans rfl
      cases lg with
      | false =>
        go_wp2_with (first
          | (go_at_call 24; refine (HLB'.out _ S3.below).mono ?_; rintro e w4 ⟨rfl, hb⟩; have S4 := S3.call hb; clear S3 hb)
          | (go_at_call 25; refine (chain_lives _).mono ?_; rintro e w6 ⟨rfl, hb⟩; have S5 := S4.call hb; clear S4 hb))
        go_ret
        exact ⟨rfl, S5.below⟩
      | true =>
        have HBY := Aside0.mk (And.intro HBY0.out.1 (And.intro HBY0.out.2.1 (And.intro (of_decide_eq_true HBY0.out.2.2.1) HBY0.out.2.2.2)))
        clear HBY0
        obtain ⟨q, hq⟩ : ∃ q, nn.tmod 20 = q := ⟨_, rfl⟩
        obtain ⟨mi, hmi⟩ : ∃ mi, (if a' + ys.length < q then a' + ys.length else q) = mi := ⟨_, rfl⟩
        obtain ⟨bk, hbk⟩ : ∃ bk, IntKind.u64.wrap (a' + ys.length - mi) = bk := ⟨_, rfl⟩
        have HBK : Aside0 (0 ≤ bk ∧ bk < 18446744073709551616) := ⟨by rw [← hbk]; exact u64_rng _⟩
        have HRW := Aside0.mk ((S3.front 2 rfl).chOpen).1
        have HFW : Aside0 (ys.length ≤ 90000) := ⟨by have := HF.out; have := HI.out; have := HN.out; omega⟩
        go_upto_region 13 with (first
          | (go_at_call 24; refine (HLB'.out _ S3.below).mono ?_; rintro e w4 ⟨rfl, hb⟩; have S4 := S3.call hb; clear S3 hb o0 o1 o2 o3 o4 o5 o6 o7; have z0 : w4.cell? ⟨gW, 0, none⟩ = some (.int .u64 a') := (blk_cell (S4.blk 1 rfl) 0).trans rfl; have z1 : w4.cell? ⟨gW, 1, none⟩ = some (.int .u64 b') := (blk_cell (S4.blk 1 rfl) 1).trans rfl; have z2 : w4.cell? ⟨gW, 2, none⟩ = some (.slice none 0 0) := (blk_cell (S4.blk 1 rfl) 2).trans rfl; have z3 : w4.cell? ⟨gW, 3, none⟩ = some (.slice A5 (pl ys).length c5) := (blk_cell (S4.blk 1 rfl) 3).trans rfl)
          | (go_at_call 35; refine (rlast w4 a' b' none 0 [] (Kd.C_nil _ _) (Nat.le_refl _) A5 c5 ys (S4.vw 3 rfl) HRW.out).mono ?_; rintro e w5 ⟨AL, cL, bs, rfl, hle, hCL, hb⟩; have S5 := S4.call hb; have HLL := Aside0.mk (And.intro hCL hle); have B5 := St.start w5 (fun _ => False); clear S4 hb hle hCL z0 z1 z2 z3)
          | ((with_reducible refine gate_dst (N := 10) rfl ?_); refine box_event ?hg (N := 10) ?hd (cs := #[.int .u64 0, .int .u64 0, .slice none 0 0]) (t := 63) ?hr ?_; (case hd => rfl); (case hg => rfl); (case hr => first | (go_simp; done) | (go_simp; rfl)); intro gL hg_ w6 hbB hb; have S6 := S5.box hg_ hb hbB; have B6 := B5.box hg_ hb hbB; clear S5 B5 hg_ hbB hb; have l0 : w6.cell? ⟨gL, 0, none⟩ = some (.int .u64 0) := (blk_cell (S6.blk 0 rfl) 0).trans rfl; have fl0 : w6.frozen? ⟨gL, 0, none⟩ = false := blk_frozen (S6.blk 0 rfl) 0; have l1 : w6.cell? ⟨gL, 1, none⟩ = some (.int .u64 0) := (blk_cell (S6.blk 0 rfl) 1).trans rfl; have fl1 : w6.frozen? ⟨gL, 1, none⟩ = false := blk_frozen (S6.blk 0 rfl) 1; have l2 : w6.cell? ⟨gL, 2, none⟩ = some (.slice none 0 0) := (blk_cell (S6.blk 0 rfl) 2).trans rfl; have fl2 : w6.frozen? ⟨gL, 2, none⟩ = false := blk_frozen (S6.blk 0 rfl) 2; have o0 : w6.cell? ⟨gO, 0, none⟩ = some (.int .i64 kd) := (blk_cell (S6.blk 1 rfl) 0).trans rfl; have o1 : w6.cell? ⟨gO, 1, none⟩ = some (.int .u64 nn) := (blk_cell (S6.blk 1 rfl) 1).trans rfl; have o2 : w6.cell? ⟨gO, 2, none⟩ = some (.int .u64 mo) := (blk_cell (S6.blk 1 rfl) 2).trans rfl; have o3 : w6.cell? ⟨gO, 3, none⟩ = some (.int .u64 ri) := (blk_cell (S6.blk 1 rfl) 3).trans rfl; have o4 : w6.cell? ⟨gO, 4, none⟩ = some (.int .u64 rt) := (blk_cell (S6.blk 1 rfl) 4).trans rfl; have o5 : w6.cell? ⟨gO, 5, none⟩ = some (.slice AB BY.length cB) := (blk_cell (S6.blk 1 rfl) 5).trans rfl; have o6 : w6.cell? ⟨gO, 6, none⟩ = some (.int .u8 od) := (blk_cell (S6.blk 1 rfl) 6).trans rfl; have o7 : w6.cell? ⟨gO, 7, none⟩ = some (.bool raw) := (blk_cell (S6.blk 1 rfl) 7).trans rfl; have nl : gL ≠ gO := S6.ne 0 1 rfl rfl (by decide); have nl' := Ne.symm nl))
        refine wp_named ?_
        intro w7 hw7
        have S7 : St W (fun _ => False) w7 [Pt gL #[.int .u64 (a' + ys.length), .int .u64 (lastT b' ys), .slice AL bs.length cL] 63, Pt gO #[.int .i64 kd, .int .u64 nn, .int .u64 mo, .int .u64 ri, .int .u64 rt, .slice AB BY.length cB, .int .u8 od, .bool raw] 84, Pt gW #[.int .u64 a', .int .u64 b', .slice none 0 0, .slice A5 (pl ys).length c5] 66, ChP g a' b' ys, Vw k63 A5 (pl ys).length (pl ys)] := by rw [hw7]; exact ((S6.put 0 _ rfl).put 1 _ rfl).put 2 _ rfl
        have B7 : St w5 (fun _ => False) w7 [Pt gL #[.int .u64 (a' + ys.length), .int .u64 (lastT b' ys), .slice AL bs.length cL] 63] := by rw [hw7]; exact ((B6.put 0 _ rfl).put 1 _ rfl).put 2 _ rfl
        have HLB : Aside0 ((Kd.int .u8).C w7 AL bs.length bs ∧ bs.length ≤ cL) := ⟨Kd.C_below HLL.out.1 B7.below, HLL.out.2⟩
        clear hw7 S6 B6 B7 HLL l0 l1 l2 fl0 fl1 fl2 o0 o1 o2 o3 o4 o5 o6 o7 nl nl' hq hmi hbk
        have o0 : w7.cell? ⟨gO, 0, none⟩ = some (.int .i64 kd) := (blk_cell (S7.blk 1 rfl) 0).trans rfl; have o1 : w7.cell? ⟨gO, 1, none⟩ = some (.int .u64 nn) := (blk_cell (S7.blk 1 rfl) 1).trans rfl; have o2 : w7.cell? ⟨gO, 2, none⟩ = some (.int .u64 mo) := (blk_cell (S7.blk 1 rfl) 2).trans rfl; have o3 : w7.cell? ⟨gO, 3, none⟩ = some (.int .u64 ri) := (blk_cell (S7.blk 1 rfl) 3).trans rfl; have o4 : w7.cell? ⟨gO, 4, none⟩ = some (.int .u64 rt) := (blk_cell (S7.blk 1 rfl) 4).trans rfl; have o5 : w7.cell? ⟨gO, 5, none⟩ = some (.slice AB BY.length cB) := (blk_cell (S7.blk 1 rfl) 5).trans rfl; have o6 : w7.cell? ⟨gO, 6, none⟩ = some (.int .u8 od) := (blk_cell (S7.blk 1 rfl) 6).trans rfl; have o7 : w7.cell? ⟨gO, 7, none⟩ = some (.bool raw) := (blk_cell (S7.blk 1 rfl) 7).trans rfl
        have SK0 : St W (fun _ => False) w7 [Pt gW #[.int .u64 a', .int .u64 b', .slice none 0 0, .slice A5 (pl ys).length c5] 66, ChP g a' b' ys, Vw k63 A5 (pl ys).length (pl ys), Pt gO #[.int .i64 kd, .int .u64 nn, .int .u64 mo, .int .u64 ri, .int .u64 rt, .slice AB BY.length cB, .int .u8 od, .bool raw] 84, Pt gL #[.int .u64 (a' + ys.length), .int .u64 (lastT b' ys), .slice AL bs.length cL] 63] := ((((S7.front 1 rfl).front 4 rfl).front 4 rfl).front 4 rfl)
        have SK1 := Aside0.mk (SK0.take 3)
        have SK2 := Aside0.mk (SK0.take 4)
        have SK0 := Aside0.mk SK0
        have HS7 := Aside0.mk S7.below
        clear S7
        by_cases c1 : kd = 1
        · have hk1 : (kd == 1) = true := by rw [c1]; rfl
          clear c1
          go_wp2
          refine kind1 H1.out HBK.out HC5.out SK1.out ?_
          intro u12 u13 u111 u112 u113 u114 u115 u116 u117 u118 u119 u120 u121 u122 u123 w9 a9 b9 zs A9 c9 hc9 hz9 S9
          have HC9 := Aside0.mk (And.intro hc9 hz9)
          clear hc9 hz9
          have z0 : w9.cell? ⟨gW, 0, none⟩ = some (.int .u64 a9) := (blk_cell (S9.blk 0 rfl) 0).trans rfl; have z1 : w9.cell? ⟨gW, 1, none⟩ = some (.int .u64 b9) := (blk_cell (S9.blk 0 rfl) 1).trans rfl; have z2 : w9.cell? ⟨gW, 2, none⟩ = some (.slice none 0 0) := (blk_cell (S9.blk 0 rfl) 2).trans rfl; have z3 : w9.cell? ⟨gW, 3, none⟩ = some (.slice A9 (pl zs).length c9) := (blk_cell (S9.blk 0 rfl) 3).trans rfl
          go_wp2_with (go_at_call 27; refine (like_true w9 g a9 b9 zs (S9.ch 1 rfl) A9 c9 (S9.vw 2 rfl) HC9.out.1 bk 3 HBK.out).mono ?_; rintro e w10 ⟨rfl, hb⟩; have S10 := S9.call hb; clear S9 hb)
          go_roundg (gk - 1)
          case measure => have := HI.out; omega
          case rel =>
            have hw : wrap64 (i + 1) = i + 1 := by have h1 := HN.out; have h2 := HI.out; unfold wrap64; omega
            exact ⟨wrap64 (i + 1), a9, b9, zs, A9, c9, by first | rfl | (simp; done), ⟨by rw [hw]; have := HI.out; omega⟩, ⟨HC9.out.1⟩, ⟨by rw [hw]; have h1 := HC9.out.2; have h2 := HF.out; have h3 := HI.out; omega⟩, ⟨S10⟩⟩
        · have hk1 : (kd == 1) = false := beq_eq_false_iff_ne.mpr c1
          by_cases c2 : kd = 2
          · have hk2 : (kd == 2) = true := by rw [c2]; rfl
            clear c1 c2
            go_wp2
            refine kind2 H2.out HBK.out HC5.out SK2.out ?_
            intro u14 u15 u16 u17 u126 u127 u128 u129 u130 u131 u132 u133 u134 u135 u136 u137 u138 u139 u140 u141 u142 u143 u144 u145 u146 u147 u148 u149 u150 u151 u152 u153 w9 a9 b9 zs A9 c9 hc9 hz9 S9
            have HC9 := Aside0.mk (And.intro hc9 hz9)
            clear hc9 hz9
            have z0 : w9.cell? ⟨gW, 0, none⟩ = some (.int .u64 a9) := (blk_cell (S9.blk 0 rfl) 0).trans rfl; have z1 : w9.cell? ⟨gW, 1, none⟩ = some (.int .u64 b9) := (blk_cell (S9.blk 0 rfl) 1).trans rfl; have z2 : w9.cell? ⟨gW, 2, none⟩ = some (.slice none 0 0) := (blk_cell (S9.blk 0 rfl) 2).trans rfl; have z3 : w9.cell? ⟨gW, 3, none⟩ = some (.slice A9 (pl zs).length c9) := (blk_cell (S9.blk 0 rfl) 3).trans rfl
            go_wp2_with (go_at_call 27; refine (like_true w9 g a9 b9 zs (S9.ch 1 rfl) A9 c9 (S9.vw 2 rfl) HC9.out.1 bk 3 HBK.out).mono ?_; rintro e w10 ⟨rfl, hb⟩; have S10 := S9.call hb; clear S9 hb)
            go_roundg (gk - 1)
            case measure => have := HI.out; omega
            case rel =>
              have hw : wrap64 (i + 1) = i + 1 := by have h1 := HN.out; have h2 := HI.out; unfold wrap64; omega
              exact ⟨wrap64 (i + 1), a9, b9, zs, A9, c9, by first | rfl | (simp; done), ⟨by rw [hw]; have := HI.out; omega⟩, ⟨HC9.out.1⟩, ⟨by rw [hw]; have h1 := HC9.out.2; have h2 := HF.out; have h3 := HI.out; omega⟩, ⟨S10⟩⟩
          · have hk2 : (kd == 2) = false := beq_eq_false_iff_ne.mpr c2
            by_cases c3 : kd = 3
            · have hk3 : (kd == 3) = true := by rw [c3]; rfl
              clear c1 c2 c3
              go_wp2
              refine kind3 H3.out (Kd.C_below HBY.out.1 HS7.out) HBY.out.2.1 HBY.out.2.2.1 HBY.out.2.2.2 HFW.out HBK.out HC5.out SK2.out ?_
              intro u18 u19 u20 u21 u22 u23 u24 u156 u157 u158 u159 u160 u161 u162 u163 u164 u165 u166 u167 u168 u169 u170 u171 u172 u173 u174 u175 u176 u177 u178 u179 u180 u181 u182 u183 u184 u185 u186 u187 u188 u189 u190 u191 u192 u193 u194 u195 u196 u197 u198 u199 u200 u201 u202 u203 u204 u205 u206 u207 u208 u209 u210 u211 u212 u213 u214 u215 u216 u217 u218 u219 u220 u221 u222 w9 a9 b9 zs A9 c9 hc9 hz9 S9
              have HC9 := Aside0.mk (And.intro hc9 hz9)
              clear hc9 hz9
              have z0 : w9.cell? ⟨gW, 0, none⟩ = some (.int .u64 a9) := (blk_cell (S9.blk 0 rfl) 0).trans rfl; have z1 : w9.cell? ⟨gW, 1, none⟩ = some (.int .u64 b9) := (blk_cell (S9.blk 0 rfl) 1).trans rfl; have z2 : w9.cell? ⟨gW, 2, none⟩ = some (.slice none 0 0) := (blk_cell (S9.blk 0 rfl) 2).trans rfl; have z3 : w9.cell? ⟨gW, 3, none⟩ = some (.slice A9 (pl zs).length c9) := (blk_cell (S9.blk 0 rfl) 3).trans rfl
              go_wp2_with (go_at_call 27; refine (like_true w9 g a9 b9 zs (S9.ch 1 rfl) A9 c9 (S9.vw 2 rfl) HC9.out.1 bk 3 HBK.out).mono ?_; rintro e w10 ⟨rfl, hb⟩; have S10 := S9.call hb; clear S9 hb)
              go_roundg (gk - 1)
              case measure => have := HI.out; omega
              case rel =>
                have hw : wrap64 (i + 1) = i + 1 := by have h1 := HN.out; have h2 := HI.out; unfold wrap64; omega
                exact ⟨wrap64 (i + 1), a9, b9, zs, A9, c9, by first | rfl | (simp; done), ⟨by rw [hw]; have := HI.out; omega⟩, ⟨HC9.out.1⟩, ⟨by rw [hw]; have h1 := HC9.out.2; have h2 := HF.out; have h3 := HI.out; omega⟩, ⟨S10⟩⟩
            · have hk3 : (kd == 3) = false := beq_eq_false_iff_ne.mpr c3
              clear c1 c2 c3
              go_wp2
              refine kind0 H0.out (Kd.C_below HBY.out.1 HS7.out) HBY.out.2.1 HBY.out.2.2.1 HBY.out.2.2.2 HLB.out.1 HLB.out.2 HFW.out HBK.out HC5.out SK0.out ?_
              intro u25 u26 u27 u77 u78 u79 u80 u81 u82 u83 u84 u85 u86 u87 u88 u89 u90 u91 u92 u93 u94 u95 u96 u97 u98 u99 u100 u101 u102 u103 u104 u105 u106 u107 u108 w9 a9 b9 zs A9 c9 hc9 hz9 S9
              have HC9 := Aside0.mk (And.intro hc9 hz9)
              clear hc9 hz9
              have z0 : w9.cell? ⟨gW, 0, none⟩ = some (.int .u64 a9) := (blk_cell (S9.blk 0 rfl) 0).trans rfl; have z1 : w9.cell? ⟨gW, 1, none⟩ = some (.int .u64 b9) := (blk_cell (S9.blk 0 rfl) 1).trans rfl; have z2 : w9.cell? ⟨gW, 2, none⟩ = some (.slice none 0 0) := (blk_cell (S9.blk 0 rfl) 2).trans rfl; have z3 : w9.cell? ⟨gW, 3, none⟩ = some (.slice A9 (pl zs).length c9) := (blk_cell (S9.blk 0 rfl) 3).trans rfl
              go_wp2_with (go_at_call 27; refine (like_true w9 g a9 b9 zs (S9.ch 1 rfl) A9 c9 (S9.vw 2 rfl) HC9.out.1 bk 3 HBK.out).mono ?_; rintro e w10 ⟨rfl, hb⟩; have S10 := S9.call hb; clear S9 hb)
              go_roundg (gk - 1)
              case measure => have := HI.out; omega
              case rel =>
                have hw : wrap64 (i + 1) = i + 1 := by have h1 := HN.out; have h2 := HI.out; unfold wrap64; omega
                exact ⟨wrap64 (i + 1), a9, b9, zs, A9, c9, by first | rfl | (simp; done), ⟨by rw [hw]; have := HI.out; omega⟩, ⟨HC9.out.1⟩, ⟨by rw [hw]; have h1 := HC9.out.2; have h2 := HF.out; have h3 := HI.out; omega⟩, ⟨S10⟩⟩
    · have hd : decide (i < (n : Int)) = false := decide_eq_false hlt
      have S1 := HS.out
      go_wp2_with (go_at_call 25; refine (chain_lives _).mono ?_; rintro e w6 ⟨rfl, hb⟩; have S2 := S1.call hb; clear S1 hb)
      go_ret
      exact ⟨rfl, S2.below⟩

def jobberlaw38_ChainPlays.f (a0_0 a0_1 : Int) (l0_2 : List Int) (a0_3 : Int) (l1 : List S84) : Option Bool := if (0 ≤ a0_0 ∧ a0_0 < 18446744073709551616) ∧ (l1.all fun x => decide (0 ≤ x.f3.f0 ∧ x.f3.f0 < 18446744073709551616)) = true then some true else none
theorem jobberlaw38_ChainPlays.calls (a0_0 a0_1 : Int) (A0_2 : Option Addr) (c0_2 : Nat) (l0_2 : List Int) (a0_3 : Int) (A1 : Option Addr) (c1 : Nat) (l1 : List S84) (r : Bool) (w : World) (hr0_2 : Kd.C (Kd.int .u8) w A0_2 l0_2.length l0_2) (hc0_2 : l0_2.length ≤ c0_2) (hr1 : Kd.C k84 w A1 l1.length l1) (hc1 : l1.length ≤ c1) (h : jobberlaw38_ChainPlays.f a0_0 a0_1 l0_2 a0_3 l1 = some r) :
    Calls Try.prog 9 #[.agg #[.int .u64 a0_0, .int .u64 a0_1, .slice A0_2 l0_2.length c0_2, .int .u8 a0_3], .slice A1 l1.length c1] w fun e w' => e = .returned (.bool r) ∧ Below w.heap.size w w' := by
  unfold jobberlaw38_ChainPlays.f at h
  by_cases hb : (0 ≤ a0_0 ∧ a0_0 < 18446744073709551616) ∧ (l1.all fun x => decide (0 ≤ x.f3.f0 ∧ x.f3.f0 < 18446744073709551616)) = true
  · rw [if_pos hb] at h
    obtain rfl := Option.some.inj h
    have hrg : ∀ x ∈ l1, 0 ≤ x.f3.f0 ∧ x.f3.f0 < 18446744073709551616 := fun x hx => of_decide_eq_true (List.all_eq_true.1 hb.2 x hx)
    by_cases h60 : l0_2.length ≤ 60
    · by_cases h40 : l1.length ≤ 40
      · obtain ⟨xs, hxs, hx⟩ := entries_ex a0_0 a0_1 a0_3 l0_2 h60 (k := 61) (by omega)
        cases hg : standG a0_0 a0_1 xs with
        | true => exact plays_main w a0_0 a0_1 a0_3 A0_2 c0_2 l0_2 hr0_2 hc0_2 A1 c1 l1 h60 h40 xs hxs hx hg hb.1 hr1 hrg
        | false => exact plays_bad w a0_0 a0_1 a0_3 A0_2 c0_2 l0_2 hr0_2 hc0_2 A1 c1 l1 h60 h40 xs hxs hx hg
      · exact plays_many2 w a0_0 a0_1 a0_3 A0_2 c0_2 l0_2 hr0_2 hc0_2 A1 c1 l1 h60 h40
    · exact plays_many1 w a0_0 a0_1 a0_3 A0_2 c0_2 l0_2 hr0_2 hc0_2 A1 c1 l1 h60
  · rw [if_neg hb] at h
    cases h

end Go.Proofs.Ythkhfhhbldjdlaa.Chp
