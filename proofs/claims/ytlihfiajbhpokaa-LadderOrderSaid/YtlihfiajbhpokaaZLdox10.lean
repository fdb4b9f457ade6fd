/- Printed by this session's wip/drive.py over the translation; some functions by hand. -/
import Derived.Test.YtlihfiajbhpokaaZLdox0
import Derived.Test.YtlihfiajbhpokaaZLdox2
import Derived.Test.YtlihfiajbhpokaaZLdox3
import Derived.Test.YtlihfiajbhpokaaZLdox4
import Derived.Test.YtlihfiajbhpokaaZLdox6
import Derived.Test.YtlihfiajbhpokaaZLdox8
namespace Go.Proofs.Ytlihfiajbhpokaa.Ldo
open Go.RowKit Go.Proofs.YtlihfiajbhpokaaW.PrintWords Go.Proofs.YtlihfiajbhpokaaW.PrintLast Go.Proofs.YtlihfiajbhpokaaW.PrintMore
attribute [local go_sem] max2_int min2_int max_two min_two max_three min_three max_four min_four
set_option linter.unusedVariables false
set_option linter.unusedSimpArgs false
def onlyN (K : Act → World → Prop) : Exit → Act → World → Prop
  | .normal, a, w => K a w
  | _, _, _ => False
theorem onlyN_mk {K : Act → World → Prop} {a : Act} {w : World} (h : K a w) : onlyN K .normal a w := h
theorem onlyN_to {Q : Exit → Act → World → Prop} : ∀ e a w, onlyN (Q .normal) e a w → Q e a w
  | .normal, _, _, h => h
  | .ret, _, _, h => h.elim
  | .exit _, _, _, h => h.elim
  | .goto _, _, _, h => h.elim
  | .panic _, _, _, h => h.elim
  | .outgrown, _, _, h => h.elim
def findR (id : Nat) : Code → Option (Array Oper)
  | .region i ops _ => if i == id then some ops else none
  | .seq a b => (findR id a).orElse fun _ => findR id b
  | .cond _ a b => (findR id a).orElse fun _ => findR id b
  | .block _ a => findR id a
  | .loop a => findR id a
  | .rangeFunc _ _ a b => (findR id a).orElse fun _ => findR id b
  | .scope a => findR id a
  | _ => none
set_option maxHeartbeats 16000000 in
set_option maxRecDepth 100000 in
theorem ad11 {Q : Exit → Act → World → Prop} {ops : Array Oper} (hops : findR 11 ((Try.f36.body).getD .skip) = some ops) {wr : World} {dfs : List Deferred} {b3 g j n c i : Nat} {A : Option Addr} {sd pr : Int} {R : World → Prop}
    (h0 : wr.cell? ⟨g, j, none⟩ = some (.slice A n c)) (h1 : wr.cell? ⟨b3, 2, none⟩ = some (.int .i64 sd)) (h2 : wr.cell? ⟨b3, 3, none⟩ = some (.int .i64 pr))
    (HP : Aside0 (Calls Try.prog 72 #[.slice A n c, .int .i64 sd, .int .i64 pr] wr.drew fun e w2 => e = .returned (.int .i64 (i : Int)) ∧ R w2))
    {T0 T1 T2 T4 T5 T6 T7 T8 T10 T11 T12 T13 T14 T15 T16 T17 T18 T19 T20 T21 T22 T23 T24 T25 T26 T27 T28 T29 T30 T31 T32 T33 T34 T35 T36 T37 T38 T39 T40 T41 T42 T43 T44 T45 T46 T47 T48 T49 T50 T51 T52 T53 T54 T55 T56 T57 T58 T59 T60 T61 T62 T63 T64 T65 T66 T67 T68 T69 T70 T71 T72 T73 T74 T75 T76 T77 T78 T79 T80 T81 T82 T83 T84 T85 T86 T87 T88 T89 T90 T91 T92 T93 T94 T95 T96 T97 T98 T99 T100 T101 T102 T103 T104 T105 T106 T107 T108 T109 T110 T111 T112 : Value}
    (hK : ∀ (u40 u41 u42 u43 u44 u45 u46 u47 : Value) (w2 : World), R w2 → Q .normal { tmps := #[T0, T1, T2, .pointer (some ⟨b3, 0, none⟩), T4, T5, T6, T7, T8, .pointer (some ⟨g, j, none⟩), .int .i64 (i : Int), T11, T12, T13, T14, T15, T16, T17, T18, T19, T20, T21, T22, T23, T24, T25, T26, T27, T28, T29, T30, T31, T32, T33, T34, T35, T36, T37, T38, T39, u40, u41, u42, u43, u44, u45, u46, u47, T48, T49, T50, T51, T52, T53, T54, T55, T56, T57, T58, T59, T60, T61, T62, T63, T64, T65, T66, T67, T68, T69, T70, T71, T72, T73, T74, T75, T76, T77, T78, T79, T80, T81, T82, T83, T84, T85, T86, T87, T88, T89, T90, T91, T92, T93, T94, T95, T96, T97, T98, T99, T100, T101, T102, T103, T104, T105, T106, T107, T108, T109, T110, T111, T112], defers := dfs } (w2)) :
    (Code.region 11 ops true).wp Try.prog Q { tmps := #[T0, T1, T2, .pointer (some ⟨b3, 0, none⟩), T4, T5, T6, T7, T8, .pointer (some ⟨g, j, none⟩), T10, T11, T12, T13, T14, T15, T16, T17, T18, T19, T20, T21, T22, T23, T24, T25, T26, T27, T28, T29, T30, T31, T32, T33, T34, T35, T36, T37, T38, T39, T40, T41, T42, T43, T44, T45, T46, T47, T48, T49, T50, T51, T52, T53, T54, T55, T56, T57, T58, T59, T60, T61, T62, T63, T64, T65, T66, T67, T68, T69, T70, T71, T72, T73, T74, T75, T76, T77, T78, T79, T80, T81, T82, T83, T84, T85, T86, T87, T88, T89, T90, T91, T92, T93, T94, T95, T96, T97, T98, T99, T100, T101, T102, T103, T104, T105, T106, T107, T108, T109, T110, T111, T112], defers := dfs } wr := by
  have hops' := Option.some.inj (hops.symm.trans (show findR 11 ((Try.f36.body).getD .skip) = some _ from rfl))
  subst hops'
  clear hops
  refine wp_mono (Q := onlyN (Q .normal)) ?_ onlyN_to
  refine start_ (n := 9) (S := fun w' => w'.cell? ⟨g, j, none⟩ = some (.slice A n c) ∧ w'.cell? ⟨b3, 2, none⟩ = some (.int .i64 sd) ∧ w'.cell? ⟨b3, 3, none⟩ = some (.int .i64 pr)) (ds := [7]) #[false, false, false, false, false, false, false, false, false] (by kernel_rfl) rfl rfl ⟨h0, h1, h2⟩ (fun hHeld => ?_)
  refine pure_ (i := 0) (N := some 40) (v := ?_) (a' := ?_) #[true, false, false, false, false, false, false, false, false] rfl rfl (by kernel_rfl) (fun _ _ _ h => h) (Or.inl ⟨by rfl, ?_⟩) ?_ ?_
  rotate_left
  · intro w'
    go_simp
    with_reducible rfl
  rotate_left
  · simp only [Act.put, List.setIfInBounds_toArray, List.set_cons_zero, List.set_cons_succ, i64_w, i32_w]
    rfl
  refine pure_ (i := 1) (N := some 41) (v := ?_) (a' := ?_) #[true, true, false, false, false, false, false, false, false] rfl rfl (by kernel_rfl) (fun _ _ _ h => h) (Or.inl ⟨by rfl, ?_⟩) ?_ ?_
  rotate_left
  · intro w'
    go_simp
    with_reducible rfl
  rotate_left
  · simp only [Act.put, List.setIfInBounds_toArray, List.set_cons_zero, List.set_cons_succ, i64_w, i32_w]
    rfl
  refine pure_ (i := 3) (N := some 43) (v := ?_) (a' := ?_) #[true, true, false, true, false, false, false, false, false] rfl rfl (by kernel_rfl) (fun _ _ _ h => h) (Or.inl ⟨by rfl, ?_⟩) ?_ ?_
  rotate_left
  · intro w'
    go_simp
    with_reducible rfl
  rotate_left
  · simp only [Act.put, List.setIfInBounds_toArray, List.set_cons_zero, List.set_cons_succ, i64_w, i32_w]
    rfl
  refine pure_ (i := 5) (N := some 45) (v := ?_) (a' := ?_) #[true, true, false, true, false, true, false, false, false] rfl rfl (by kernel_rfl) (fun _ _ _ h => h) (Or.inl ⟨by rfl, ?_⟩) ?_ ?_
  rotate_left
  · intro w'
    go_simp
    with_reducible rfl
  rotate_left
  · simp only [Act.put, List.setIfInBounds_toArray, List.set_cons_zero, List.set_cons_succ, i64_w, i32_w]
    rfl
  refine take_ (i := 2) (N := some 42) (v := ?_) (a' := ?_) #[true, true, true, true, false, true, false, false, false] rfl rfl (by kernel_rfl) (fun _ _ _ h => h) (Or.inl ⟨by rfl, ?_⟩) hHeld ?_ ?_
  rotate_left
  · rintro w' ⟨s0, s1, s2⟩
    go_simp
    with_reducible rfl
  rotate_left
  · simp only [Act.put, List.setIfInBounds_toArray, List.set_cons_zero, List.set_cons_succ, i64_w, i32_w]
    rfl
  refine take_ (i := 4) (N := some 44) (v := ?_) (a' := ?_) #[true, true, true, true, true, true, false, false, false] rfl rfl (by kernel_rfl) (fun _ _ _ h => h) (Or.inl ⟨by rfl, ?_⟩) hHeld ?_ ?_
  rotate_left
  · rintro w' ⟨s0, s1, s2⟩
    go_simp
    with_reducible rfl
  rotate_left
  · simp only [Act.put, List.setIfInBounds_toArray, List.set_cons_zero, List.set_cons_succ, i64_w, i32_w]
    rfl
  refine take_ (i := 6) (N := some 46) (v := ?_) (a' := ?_) #[true, true, true, true, true, true, true, false, false] rfl rfl (by kernel_rfl) (fun _ _ _ h => h) (Or.inl ⟨by rfl, ?_⟩) hHeld ?_ ?_
  rotate_left
  · rintro w' ⟨s0, s1, s2⟩
    go_simp
    with_reducible rfl
  rotate_left
  · simp only [Act.put, List.setIfInBounds_toArray, List.set_cons_zero, List.set_cons_succ, i64_w, i32_w]
    rfl
  refine last_ (i := 7) (N := some 47) #[true, true, true, true, true, true, true, true, false] rfl rfl (by kernel_rfl) (by decide) (fun K hK => ?_)
  refine goes_ Try.func72 (by kernel_rfl) rfl #[.slice A n c, .int .i64 sd, .int .i64 pr] (by rfl) rfl rfl (by simp only [List.map_toArray, List.map_cons, List.map_nil]; rfl) ?_
  with_reducible refine (HP.out).mono ?_
  rintro e w2 ⟨rfl, hR⟩
  refine ⟨_, rfl, ?_⟩
  have HR := Aside0.mk hR
  clear hR
  refine hK.out _ _ ?_
  clear hK K
  refine norm_ (a' := ?_) ?_ ?_
  rotate_left
  · show Act.put _ (some 47) _ = _
    simp only [Act.put, List.setIfInBounds_toArray, List.set_cons_zero, List.set_cons_succ, i64_w, i32_w]
    rfl
  refine pure_ (i := 8) (N := some 10) (v := ?_) (a' := ?_) #[true, true, true, true, true, true, true, true, true] rfl rfl (by kernel_rfl) (fun _ _ _ h => h) (Or.inl ⟨by rfl, ?_⟩) ?_ ?_
  rotate_left
  · intro w'
    go_simp
    with_reducible rfl
  rotate_left
  · simp only [Act.put, List.setIfInBounds_toArray, List.set_cons_zero, List.set_cons_succ, i64_w, i32_w]
    rfl
  refine done_ (by kernel_rfl) ?_
  refine onlyN_mk ?_
  exact hK _ _ _ _ _ _ _ _ w2 HR.out
set_option maxHeartbeats 16000000 in
set_option maxRecDepth 100000 in
theorem ad12a {Q : Exit → Act → World → Prop} {ops : Array Oper} (hops : findR 12 ((Try.f36.body).getD .skip) = some ops) {wr : World} {dfs : List Deferred} {b3 g j n c i : Nat} {A : Option Addr}
    (h0 : wr.cell? ⟨g, j, none⟩ = some (.slice A n c)) (hd : ((i : Int) == (n : Int)) = true)
    {T0 T1 T2 T4 T5 T6 T7 T8 T11 T12 T13 T14 T15 T16 T17 T18 T19 T20 T21 T22 T23 T24 T25 T26 T27 T28 T29 T30 T31 T32 T33 T34 T35 T36 T37 T38 T39 T40 T41 T42 T43 T44 T45 T46 T47 T48 T49 T50 T51 T52 T53 T54 T55 T56 T57 T58 T59 T60 T61 T62 T63 T64 T65 T66 T67 T68 T69 T70 T71 T72 T73 T74 T75 T76 T77 T78 T79 T80 T81 T82 T83 T84 T85 T86 T87 T88 T89 T90 T91 T92 T93 T94 T95 T96 T97 T98 T99 T100 T101 T102 T103 T104 T105 T106 T107 T108 T109 T110 T111 T112 : Value}
    (hK : ∀ (u48 u49 u50 u51 u52 u53 u54 u55 u56 u57 u58 u59 u60 u61 u62 u63 u64 : Value) ,  Q .normal { tmps := #[T0, T1, T2, .pointer (some ⟨b3, 0, none⟩), T4, T5, T6, T7, T8, .pointer (some ⟨g, j, none⟩), .int .i64 (i : Int), T11, T12, T13, T14, T15, T16, T17, T18, T19, T20, T21, T22, T23, T24, T25, T26, T27, T28, T29, T30, T31, T32, T33, T34, T35, T36, T37, T38, T39, T40, T41, T42, T43, T44, T45, T46, T47, u48, u49, u50, u51, u52, u53, u54, u55, u56, u57, u58, u59, u60, u61, u62, u63, u64, .bool true, T66, T67, T68, T69, T70, T71, T72, T73, T74, T75, T76, T77, T78, T79, T80, T81, T82, T83, T84, T85, T86, T87, T88, T89, T90, T91, T92, T93, T94, T95, T96, T97, T98, T99, T100, T101, T102, T103, T104, T105, T106, T107, T108, T109, T110, T111, T112], defers := dfs } (wr.drew)) :
    (Code.region 12 ops true).wp Try.prog Q { tmps := #[T0, T1, T2, .pointer (some ⟨b3, 0, none⟩), T4, T5, T6, T7, T8, .pointer (some ⟨g, j, none⟩), .int .i64 (i : Int), T11, T12, T13, T14, T15, T16, T17, T18, T19, T20, T21, T22, T23, T24, T25, T26, T27, T28, T29, T30, T31, T32, T33, T34, T35, T36, T37, T38, T39, T40, T41, T42, T43, T44, T45, T46, T47, T48, T49, T50, T51, T52, T53, T54, T55, T56, T57, T58, T59, T60, T61, T62, T63, T64, T65, T66, T67, T68, T69, T70, T71, T72, T73, T74, T75, T76, T77, T78, T79, T80, T81, T82, T83, T84, T85, T86, T87, T88, T89, T90, T91, T92, T93, T94, T95, T96, T97, T98, T99, T100, T101, T102, T103, T104, T105, T106, T107, T108, T109, T110, T111, T112], defers := dfs } wr := by
  have hops' := Option.some.inj (hops.symm.trans (show findR 12 ((Try.f36.body).getD .skip) = some _ from rfl))
  subst hops'
  clear hops
  refine wp_mono (Q := onlyN (Q .normal)) ?_ onlyN_to
  refine start_ (n := 18) (S := fun w' => w'.cell? ⟨g, j, none⟩ = some (.slice A n c)) (ds := []) #[false, false, false, false, false, false, false, false, false, false, false, false, false, false, false, false, false, false] (by kernel_rfl) rfl rfl (h0) (fun hHeld => ?_)
  refine pure_ (i := 0) (N := some 48) (v := ?_) (a' := ?_) #[true, false, false, false, false, false, false, false, false, false, false, false, false, false, false, false, false, false] rfl rfl (by kernel_rfl) (fun _ _ _ h => h) (Or.inl ⟨by rfl, ?_⟩) ?_ ?_
  rotate_left
  · intro w'
    go_simp
    with_reducible rfl
  rotate_left
  · simp only [Act.put, List.setIfInBounds_toArray, List.set_cons_zero, List.set_cons_succ, i64_w, i32_w]
    rfl
  refine pure_ (i := 1) (N := some 49) (v := ?_) (a' := ?_) #[true, true, false, false, false, false, false, false, false, false, false, false, false, false, false, false, false, false] rfl rfl (by kernel_rfl) (fun _ _ _ h => h) (Or.inl ⟨by rfl, ?_⟩) ?_ ?_
  rotate_left
  · intro w'
    go_simp
    with_reducible rfl
  rotate_left
  · simp only [Act.put, List.setIfInBounds_toArray, List.set_cons_zero, List.set_cons_succ, i64_w, i32_w]
    rfl
  refine pure_ (i := 2) (N := some 50) (v := ?_) (a' := ?_) #[true, true, true, false, false, false, false, false, false, false, false, false, false, false, false, false, false, false] rfl rfl (by kernel_rfl) (fun _ _ _ h => h) (Or.inl ⟨by rfl, ?_⟩) ?_ ?_
  rotate_left
  · intro w'
    go_simp
    with_reducible rfl
  rotate_left
  · simp only [Act.put, List.setIfInBounds_toArray, List.set_cons_zero, List.set_cons_succ, i64_w, i32_w]
    rfl
  refine take_ (i := 3) (N := some 51) (v := ?_) (a' := ?_) #[true, true, true, true, false, false, false, false, false, false, false, false, false, false, false, false, false, false] rfl rfl (by kernel_rfl) (fun _ _ _ h => h) (Or.inl ⟨by rfl, ?_⟩) hHeld ?_ ?_
  rotate_left
  · intro w' s0
    go_simp
    with_reducible rfl
  rotate_left
  · simp only [Act.put, List.setIfInBounds_toArray, List.set_cons_zero, List.set_cons_succ, i64_w, i32_w]
    rfl
  refine pure_ (i := 4) (N := some 52) (v := ?_) (a' := ?_) #[true, true, true, true, true, false, false, false, false, false, false, false, false, false, false, false, false, false] rfl rfl (by kernel_rfl) (fun _ _ _ h => h) (Or.inl ⟨by rfl, ?_⟩) ?_ ?_
  rotate_left
  · intro w'
    go_simp
    with_reducible rfl
  rotate_left
  · simp only [Act.put, List.setIfInBounds_toArray, List.set_cons_zero, List.set_cons_succ, i64_w, i32_w]
    rfl
  refine pure_ (i := 5) (N := some 53) (v := ?_) (a' := ?_) #[true, true, true, true, true, true, false, false, false, false, false, false, false, false, false, false, false, false] rfl rfl (by kernel_rfl) (fun _ _ _ h => h) (Or.inl ⟨by rfl, ?_⟩) ?_ ?_
  rotate_left
  · intro w'
    go_simp
    with_reducible rfl
  rotate_left
  · simp only [Act.put, List.setIfInBounds_toArray, List.set_cons_zero, List.set_cons_succ, i64_w, i32_w]
    rfl
  refine pure_ (i := 6) (N := some 54) (v := ?_) (a' := ?_) #[true, true, true, true, true, true, true, false, false, false, false, false, false, false, false, false, false, false] rfl rfl (by kernel_rfl) (fun _ _ _ h => h) (Or.inl ⟨by rfl, ?_⟩) ?_ ?_
  rotate_left
  · intro w'
    go_simp
    with_reducible rfl
  rotate_left
  · simp only [Act.put, List.setIfInBounds_toArray, List.set_cons_zero, List.set_cons_succ, i64_w, i32_w]
    rfl
  refine pure_ (i := 7) (N := some 55) (v := undef) (a' := ?_) #[true, true, true, true, true, true, true, true, false, false, false, false, false, false, false, false, false, false] rfl rfl (by kernel_rfl) (fun _ _ _ h => h) (Or.inr ⟨by rfl, rfl⟩) ?_ ?_
  rotate_left
  · simp only [Act.put, List.setIfInBounds_toArray, List.set_cons_zero, List.set_cons_succ, i64_w, i32_w]
    rfl
  refine pure_ (i := 8) (N := some 56) (v := undef) (a' := ?_) #[true, true, true, true, true, true, true, true, true, false, false, false, false, false, false, false, false, false] rfl rfl (by kernel_rfl) (fun _ _ _ h => h) (Or.inr ⟨by rfl, rfl⟩) ?_ ?_
  rotate_left
  · simp only [Act.put, List.setIfInBounds_toArray, List.set_cons_zero, List.set_cons_succ, i64_w, i32_w]
    rfl
  refine pure_ (i := 9) (N := some 57) (v := undef) (a' := ?_) #[true, true, true, true, true, true, true, true, true, true, false, false, false, false, false, false, false, false] rfl rfl (by kernel_rfl) (fun _ _ _ h => h) (Or.inr ⟨by rfl, rfl⟩) ?_ ?_
  rotate_left
  · simp only [Act.put, List.setIfInBounds_toArray, List.set_cons_zero, List.set_cons_succ, i64_w, i32_w]
    rfl
  refine pure_ (i := 10) (N := some 58) (v := undef) (a' := ?_) #[true, true, true, true, true, true, true, true, true, true, true, false, false, false, false, false, false, false] rfl rfl (by kernel_rfl) (fun _ _ _ h => h) (Or.inr ⟨by rfl, rfl⟩) ?_ ?_
  rotate_left
  · simp only [Act.put, List.setIfInBounds_toArray, List.set_cons_zero, List.set_cons_succ, i64_w, i32_w]
    rfl
  refine pure_ (i := 11) (N := some 59) (v := undef) (a' := ?_) #[true, true, true, true, true, true, true, true, true, true, true, true, false, false, false, false, false, false] rfl rfl (by kernel_rfl) (fun _ _ _ h => h) (Or.inr ⟨by rfl, rfl⟩) ?_ ?_
  rotate_left
  · simp only [Act.put, List.setIfInBounds_toArray, List.set_cons_zero, List.set_cons_succ, i64_w, i32_w]
    rfl
  refine pure_ (i := 12) (N := some 60) (v := undef) (a' := ?_) #[true, true, true, true, true, true, true, true, true, true, true, true, true, false, false, false, false, false] rfl rfl (by kernel_rfl) (fun _ _ _ h => h) (Or.inr ⟨by rfl, rfl⟩) ?_ ?_
  rotate_left
  · simp only [Act.put, List.setIfInBounds_toArray, List.set_cons_zero, List.set_cons_succ, i64_w, i32_w]
    rfl
  refine pure_ (i := 13) (N := some 61) (v := undef) (a' := ?_) #[true, true, true, true, true, true, true, true, true, true, true, true, true, true, false, false, false, false] rfl rfl (by kernel_rfl) (fun _ _ _ h => h) (Or.inr ⟨by rfl, rfl⟩) ?_ ?_
  rotate_left
  · simp only [Act.put, List.setIfInBounds_toArray, List.set_cons_zero, List.set_cons_succ, i64_w, i32_w]
    rfl
  refine pure_ (i := 14) (N := some 62) (v := undef) (a' := ?_) #[true, true, true, true, true, true, true, true, true, true, true, true, true, true, true, false, false, false] rfl rfl (by kernel_rfl) (fun _ _ _ h => h) (Or.inr ⟨by rfl, rfl⟩) ?_ ?_
  rotate_left
  · simp only [Act.put, List.setIfInBounds_toArray, List.set_cons_zero, List.set_cons_succ, i64_w, i32_w]
    rfl
  refine pure_ (i := 15) (N := some 63) (v := undef) (a' := ?_) #[true, true, true, true, true, true, true, true, true, true, true, true, true, true, true, true, false, false] rfl rfl (by kernel_rfl) (fun _ _ _ h => h) (Or.inr ⟨by rfl, rfl⟩) ?_ ?_
  rotate_left
  · simp only [Act.put, List.setIfInBounds_toArray, List.set_cons_zero, List.set_cons_succ, i64_w, i32_w]
    rfl
  refine pure_ (i := 16) (N := some 64) (v := undef) (a' := ?_) #[true, true, true, true, true, true, true, true, true, true, true, true, true, true, true, true, true, false] rfl rfl (by kernel_rfl) (fun _ _ _ h => h) (Or.inr ⟨by rfl, rfl⟩) ?_ ?_
  rotate_left
  · simp only [Act.put, List.setIfInBounds_toArray, List.set_cons_zero, List.set_cons_succ, i64_w, i32_w]
    rfl
  refine pure_ (i := 17) (N := some 65) (v := ?_) (a' := ?_) #[true, true, true, true, true, true, true, true, true, true, true, true, true, true, true, true, true, true] rfl rfl (by kernel_rfl) (fun _ _ _ h => h) (Or.inl ⟨by rfl, ?_⟩) ?_ ?_
  rotate_left
  · intro w'
    go_simp
    with_reducible rfl
  rotate_left
  · simp only [Act.put, List.setIfInBounds_toArray, List.set_cons_zero, List.set_cons_succ, i64_w, i32_w]
    rfl
  refine done_ (by kernel_rfl) ?_
  refine onlyN_mk ?_
  exact hK _ _ _ _ _ _ _ _ _ _ _ _ _ _ _ _ _
set_option maxHeartbeats 16000000 in
set_option maxRecDepth 100000 in
theorem ad12b {Q : Exit → Act → World → Prop} {ops : Array Oper} (hops : findR 12 ((Try.f36.body).getD .skip) = some ops) {wr : World} {dfs : List Deferred} {b3 g j n c i : Nat} {ad : Addr} {pr p : Int} {bb : Bool}
    (h0 : wr.cell? ⟨g, j, none⟩ = some (.slice (some ad) n c)) (h1 : wr.cell? ⟨b3, 3, none⟩ = some (.int .i64 pr)) (h2 : wr.cell? (ad.add (i * 2)) = some (.int .i64 p)) (hd : ((i : Int) == (n : Int)) = false) (hi0 : (0 : Int) ≤ (i : Int)) (hi1 : (i : Int) < (n : Int)) (hbb : (p != pr) = bb)
    {T0 T1 T2 T4 T5 T6 T7 T8 T11 T12 T13 T14 T15 T16 T17 T18 T19 T20 T21 T22 T23 T24 T25 T26 T27 T28 T29 T30 T31 T32 T33 T34 T35 T36 T37 T38 T39 T40 T41 T42 T43 T44 T45 T46 T47 T48 T49 T50 T51 T52 T53 T54 T55 T56 T57 T58 T59 T60 T61 T62 T63 T64 T65 T66 T67 T68 T69 T70 T71 T72 T73 T74 T75 T76 T77 T78 T79 T80 T81 T82 T83 T84 T85 T86 T87 T88 T89 T90 T91 T92 T93 T94 T95 T96 T97 T98 T99 T100 T101 T102 T103 T104 T105 T106 T107 T108 T109 T110 T111 T112 : Value}
    (hK : ∀ (u48 u49 u50 u51 u52 u53 u54 u55 u56 u57 u58 u59 u60 u61 u62 u63 u64 : Value) ,  Q .normal { tmps := #[T0, T1, T2, .pointer (some ⟨b3, 0, none⟩), T4, T5, T6, T7, T8, .pointer (some ⟨g, j, none⟩), .int .i64 (i : Int), T11, T12, T13, T14, T15, T16, T17, T18, T19, T20, T21, T22, T23, T24, T25, T26, T27, T28, T29, T30, T31, T32, T33, T34, T35, T36, T37, T38, T39, T40, T41, T42, T43, T44, T45, T46, T47, u48, u49, u50, u51, u52, u53, u54, u55, u56, u57, u58, u59, u60, u61, u62, u63, u64, .bool bb, T66, T67, T68, T69, T70, T71, T72, T73, T74, T75, T76, T77, T78, T79, T80, T81, T82, T83, T84, T85, T86, T87, T88, T89, T90, T91, T92, T93, T94, T95, T96, T97, T98, T99, T100, T101, T102, T103, T104, T105, T106, T107, T108, T109, T110, T111, T112], defers := dfs } (wr.drew)) :
    (Code.region 12 ops true).wp Try.prog Q { tmps := #[T0, T1, T2, .pointer (some ⟨b3, 0, none⟩), T4, T5, T6, T7, T8, .pointer (some ⟨g, j, none⟩), .int .i64 (i : Int), T11, T12, T13, T14, T15, T16, T17, T18, T19, T20, T21, T22, T23, T24, T25, T26, T27, T28, T29, T30, T31, T32, T33, T34, T35, T36, T37, T38, T39, T40, T41, T42, T43, T44, T45, T46, T47, T48, T49, T50, T51, T52, T53, T54, T55, T56, T57, T58, T59, T60, T61, T62, T63, T64, T65, T66, T67, T68, T69, T70, T71, T72, T73, T74, T75, T76, T77, T78, T79, T80, T81, T82, T83, T84, T85, T86, T87, T88, T89, T90, T91, T92, T93, T94, T95, T96, T97, T98, T99, T100, T101, T102, T103, T104, T105, T106, T107, T108, T109, T110, T111, T112], defers := dfs } wr := by
  have hops' := Option.some.inj (hops.symm.trans (show findR 12 ((Try.f36.body).getD .skip) = some _ from rfl))
  subst hops'
  clear hops
  refine wp_mono (Q := onlyN (Q .normal)) ?_ onlyN_to
  refine start_ (n := 18) (S := fun w' => w'.cell? ⟨g, j, none⟩ = some (.slice (some ad) n c) ∧ w'.cell? ⟨b3, 3, none⟩ = some (.int .i64 pr) ∧ w'.cell? (ad.add (i * 2)) = some (.int .i64 p)) (ds := []) #[false, false, false, false, false, false, false, false, false, false, false, false, false, false, false, false, false, false] (by kernel_rfl) rfl rfl ⟨h0, h1, h2⟩ (fun hHeld => ?_)
  refine pure_ (i := 0) (N := some 48) (v := ?_) (a' := ?_) #[true, false, false, false, false, false, false, false, false, false, false, false, false, false, false, false, false, false] rfl rfl (by kernel_rfl) (fun _ _ _ h => h) (Or.inl ⟨by rfl, ?_⟩) ?_ ?_
  rotate_left
  · intro w'
    go_simp
    with_reducible rfl
  rotate_left
  · simp only [Act.put, List.setIfInBounds_toArray, List.set_cons_zero, List.set_cons_succ, i64_w, i32_w]
    rfl
  refine pure_ (i := 1) (N := some 49) (v := ?_) (a' := ?_) #[true, true, false, false, false, false, false, false, false, false, false, false, false, false, false, false, false, false] rfl rfl (by kernel_rfl) (fun _ _ _ h => h) (Or.inl ⟨by rfl, ?_⟩) ?_ ?_
  rotate_left
  · intro w'
    go_simp
    with_reducible rfl
  rotate_left
  · simp only [Act.put, List.setIfInBounds_toArray, List.set_cons_zero, List.set_cons_succ, i64_w, i32_w]
    rfl
  refine pure_ (i := 2) (N := some 50) (v := ?_) (a' := ?_) #[true, true, true, false, false, false, false, false, false, false, false, false, false, false, false, false, false, false] rfl rfl (by kernel_rfl) (fun _ _ _ h => h) (Or.inl ⟨by rfl, ?_⟩) ?_ ?_
  rotate_left
  · intro w'
    go_simp
    with_reducible rfl
  rotate_left
  · simp only [Act.put, List.setIfInBounds_toArray, List.set_cons_zero, List.set_cons_succ, i64_w, i32_w]
    rfl
  refine take_ (i := 3) (N := some 51) (v := ?_) (a' := ?_) #[true, true, true, true, false, false, false, false, false, false, false, false, false, false, false, false, false, false] rfl rfl (by kernel_rfl) (fun _ _ _ h => h) (Or.inl ⟨by rfl, ?_⟩) hHeld ?_ ?_
  rotate_left
  · rintro w' ⟨s0, s1, s2⟩
    go_simp
    with_reducible rfl
  rotate_left
  · simp only [Act.put, List.setIfInBounds_toArray, List.set_cons_zero, List.set_cons_succ, i64_w, i32_w]
    rfl
  refine pure_ (i := 4) (N := some 52) (v := ?_) (a' := ?_) #[true, true, true, true, true, false, false, false, false, false, false, false, false, false, false, false, false, false] rfl rfl (by kernel_rfl) (fun _ _ _ h => h) (Or.inl ⟨by rfl, ?_⟩) ?_ ?_
  rotate_left
  · intro w'
    go_simp
    with_reducible rfl
  rotate_left
  · simp only [Act.put, List.setIfInBounds_toArray, List.set_cons_zero, List.set_cons_succ, i64_w, i32_w]
    rfl
  refine pure_ (i := 5) (N := some 53) (v := ?_) (a' := ?_) #[true, true, true, true, true, true, false, false, false, false, false, false, false, false, false, false, false, false] rfl rfl (by kernel_rfl) (fun _ _ _ h => h) (Or.inl ⟨by rfl, ?_⟩) ?_ ?_
  rotate_left
  · intro w'
    go_simp
    with_reducible rfl
  rotate_left
  · simp only [Act.put, List.setIfInBounds_toArray, List.set_cons_zero, List.set_cons_succ, i64_w, i32_w]
    rfl
  refine pure_ (i := 6) (N := some 54) (v := ?_) (a' := ?_) #[true, true, true, true, true, true, true, false, false, false, false, false, false, false, false, false, false, false] rfl rfl (by kernel_rfl) (fun _ _ _ h => h) (Or.inl ⟨by rfl, ?_⟩) ?_ ?_
  rotate_left
  · intro w'
    go_simp
    with_reducible rfl
  rotate_left
  · simp only [Act.put, List.setIfInBounds_toArray, List.set_cons_zero, List.set_cons_succ, i64_w, i32_w]
    rfl
  refine pure_ (i := 7) (N := some 55) (v := ?_) (a' := ?_) #[true, true, true, true, true, true, true, true, false, false, false, false, false, false, false, false, false, false] rfl rfl (by kernel_rfl) (fun _ _ _ h => h) (Or.inl ⟨by rfl, ?_⟩) ?_ ?_
  rotate_left
  · intro w'
    go_simp
    with_reducible rfl
  rotate_left
  · simp only [Act.put, List.setIfInBounds_toArray, List.set_cons_zero, List.set_cons_succ, i64_w, i32_w]
    rfl
  refine pure_ (i := 8) (N := some 56) (v := ?_) (a' := ?_) #[true, true, true, true, true, true, true, true, true, false, false, false, false, false, false, false, false, false] rfl rfl (by kernel_rfl) (fun _ _ _ h => h) (Or.inl ⟨by rfl, ?_⟩) ?_ ?_
  rotate_left
  · intro w'
    go_simp
    with_reducible rfl
  rotate_left
  · simp only [Act.put, List.setIfInBounds_toArray, List.set_cons_zero, List.set_cons_succ, i64_w, i32_w]
    rfl
  refine pure_ (i := 10) (N := some 58) (v := ?_) (a' := ?_) #[true, true, true, true, true, true, true, true, true, false, true, false, false, false, false, false, false, false] rfl rfl (by kernel_rfl) (fun _ _ _ h => h) (Or.inl ⟨by rfl, ?_⟩) ?_ ?_
  rotate_left
  · intro w'
    go_simp
    with_reducible rfl
  rotate_left
  · simp only [Act.put, List.setIfInBounds_toArray, List.set_cons_zero, List.set_cons_succ, i64_w, i32_w]
    rfl
  refine pure_ (i := 14) (N := some 62) (v := ?_) (a' := ?_) #[true, true, true, true, true, true, true, true, true, false, true, false, false, false, true, false, false, false] rfl rfl (by kernel_rfl) (fun _ _ _ h => h) (Or.inl ⟨by rfl, ?_⟩) ?_ ?_
  rotate_left
  · intro w'
    go_simp
    with_reducible rfl
  rotate_left
  · simp only [Act.put, List.setIfInBounds_toArray, List.set_cons_zero, List.set_cons_succ, i64_w, i32_w]
    rfl
  refine take_ (i := 9) (N := some 57) (v := ?_) (a' := ?_) #[true, true, true, true, true, true, true, true, true, true, true, false, false, false, true, false, false, false] rfl rfl (by kernel_rfl) (fun _ _ _ h => h) (Or.inl ⟨by rfl, ?_⟩) hHeld ?_ ?_
  rotate_left
  · rintro w' ⟨s0, s1, s2⟩
    go_simp
    with_reducible rfl
  rotate_left
  · simp only [Act.put, List.setIfInBounds_toArray, List.set_cons_zero, List.set_cons_succ, i64_w, i32_w]
    rfl
  refine pure_ (i := 11) (N := some 59) (v := ?_) (a' := ?_) #[true, true, true, true, true, true, true, true, true, true, true, true, false, false, true, false, false, false] rfl rfl (by kernel_rfl) (fun _ _ _ h => h) (Or.inl ⟨by rfl, ?_⟩) ?_ ?_
  rotate_left
  · intro w'
    go_simp
    with_reducible rfl
  rotate_left
  · simp only [Act.put, List.setIfInBounds_toArray, List.set_cons_zero, List.set_cons_succ, i64_w, i32_w]
    rfl
  refine pure_ (i := 12) (N := some 60) (v := ?_) (a' := ?_) #[true, true, true, true, true, true, true, true, true, true, true, true, true, false, true, false, false, false] rfl rfl (by kernel_rfl) (fun _ _ _ h => h) (Or.inl ⟨by rfl, ?_⟩) ?_ ?_
  rotate_left
  · intro w'
    go_simp
    with_reducible rfl
  rotate_left
  · simp only [Act.put, List.setIfInBounds_toArray, List.set_cons_zero, List.set_cons_succ, i64_w, i32_w]
    rfl
  refine take_ (i := 13) (N := some 61) (v := ?_) (a' := ?_) #[true, true, true, true, true, true, true, true, true, true, true, true, true, true, true, false, false, false] rfl rfl (by kernel_rfl) (fun _ _ _ h => h) (Or.inl ⟨by rfl, ?_⟩) hHeld ?_ ?_
  rotate_left
  · rintro w' ⟨s0, s1, s2⟩
    go_simp
    with_reducible rfl
  rotate_left
  · simp only [Act.put, List.setIfInBounds_toArray, List.set_cons_zero, List.set_cons_succ, i64_w, i32_w]
    rfl
  refine take_ (i := 15) (N := some 63) (v := ?_) (a' := ?_) #[true, true, true, true, true, true, true, true, true, true, true, true, true, true, true, true, false, false] rfl rfl (by kernel_rfl) (fun _ _ _ h => h) (Or.inl ⟨by rfl, ?_⟩) hHeld ?_ ?_
  rotate_left
  · rintro w' ⟨s0, s1, s2⟩
    go_simp
    with_reducible rfl
  rotate_left
  · simp only [Act.put, List.setIfInBounds_toArray, List.set_cons_zero, List.set_cons_succ, i64_w, i32_w]
    rfl
  refine pure_ (i := 16) (N := some 64) (v := ?_) (a' := ?_) #[true, true, true, true, true, true, true, true, true, true, true, true, true, true, true, true, true, false] rfl rfl (by kernel_rfl) (fun _ _ _ h => h) (Or.inl ⟨by rfl, ?_⟩) ?_ ?_
  rotate_left
  · intro w'
    go_simp
    with_reducible rfl
  rotate_left
  · simp only [Act.put, List.setIfInBounds_toArray, List.set_cons_zero, List.set_cons_succ, i64_w, i32_w]
    rfl
  refine pure_ (i := 17) (N := some 65) (v := ?_) (a' := ?_) #[true, true, true, true, true, true, true, true, true, true, true, true, true, true, true, true, true, true] rfl rfl (by kernel_rfl) (fun _ _ _ h => h) (Or.inl ⟨by rfl, ?_⟩) ?_ ?_
  rotate_left
  · intro w'
    go_simp
    with_reducible rfl
  rotate_left
  · simp only [Act.put, List.setIfInBounds_toArray, List.set_cons_zero, List.set_cons_succ, i64_w, i32_w]
    rfl
  refine done_ (by kernel_rfl) ?_
  refine onlyN_mk ?_
  exact hK _ _ _ _ _ _ _ _ _ _ _ _ _ _ _ _ _
set_option maxHeartbeats 16000000 in
set_option maxRecDepth 100000 in
theorem ad13 {Q : Exit → Act → World → Prop} {ops : Array Oper} (hops : findR 13 ((Try.f36.body).getD .skip) = some ops) {wr : World} {dfs : List Deferred} {b3 g j n c i n' : Nat} {A : Option Addr} {pr : Int} {R : World → Option Addr → Nat → Prop}
    (h0 : wr.cell? ⟨g, j, none⟩ = some (.slice A n c)) (h1 : wr.cell? ⟨b3, 3, none⟩ = some (.int .i64 pr))
    (HP : Aside0 (Calls Try.prog 73 #[.slice A n c, .int .i64 (i : Int), .slice (some ⟨wr.heap.size, 0, none⟩) 1 1] (wr.alloc (.cells #[.int .i64 pr, .slice none 0 0] 115)).drew fun e w2 => ∃ A' c', e = .returned (.slice A' n' c') ∧ R w2 A' c'))
    (HK : Aside0 (∀ w2 A' c', R w2 A' c' → (∃ v, w2.cell? ⟨g, j, none⟩ = some v) ∧ w2.frozen? ⟨g, j, none⟩ = false))
    {T0 T1 T2 T4 T5 T6 T7 T8 T11 T12 T13 T14 T15 T16 T17 T18 T19 T20 T21 T22 T23 T24 T25 T26 T27 T28 T29 T30 T31 T32 T33 T34 T35 T36 T37 T38 T39 T40 T41 T42 T43 T44 T45 T46 T47 T48 T49 T50 T51 T52 T53 T54 T55 T56 T57 T58 T59 T60 T61 T62 T63 T64 T65 T66 T67 T68 T69 T70 T71 T72 T73 T74 T75 T76 T77 T78 T79 T80 T81 T82 T83 T84 T85 T86 T87 T88 T89 T90 T91 T92 T93 T94 T95 T96 T97 T98 T99 T100 T101 T102 T103 T104 T105 T106 T107 T108 T109 T110 T111 T112 : Value}
    (hK : ∀ (u66 u67 u68 u69 u70 u71 u72 u73 u74 u75 u76 : Value) (w2 : World) (A' : Option Addr) (c' : Nat), R w2 A' c' → Q .normal { tmps := #[T0, T1, T2, .pointer (some ⟨b3, 0, none⟩), T4, T5, T6, T7, T8, .pointer (some ⟨g, j, none⟩), .int .i64 (i : Int), T11, T12, T13, T14, T15, T16, T17, T18, T19, T20, T21, T22, T23, T24, T25, T26, T27, T28, T29, T30, T31, T32, T33, T34, T35, T36, T37, T38, T39, T40, T41, T42, T43, T44, T45, T46, T47, T48, T49, T50, T51, T52, T53, T54, T55, T56, T57, T58, T59, T60, T61, T62, T63, T64, T65, u66, u67, u68, u69, u70, u71, u72, u73, u74, u75, u76, T77, T78, T79, T80, T81, T82, T83, T84, T85, T86, T87, T88, T89, T90, T91, T92, T93, T94, T95, T96, T97, T98, T99, T100, T101, T102, T103, T104, T105, T106, T107, T108, T109, T110, T111, T112], defers := dfs } (w2.setCell ⟨g, j, none⟩ (.slice A' n' c'))) :
    (Code.region 13 ops true).wp Try.prog Q { tmps := #[T0, T1, T2, .pointer (some ⟨b3, 0, none⟩), T4, T5, T6, T7, T8, .pointer (some ⟨g, j, none⟩), .int .i64 (i : Int), T11, T12, T13, T14, T15, T16, T17, T18, T19, T20, T21, T22, T23, T24, T25, T26, T27, T28, T29, T30, T31, T32, T33, T34, T35, T36, T37, T38, T39, T40, T41, T42, T43, T44, T45, T46, T47, T48, T49, T50, T51, T52, T53, T54, T55, T56, T57, T58, T59, T60, T61, T62, T63, T64, T65, T66, T67, T68, T69, T70, T71, T72, T73, T74, T75, T76, T77, T78, T79, T80, T81, T82, T83, T84, T85, T86, T87, T88, T89, T90, T91, T92, T93, T94, T95, T96, T97, T98, T99, T100, T101, T102, T103, T104, T105, T106, T107, T108, T109, T110, T111, T112], defers := dfs } wr := by
  have hops' := Option.some.inj (hops.symm.trans (show findR 13 ((Try.f36.body).getD .skip) = some _ from rfl))
  subst hops'
  clear hops
  refine wp_mono (Q := onlyN (Q .normal)) ?_ onlyN_to
  refine start_ (n := 12) (S := fun w' => w'.cell? ⟨g, j, none⟩ = some (.slice A n c) ∧ w'.cell? ⟨b3, 3, none⟩ = some (.int .i64 pr)) (ds := [9, 11]) #[false, false, false, false, false, false, false, false, false, false, false, false] (by kernel_rfl) rfl rfl ⟨h0, h1⟩ (fun hHeld => ?_)
  refine pure_ (i := 0) (N := some 66) (v := ?_) (a' := ?_) #[true, false, false, false, false, false, false, false, false, false, false, false] rfl rfl (by kernel_rfl) (fun _ _ _ h => h) (Or.inl ⟨by rfl, ?_⟩) ?_ ?_
  rotate_left
  · intro w'
    go_simp
    with_reducible rfl
  rotate_left
  · simp only [Act.put, List.setIfInBounds_toArray, List.set_cons_zero, List.set_cons_succ, i64_w, i32_w]
    rfl
  refine pure_ (i := 1) (N := some 67) (v := ?_) (a' := ?_) #[true, true, false, false, false, false, false, false, false, false, false, false] rfl rfl (by kernel_rfl) (fun _ _ _ h => h) (Or.inl ⟨by rfl, ?_⟩) ?_ ?_
  rotate_left
  · intro w'
    go_simp
    with_reducible rfl
  rotate_left
  · simp only [Act.put, List.setIfInBounds_toArray, List.set_cons_zero, List.set_cons_succ, i64_w, i32_w]
    rfl
  refine pure_ (i := 2) (N := some 68) (v := ?_) (a' := ?_) #[true, true, true, false, false, false, false, false, false, false, false, false] rfl rfl (by kernel_rfl) (fun _ _ _ h => h) (Or.inl ⟨by rfl, ?_⟩) ?_ ?_
  rotate_left
  · intro w'
    go_simp
    with_reducible rfl
  rotate_left
  · simp only [Act.put, List.setIfInBounds_toArray, List.set_cons_zero, List.set_cons_succ, i64_w, i32_w]
    rfl
  refine pure_ (i := 4) (N := some 70) (v := ?_) (a' := ?_) #[true, true, true, false, true, false, false, false, false, false, false, false] rfl rfl (by kernel_rfl) (fun _ _ _ h => h) (Or.inl ⟨by rfl, ?_⟩) ?_ ?_
  rotate_left
  · intro w'
    go_simp
    with_reducible rfl
  rotate_left
  · simp only [Act.put, List.setIfInBounds_toArray, List.set_cons_zero, List.set_cons_succ, i64_w, i32_w]
    rfl
  refine pure_ (i := 5) (N := some 71) (v := ?_) (a' := ?_) #[true, true, true, false, true, true, false, false, false, false, false, false] rfl rfl (by kernel_rfl) (fun _ _ _ h => h) (Or.inl ⟨by rfl, ?_⟩) ?_ ?_
  rotate_left
  · intro w'
    go_simp
    with_reducible rfl
  rotate_left
  · simp only [Act.put, List.setIfInBounds_toArray, List.set_cons_zero, List.set_cons_succ, i64_w, i32_w]
    rfl
  refine take_ (i := 3) (N := some 69) (v := ?_) (a' := ?_) #[true, true, true, true, true, true, false, false, false, false, false, false] rfl rfl (by kernel_rfl) (fun _ _ _ h => h) (Or.inl ⟨by rfl, ?_⟩) hHeld ?_ ?_
  rotate_left
  · rintro w' ⟨s0, s1⟩
    go_simp
    with_reducible rfl
  rotate_left
  · simp only [Act.put, List.setIfInBounds_toArray, List.set_cons_zero, List.set_cons_succ, i64_w, i32_w]
    rfl
  refine take_ (i := 6) (N := some 72) (v := ?_) (a' := ?_) #[true, true, true, true, true, true, true, false, false, false, false, false] rfl rfl (by kernel_rfl) (fun _ _ _ h => h) (Or.inl ⟨by rfl, ?_⟩) hHeld ?_ ?_
  rotate_left
  · rintro w' ⟨s0, s1⟩
    go_simp
    with_reducible rfl
  rotate_left
  · simp only [Act.put, List.setIfInBounds_toArray, List.set_cons_zero, List.set_cons_succ, i64_w, i32_w]
    rfl
  refine pure_ (i := 7) (N := some 73) (v := ?_) (a' := ?_) #[true, true, true, true, true, true, true, true, false, false, false, false] rfl rfl (by kernel_rfl) (fun _ _ _ h => h) (Or.inl ⟨by rfl, ?_⟩) ?_ ?_
  rotate_left
  · intro w'
    go_simp
    with_reducible rfl
  rotate_left
  · simp only [Act.put, List.setIfInBounds_toArray, List.set_cons_zero, List.set_cons_succ, i64_w, i32_w]
    rfl
  refine one_ (i := 8) (N := some 74) #[true, true, true, true, true, true, true, true, true, false, false, false] rfl rfl (by kernel_rfl) (by decide) (fun K hK => ?_)
  refine value_ (w1 := ?_) (v := ?_) (by rfl) rfl ?_ ?_
  rotate_left 2
  · go_simp
    constructor
    · rfl
    · rfl
  refine hK.out _ _ ⟨cell_kept (fun k hk => Below.heap_alloc wr.drew _ k hk) h0, cell_kept (fun k hk => Below.heap_alloc wr.drew _ k hk) h1⟩ (fun hHeld => ?_)
  clear hK K
  refine norm_ (a' := ?_) ?_ ?_
  rotate_left
  · show Act.put _ (some 74) _ = _
    simp only [Act.put, List.setIfInBounds_toArray, List.set_cons_zero, List.set_cons_succ, i64_w, i32_w]
    rfl
  refine last_ (i := 9) (N := some 75) #[true, true, true, true, true, true, true, true, true, true, false, false] rfl rfl (by kernel_rfl) (by decide) (fun K hK => ?_)
  refine goes_ Try.func73 (by kernel_rfl) rfl #[.slice A n c, .int .i64 (i : Int), .slice (some ⟨wr.heap.size, 0, none⟩) 1 1] (by rfl) rfl rfl (by simp only [List.map_toArray, List.map_cons, List.map_nil]; rfl) ?_
  with_reducible refine (HP.out).mono ?_
  rintro e w2 ⟨A', c', rfl, hR⟩
  refine ⟨_, rfl, ?_⟩
  obtain ⟨⟨vz, z0⟩, fz0⟩ := HK.out _ _ _ hR
  have HR := Aside0.mk hR
  clear hR
  refine hK.out _ _ ?_
  clear hK K
  refine norm_ (a' := ?_) ?_ ?_
  rotate_left
  · show Act.put _ (some 75) _ = _
    simp only [Act.put, List.setIfInBounds_toArray, List.set_cons_zero, List.set_cons_succ, i64_w, i32_w]
    rfl
  refine pure_ (i := 10) (N := some 76) (v := ?_) (a' := ?_) #[true, true, true, true, true, true, true, true, true, true, true, false] rfl rfl (by kernel_rfl) (fun _ _ _ h => h) (Or.inl ⟨by rfl, ?_⟩) ?_ ?_
  rotate_left
  · intro w'
    go_simp
    with_reducible rfl
  rotate_left
  · simp only [Act.put, List.setIfInBounds_toArray, List.set_cons_zero, List.set_cons_succ, i64_w, i32_w]
    rfl
  refine last_ (i := 11) (N := none) #[true, true, true, true, true, true, true, true, true, true, true, true] rfl rfl (by kernel_rfl) (by decide) (fun K hK => ?_)
  refine skip_ (w1 := ?_) (by rfl) rfl ?_ ?_
  rotate_left
  · go_simp
    rfl
  refine hK.out _ _ ?_
  clear hK K
  refine done_ (by kernel_rfl) ?_
  refine onlyN_mk ?_
  exact hK _ _ _ _ _ _ _ _ _ _ _ _ _ _ HR.out
set_option maxHeartbeats 16000000 in
set_option maxRecDepth 100000 in
theorem ad18 {Q : Exit → Act → World → Prop} {ops : Array Oper} (hops : findR 18 ((Try.f36.body).getD .skip) = some ops) {wr : World} {dfs : List Deferred} {b3 k m c n' : Nat} {A : Option Addr} {ad : Addr} {y : SOr} {R : World → Option Addr → Nat → Prop}
    (h0 : wr.cell? ⟨ad.block, ad.off + 1, none⟩ = some (.slice A m c))
    (g0 : wr.cell? ⟨b3, 0, none⟩ = some (.int .u64 y.f0))
    (g1 : wr.cell? ⟨b3, 1, none⟩ = some (.int .i64 y.f1))
    (g2 : wr.cell? ⟨b3, 2, none⟩ = some (.int .i64 y.f2))
    (g3 : wr.cell? ⟨b3, 3, none⟩ = some (.int .i64 y.f3))
    (g4 : wr.cell? ⟨b3, 4, none⟩ = some (.int .i64 y.f4))
    (g5 : wr.cell? ⟨b3, 5, none⟩ = some (.int .u64 y.f5))
    (HP : Aside0 (Calls Try.prog 76 #[.slice A m c, .int .i64 (k : Int), .slice (some ⟨wr.heap.size, 0, none⟩) 1 1] (wr.alloc (.cells #[.int .u64 y.f0, .int .i64 y.f1, .int .i64 y.f2, .int .i64 y.f3, .int .i64 y.f4, .int .u64 y.f5] 33)).drew fun e w2 => ∃ A' c', e = .returned (.slice A' n' c') ∧ R w2 A' c'))
    (HK : Aside0 (∀ w2 A' c', R w2 A' c' → (∃ v, w2.cell? ⟨ad.block, ad.off + 1, none⟩ = some v) ∧ w2.frozen? ⟨ad.block, ad.off + 1, none⟩ = false))
    {T0 T1 T2 T4 T5 T6 T7 T8 T9 T10 T13 T14 T15 T16 T17 T18 T19 T20 T21 T22 T23 T24 T25 T26 T27 T28 T29 T30 T31 T32 T33 T34 T35 T36 T37 T38 T39 T40 T41 T42 T43 T44 T45 T46 T47 T48 T49 T50 T51 T52 T53 T54 T55 T56 T57 T58 T59 T60 T61 T62 T63 T64 T65 T66 T67 T68 T69 T70 T71 T72 T73 T74 T75 T76 T77 T78 T79 T80 T81 T82 T83 T84 T85 T86 T87 T88 T89 T90 T91 T92 T93 T94 T95 T96 T97 T98 T99 T100 T101 T102 T103 T104 T105 T106 T107 T108 T109 T110 T111 T112 : Value}
    (hK : ∀ (u95 u96 u97 u98 u99 u100 u101 u102 u103 u104 u105 : Value) (w2 : World) (A' : Option Addr) (c' : Nat), R w2 A' c' → Q .normal { tmps := #[T0, T1, T2, .pointer (some ⟨b3, 0, none⟩), T4, T5, T6, T7, T8, T9, T10, .pointer (some ad), .int .i64 (k : Int), T13, T14, T15, T16, T17, T18, T19, T20, T21, T22, T23, T24, T25, T26, T27, T28, T29, T30, T31, T32, T33, T34, T35, T36, T37, T38, T39, T40, T41, T42, T43, T44, T45, T46, T47, T48, T49, T50, T51, T52, T53, T54, T55, T56, T57, T58, T59, T60, T61, T62, T63, T64, T65, T66, T67, T68, T69, T70, T71, T72, T73, T74, T75, T76, T77, T78, T79, T80, T81, T82, T83, T84, T85, T86, T87, T88, T89, T90, T91, T92, T93, T94, u95, u96, u97, u98, u99, u100, u101, u102, u103, u104, u105, T106, T107, T108, T109, T110, T111, T112], defers := dfs } (w2.setCell ⟨ad.block, ad.off + 1, none⟩ (.slice A' n' c'))) :
    (Code.region 18 ops true).wp Try.prog Q { tmps := #[T0, T1, T2, .pointer (some ⟨b3, 0, none⟩), T4, T5, T6, T7, T8, T9, T10, .pointer (some ad), .int .i64 (k : Int), T13, T14, T15, T16, T17, T18, T19, T20, T21, T22, T23, T24, T25, T26, T27, T28, T29, T30, T31, T32, T33, T34, T35, T36, T37, T38, T39, T40, T41, T42, T43, T44, T45, T46, T47, T48, T49, T50, T51, T52, T53, T54, T55, T56, T57, T58, T59, T60, T61, T62, T63, T64, T65, T66, T67, T68, T69, T70, T71, T72, T73, T74, T75, T76, T77, T78, T79, T80, T81, T82, T83, T84, T85, T86, T87, T88, T89, T90, T91, T92, T93, T94, T95, T96, T97, T98, T99, T100, T101, T102, T103, T104, T105, T106, T107, T108, T109, T110, T111, T112], defers := dfs } wr := by
  have hops' := Option.some.inj (hops.symm.trans (show findR 18 ((Try.f36.body).getD .skip) = some _ from rfl))
  subst hops'
  clear hops
  have hu := Try.underlying33
  refine wp_mono (Q := onlyN (Q .normal)) ?_ onlyN_to
  refine start_ (n := 12) (S := fun w' => w'.cell? ⟨ad.block, ad.off + 1, none⟩ = some (.slice A m c) ∧ w'.cell? ⟨b3, 0, none⟩ = some (.int .u64 y.f0) ∧ w'.cell? ⟨b3, 1, none⟩ = some (.int .i64 y.f1) ∧ w'.cell? ⟨b3, 2, none⟩ = some (.int .i64 y.f2) ∧ w'.cell? ⟨b3, 3, none⟩ = some (.int .i64 y.f3) ∧ w'.cell? ⟨b3, 4, none⟩ = some (.int .i64 y.f4) ∧ w'.cell? ⟨b3, 5, none⟩ = some (.int .u64 y.f5)) (ds := [8, 11]) #[false, false, false, false, false, false, false, false, false, false, false, false] (by kernel_rfl) rfl rfl ⟨h0, g0, g1, g2, g3, g4, g5⟩ (fun hHeld => ?_)
  refine pure_ (i := 0) (N := some 95) (v := ?_) (a' := ?_) #[true, false, false, false, false, false, false, false, false, false, false, false] rfl rfl (by kernel_rfl) (fun _ _ _ h => h) (Or.inl ⟨by rfl, ?_⟩) ?_ ?_
  rotate_left
  · intro w'
    go_simp
    with_reducible rfl
  rotate_left
  · simp only [Act.put, List.setIfInBounds_toArray, List.set_cons_zero, List.set_cons_succ, i64_w, i32_w]
    rfl
  refine pure_ (i := 1) (N := some 96) (v := ?_) (a' := ?_) #[true, true, false, false, false, false, false, false, false, false, false, false] rfl rfl (by kernel_rfl) (fun _ _ _ h => h) (Or.inl ⟨by rfl, ?_⟩) ?_ ?_
  rotate_left
  · intro w'
    go_simp
    with_reducible rfl
  rotate_left
  · simp only [Act.put, List.setIfInBounds_toArray, List.set_cons_zero, List.set_cons_succ, i64_w, i32_w]
    rfl
  refine pure_ (i := 2) (N := some 97) (v := ?_) (a' := ?_) #[true, true, true, false, false, false, false, false, false, false, false, false] rfl rfl (by kernel_rfl) (fun _ _ _ h => h) (Or.inl ⟨by rfl, ?_⟩) ?_ ?_
  rotate_left
  · intro w'
    go_simp
    with_reducible rfl
  rotate_left
  · simp only [Act.put, List.setIfInBounds_toArray, List.set_cons_zero, List.set_cons_succ, i64_w, i32_w]
    rfl
  refine pure_ (i := 3) (N := some 98) (v := ?_) (a' := ?_) #[true, true, true, true, false, false, false, false, false, false, false, false] rfl rfl (by kernel_rfl) (fun _ _ _ h => h) (Or.inl ⟨by rfl, ?_⟩) ?_ ?_
  rotate_left
  · intro w'
    go_simp
    with_reducible rfl
  rotate_left
  · simp only [Act.put, List.setIfInBounds_toArray, List.set_cons_zero, List.set_cons_succ, i64_w, i32_w]
    rfl
  refine pure_ (i := 5) (N := some 100) (v := ?_) (a' := ?_) #[true, true, true, true, false, true, false, false, false, false, false, false] rfl rfl (by kernel_rfl) (fun _ _ _ h => h) (Or.inl ⟨by rfl, ?_⟩) ?_ ?_
  rotate_left
  · intro w'
    go_simp
    with_reducible rfl
  rotate_left
  · simp only [Act.put, List.setIfInBounds_toArray, List.set_cons_zero, List.set_cons_succ, i64_w, i32_w]
    rfl
  refine take_ (i := 4) (N := some 99) (v := ?_) (a' := ?_) #[true, true, true, true, true, true, false, false, false, false, false, false] rfl rfl (by kernel_rfl) (fun _ _ _ h => h) (Or.inl ⟨by rfl, ?_⟩) hHeld ?_ ?_
  rotate_left
  · rintro w' ⟨s0, s1, s2, s3, s4, s5, s6⟩
    go_simp
    with_reducible rfl
  rotate_left
  · simp only [Act.put, List.setIfInBounds_toArray, List.set_cons_zero, List.set_cons_succ, i64_w, i32_w]
    rfl
  refine take_ (i := 6) (N := some 101) (v := ?_) (a' := ?_) #[true, true, true, true, true, true, true, false, false, false, false, false] rfl rfl (by kernel_rfl) (fun _ _ _ h => h) (Or.inl ⟨by rfl, ?_⟩) hHeld ?_ ?_
  rotate_left
  · rintro w' ⟨s0, s1, s2, s3, s4, s5, s6⟩
    go_simp
    with_reducible rfl
  rotate_left
  · simp only [Act.put, List.setIfInBounds_toArray, List.set_cons_zero, List.set_cons_succ, i64_w, i32_w]
    rfl
  refine one_ (i := 7) (N := some 102) #[true, true, true, true, true, true, true, true, false, false, false, false] rfl rfl (by kernel_rfl) (by decide) (fun K hK => ?_)
  refine value_ (w1 := ?_) (v := ?_) (by rfl) rfl ?_ ?_
  rotate_left 2
  · go_simp
    constructor
    · rfl
    · rfl
  refine hK.out _ _ ⟨cell_kept (fun k hk => Below.heap_alloc wr.drew _ k hk) h0, cell_kept (fun k hk => Below.heap_alloc wr.drew _ k hk) g0, cell_kept (fun k hk => Below.heap_alloc wr.drew _ k hk) g1, cell_kept (fun k hk => Below.heap_alloc wr.drew _ k hk) g2, cell_kept (fun k hk => Below.heap_alloc wr.drew _ k hk) g3, cell_kept (fun k hk => Below.heap_alloc wr.drew _ k hk) g4, cell_kept (fun k hk => Below.heap_alloc wr.drew _ k hk) g5⟩ (fun hHeld => ?_)
  clear hK K
  refine norm_ (a' := ?_) ?_ ?_
  rotate_left
  · show Act.put _ (some 102) _ = _
    simp only [Act.put, List.setIfInBounds_toArray, List.set_cons_zero, List.set_cons_succ, i64_w, i32_w]
    rfl
  refine last_ (i := 8) (N := some 103) #[true, true, true, true, true, true, true, true, true, false, false, false] rfl rfl (by kernel_rfl) (by decide) (fun K hK => ?_)
  refine goes_ Try.func76 (by kernel_rfl) rfl #[.slice A m c, .int .i64 (k : Int), .slice (some ⟨wr.heap.size, 0, none⟩) 1 1] (by rfl) rfl rfl (by simp only [List.map_toArray, List.map_cons, List.map_nil]; rfl) ?_
  with_reducible refine (HP.out).mono ?_
  rintro e w2 ⟨A', c', rfl, hR⟩
  refine ⟨_, rfl, ?_⟩
  obtain ⟨⟨vz, z0⟩, fz0⟩ := HK.out _ _ _ hR
  have HR := Aside0.mk hR
  clear hR
  refine hK.out _ _ ?_
  clear hK K
  refine norm_ (a' := ?_) ?_ ?_
  rotate_left
  · show Act.put _ (some 103) _ = _
    simp only [Act.put, List.setIfInBounds_toArray, List.set_cons_zero, List.set_cons_succ, i64_w, i32_w]
    rfl
  refine pure_ (i := 9) (N := some 104) (v := ?_) (a' := ?_) #[true, true, true, true, true, true, true, true, true, true, false, false] rfl rfl (by kernel_rfl) (fun _ _ _ h => h) (Or.inl ⟨by rfl, ?_⟩) ?_ ?_
  rotate_left
  · intro w'
    go_simp
    with_reducible rfl
  rotate_left
  · simp only [Act.put, List.setIfInBounds_toArray, List.set_cons_zero, List.set_cons_succ, i64_w, i32_w]
    rfl
  refine pure_ (i := 10) (N := some 105) (v := ?_) (a' := ?_) #[true, true, true, true, true, true, true, true, true, true, true, false] rfl rfl (by kernel_rfl) (fun _ _ _ h => h) (Or.inl ⟨by rfl, ?_⟩) ?_ ?_
  rotate_left
  · intro w'
    go_simp
    with_reducible rfl
  rotate_left
  · simp only [Act.put, List.setIfInBounds_toArray, List.set_cons_zero, List.set_cons_succ, i64_w, i32_w]
    rfl
  refine last_ (i := 11) (N := none) #[true, true, true, true, true, true, true, true, true, true, true, true] rfl rfl (by kernel_rfl) (by decide) (fun K hK => ?_)
  refine skip_ (w1 := ?_) (by rfl) rfl ?_ ?_
  rotate_left
  · go_simp
    rfl
  refine hK.out _ _ ?_
  clear hK K
  refine done_ (by kernel_rfl) ?_
  refine onlyN_mk ?_
  exact hK _ _ _ _ _ _ _ _ _ _ _ _ _ _ HR.out
def seqAt (id : Nat) : Code → Option Code
  | .seq (.region i ops dr) b => if i == id then some (.seq (.region i ops dr) b) else seqAt id b
  | .seq a b => (seqAt id a).orElse fun _ => seqAt id b
  | .cond _ a b => (seqAt id a).orElse fun _ => seqAt id b
  | .block _ a => seqAt id a
  | .loop a => seqAt id a
  | .scope a => seqAt id a
  | _ => none
def goodB (o : SOr) : Bool := (order_Good.f o.f0 o.f1 o.f2 o.f3 o.f4 o.f5).getD false
theorem goodB_some (o : SOr) : order_Good.f o.f0 o.f1 o.f2 o.f3 o.f4 o.f5 = some (goodB o) := by
  unfold goodB order_Good.f
  repeat' split
  all_goals rfl
def aheadB (o x : SOr) : Bool := (order_Ahead.f 4 o.f0 o.f1 o.f2 o.f3 o.f4 o.f5 x.f0 x.f1 x.f2 x.f3 x.f4 x.f5).getD false
theorem or_int_two (a b : Int) : cmp_Or_int.f 3 [a, b] = some (if a = 0 then (if b = 0 then 0 else b) else a) := by
  have e : rd [a, b] 0 = a := rfl
  have e1 : rd [a, b] 1 = b := rfl
  have w1 : wrap64 (0 + 1) = 1 := by decide +kernel
  have w2 : wrap64 (1 + 1) = 2 := by decide +kernel
  simp only [cmp_Or_int.f, cmp_Or_int.l0, List.length_cons, List.length_nil, e, e1, w1, w2]
  by_cases h : a = 0
  · by_cases h' : b = 0
    · simp [h, h', e1, w2]
    · simp [h, h', e1]
  · simp [h]
theorem compare_u (a b : Int) : ∃ c, cmp_Compare_uint64.f a b = some c := by
  simp only [cmp_Compare_uint64.f, cmp_isNaN_uint64.f, Option.bind_some]
  repeat' split
  all_goals exact ⟨_, rfl⟩
theorem aheadB_some (o x : SOr) : order_Ahead.f 4 o.f0 o.f1 o.f2 o.f3 o.f4 o.f5 x.f0 x.f1 x.f2 x.f3 x.f4 x.f5 = some (aheadB o x) := by
  obtain ⟨r, hr⟩ : ∃ r, order_Ahead.f 4 o.f0 o.f1 o.f2 o.f3 o.f4 o.f5 x.f0 x.f1 x.f2 x.f3 x.f4 x.f5 = some r := by
    obtain ⟨c, hc⟩ := compare_u o.f5 x.f5
    obtain ⟨d, hd⟩ := compare_u o.f0 x.f0
    simp only [order_Ahead.f, order_Ahead.j0, order_Better.f, hc, hd, Option.bind_some, or_int_two]
    repeat' split
    all_goals exact ⟨_, rfl⟩
  rw [hr, aheadB, hr]; rfl
set_option maxHeartbeats 8000000 in
set_option maxRecDepth 100000 in
theorem ladder_add1 (W : World) (x o : SOr) (b : Nat) (hb : W.heap[b]? = some (.cells #[.int .u64 o.f0, .int .i64 o.f1, .int .i64 o.f2, .int .i64 o.f3, .int .i64 o.f4, .int .u64 o.f5] 33 (0, 0))) :
    Calls Try.prog 75 #[.agg #[.int .u64 x.f0, .int .i64 x.f1, .int .i64 x.f2, .int .i64 x.f3, .int .i64 x.f4, .int .u64 x.f5], .pointer (some ⟨b, 0, none⟩)] W fun e w' => e = .returned (.bool (aheadB o x)) ∧ Below W.heap.size W w' := by
  have hu := Try.underlying33
  have S0 := (St.start1 (W := W) (F0 := fun k => k = b) Pt.loc ⟨rfl, hb⟩)
  have B0 := St.start W (fun _ => False)
  have HA := Aside0.mk (fun w => order_Ahead.calls 4 _ _ _ _ _ _ _ _ _ _ _ _ _ w (aheadB_some o x))
  have z0 : W.cell? ⟨b, 0, none⟩ = some (.int .u64 o.f0) := (blk_cell (S0.blk 0 rfl) 0).trans rfl; have z1 : W.cell? ⟨b, 1, none⟩ = some (.int .i64 o.f1) := (blk_cell (S0.blk 0 rfl) 1).trans rfl; have z2 : W.cell? ⟨b, 2, none⟩ = some (.int .i64 o.f2) := (blk_cell (S0.blk 0 rfl) 2).trans rfl; have z3 : W.cell? ⟨b, 3, none⟩ = some (.int .i64 o.f3) := (blk_cell (S0.blk 0 rfl) 3).trans rfl; have z4 : W.cell? ⟨b, 4, none⟩ = some (.int .i64 o.f4) := (blk_cell (S0.blk 0 rfl) 4).trans rfl; have z5 : W.cell? ⟨b, 5, none⟩ = some (.int .u64 o.f5) := (blk_cell (S0.blk 0 rfl) 5).trans rfl
  have hlt : b < W.heap.size := blk_lt hb
  clear hb
  go_enter Try.func75, Try.ntmps75
  go_wp2_with (first | (go_at_call 17; refine (HA.out _).mono ?_; rintro e w1 ⟨rfl, hbb⟩; have B1 := (St.alloc B0).call hbb; clear hbb))
  go_ret
  exact ⟨rfl, B1.below⟩
def kQ (o : SOr) (q : List SOr) : Nat := q.findIdx (aheadB o)
def insQ (o : SOr) (q : List SOr) : List SOr := q.take (kQ o q) ++ o :: q.drop (kQ o q)
theorem kQ_eq (o : SOr) (q : List SOr) : ((kQ o q : Nat) : Int) = if ixQ (aheadB o) q < 0 then (q.length : Int) else ixQ (aheadB o) q := by
  unfold kQ ixQ
  cases h : q.findIdx? (aheadB o) with
  | none =>
    have := List.findIdx_eq_length.2 (List.findIdx?_eq_none_iff.1 h)
    rw [this]
    rfl
  | some k =>
    have h1 := (List.findIdx?_eq_some_iff_findIdx_eq.1 h).2
    rw [h1]
    show (k : Int) = if (k : Int) < 0 then (q.length : Int) else (k : Int)
    rw [if_neg (by omega)]
theorem kQ_le (o : SOr) (q : List SOr) : kQ o q ≤ q.length := List.findIdx_le_length
theorem perm4 {A B C D : Part} {R : List Part} : (A :: B :: C :: D :: R).Perm (D :: C :: B :: A :: R) :=
  (List.Perm.cons A (perm3)).trans ((List.Perm.swap D A _).trans (List.Perm.cons D ((List.Perm.swap C A _).trans (List.Perm.cons C (List.Perm.swap B A R)))))
theorem St.before {w w1 w' : World} {F : Nat → Prop} {l : List Part} (hb : Below w.heap.size w w1) (h : St w1 F w' l) : St w F w' l :=
  ⟨(Fr.of_below hb).trans h.1 (fun _ hk => .inl hk), h.2.mono (fun _ hk => hk.imp (fun q => q) (fun q => Nat.le_trans hb.size q))⟩
theorem ocs_ins (o : SOr) (q : List SOr) : (ocs q).take (kQ o q * 6) ++ oc o ++ (ocs q).drop (kQ o q * 6) = ocs (insQ o q) := by
  rw [ocs_take q _ (kQ_le o q), ocs_drop q _ (kQ_le o q), insQ, ocs_append, List.append_assoc]
  rfl
theorem insQ_len (o : SOr) (q : List SOr) : (insQ o q).length = q.length + 1 := by
  have := kQ_le o q
  rw [insQ, List.length_append, List.length_cons, List.length_take, List.length_drop]
  omega
set_option maxHeartbeats 16000000 in
set_option maxRecDepth 100000 in
theorem add_tail {Q : Exit → Act → World → Prop} {cd : Code} (hcd : seqAt 14 ((Try.f36.body).getD .skip) = some cd) {W w : World} {F0 : Nat → Prop} {R : List Part} {dfs : List Deferred} {g b3 m s gb cap n : Nat} {o : SOr} {vq : Value} {p : Int} {q : List SOr} {ea eb : List (Value × RowM)} {cs : Array Value}
    (S : St W F0 w (Pt b3 #[.int .u64 o.f0, .int .i64 o.f1, .int .i64 o.f2, .int .i64 o.f3, .int .i64 o.f4, .int .u64 o.f5] 33 :: QuP vq q :: OwP 115 2 (.slice (some ⟨gb, 0, none⟩) n cap) n (rcs (ea ++ (vq, (p, q)) :: eb)) :: Pt g cs 108 :: R))
    (c1 : cs[s - 1]? = some (.slice (some ⟨gb, 0, none⟩) n cap)) (c3 : cs[3]? = some (.int .i64 m)) (hn : ea.length < n) (hn2 : n ≤ 2000) (hq : q.length ≤ 1000) (hm : m ≤ 1000)
    {T1 T2 T4 T5 T6 T7 T8 T11 T12 T13 T14 T15 T16 T17 T18 T19 T20 T21 T22 T23 T24 T25 T26 T27 T28 T29 T30 T31 T32 T33 T34 T35 T36 T37 T38 T39 T40 T41 T42 T43 T44 T45 T46 T47 T48 T49 T50 T51 T52 T53 T54 T55 T56 T57 T58 T59 T60 T61 T62 T63 T64 T65 T66 T67 T68 T69 T70 T71 T72 T73 T74 T75 T76 T77 T78 T79 T80 T81 T82 T83 T84 T85 T86 T87 T88 T89 T90 T91 T92 T93 T94 T95 T96 T97 T98 T99 T100 T101 T102 T103 T104 T105 T106 T107 T108 T109 T110 T111 T112 : Value}
    (hK : ∀ (u11 u12 u77 u78 u79 u80 u81 u82 u83 u84 u85 u86 u87 u88 u89 u90 u91 u92 u93 u94 u95 u96 u97 u98 u99 u100 u101 u102 u103 u104 u105 u106 u107 u108 u109 u110 u111 u112 : Value) (w' : World) (v' : Value), St W F0 w' (Pt b3 #[.int .u64 o.f0, .int .i64 o.f1, .int .i64 o.f2, .int .i64 o.f3, .int .i64 o.f4, .int .u64 o.f5] 33 :: QuP v' (insQ o q) :: OwP 115 2 (.slice (some ⟨gb, 0, none⟩) n cap) n (rcs (ea ++ (v', (p, insQ o q)) :: eb)) :: Pt g (cs.setIfInBounds 3 (.int .i64 ((m + 1 : Nat) : Int))) 108 :: R) → Q .ret { tmps := #[.pointer (some ⟨g, 0, none⟩), T1, T2, .pointer (some ⟨b3, 0, none⟩), .int .i64 0, T5, T6, T7, T8, .pointer (some ⟨g, s - 1, none⟩), .int .i64 (ea.length : Int), u11, u12, T13, T14, T15, T16, T17, T18, T19, T20, T21, T22, T23, T24, T25, T26, T27, T28, T29, T30, T31, T32, T33, T34, T35, T36, T37, T38, T39, T40, T41, T42, T43, T44, T45, T46, T47, T48, T49, T50, T51, T52, T53, T54, T55, T56, T57, T58, T59, T60, T61, T62, T63, T64, T65, T66, T67, T68, T69, T70, T71, T72, T73, T74, T75, T76, u77, u78, u79, u80, u81, u82, u83, u84, u85, u86, u87, u88, u89, u90, u91, u92, u93, u94, u95, u96, u97, u98, u99, u100, u101, u102, u103, u104, u105, u106, u107, u108, u109, u110, u111, u112], defers := dfs } w') :
    cd.wp Try.prog Q { tmps := #[.pointer (some ⟨g, 0, none⟩), T1, T2, .pointer (some ⟨b3, 0, none⟩), T4, T5, T6, T7, T8, .pointer (some ⟨g, s - 1, none⟩), .int .i64 (ea.length : Int), T11, T12, T13, T14, T15, T16, T17, T18, T19, T20, T21, T22, T23, T24, T25, T26, T27, T28, T29, T30, T31, T32, T33, T34, T35, T36, T37, T38, T39, T40, T41, T42, T43, T44, T45, T46, T47, T48, T49, T50, T51, T52, T53, T54, T55, T56, T57, T58, T59, T60, T61, T62, T63, T64, T65, T66, T67, T68, T69, T70, T71, T72, T73, T74, T75, T76, T77, T78, T79, T80, T81, T82, T83, T84, T85, T86, T87, T88, T89, T90, T91, T92, T93, T94, T95, T96, T97, T98, T99, T100, T101, T102, T103, T104, T105, T106, T107, T108, T109, T110, T111, T112], defers := dfs } w := by
  have hcd' := Option.some.inj (hcd.symm.trans (show seqAt 14 ((Try.f36.body).getD .skip) = some _ from rfl))
  subst hcd'
  clear hcd
  have mixed : Try.prog.follows .mixedOrders = true := by kernel_rfl
  obtain ⟨ad, had⟩ : ∃ ad : Addr, ad = ⟨gb, 0, none⟩ := ⟨_, rfl⟩
  obtain ⟨FQ, hQ⟩ := S.get 1 rfl
  obtain ⟨Aq, cq, hvq, _⟩ := hQ.reads
  subst hvq
  have HAD := Aside0.mk had
  have HK := Aside0.mk hK
  have HCS := Aside0.mk (And.intro c1 c3)
  have HSM := Aside0.mk (And.intro hn (And.intro hn2 (And.intro hq hm)))
  obtain ⟨FO, hO⟩ := S.get 2 rfl
  have y1 := (rowRead hO (by omega)).2
  have y0 : w.cell? ⟨g, s - 1, none⟩ = some (.slice (some ad) n cap) := by rw [had]; exact (blk_cell (S.blk 3 rfl) (s - 1)).trans c1
  have haddr : (⟨(ad.add (ea.length * 2)).block, (ad.add (ea.length * 2)).off + 1, none⟩ : Addr) = ⟨gb, ea.length * 2 + 1, none⟩ := by rw [had, Addr.add_lit, Nat.zero_add]
  have HAR := Aside0.mk haddr
  rw [← haddr] at y1
  have hi0 : (0 : Int) ≤ (ea.length : Int) := Int.natCast_nonneg _
  have hi1 : (ea.length : Int) < (n : Int) := by omega
  obtain ⟨kz, hkz⟩ : ∃ kz, ixQ (aheadB o) q = kz := ⟨_, rfl⟩
  have hkq := kQ_eq o q
  rw [hkz] at hkq
  have HKZ := Aside0.mk (And.intro hkz (And.intro hkq (kQ_le o q)))
  have HB3 := Aside0.mk (S.blk 0 rfl)
  have HQ := Aside0.mk hQ
  have HIX : Aside0 (Calls Try.prog 74 #[.slice Aq q.length cq, .func (.func 75) #[] #[.pointer (some ⟨b3, 0, none⟩)]] w fun e w' => e = .returned (.int .i64 kz) ∧ Below w.heap.size w w') := ⟨by
    rw [← hkz]
    exact ixq_add hQ (aheadB o) (.pointer (some ⟨b3, 0, none⟩)) fun W' x hb => ladder_add1 W' x o b3 ((hb.block _ (blk_lt (S.blk 0 rfl))).trans (S.blk 0 rfl))⟩
  clear hK had hn hn2 hq hm c1 c3 hO hQ haddr hkz hkq
  by_cases hneg : kz < 0
  · have hd : decide (kz < 0) = true := decide_eq_true hneg
    have hkk : ((kQ o q : Nat) : Int) = (q.length : Int) := by have := HKZ.out.2.1; rw [if_pos hneg] at this; exact this
    clear hneg
    go_upto_region 18 with (go_at_call 74; refine HIX.out.mono ?_; rintro e w1 ⟨rfl, hb⟩; have S1 := S.call hb; clear hb S y0 y1; (have y1 : w1.cell? ⟨(ad.add (ea.length * 2)).block, (ad.add (ea.length * 2)).off + 1, none⟩ = some (.slice Aq q.length cq) := by (rw [HAR.out]; obtain ⟨FO, hO⟩ := S1.get 2 rfl; exact (rowRead hO (by have := HSM.out.1; omega)).2)))
    rw [← hkk]
    clear hd hkk
    have g0 : w1.cell? ⟨b3, 0, none⟩ = some (.int .u64 o.f0) := (blk_cell (S1.blk 0 rfl) 0).trans rfl; have g1 : w1.cell? ⟨b3, 1, none⟩ = some (.int .i64 o.f1) := (blk_cell (S1.blk 0 rfl) 1).trans rfl; have g2 : w1.cell? ⟨b3, 2, none⟩ = some (.int .i64 o.f2) := (blk_cell (S1.blk 0 rfl) 2).trans rfl; have g3 : w1.cell? ⟨b3, 3, none⟩ = some (.int .i64 o.f3) := (blk_cell (S1.blk 0 rfl) 3).trans rfl; have g4 : w1.cell? ⟨b3, 4, none⟩ = some (.int .i64 o.f4) := (blk_cell (S1.blk 0 rfl) 4).trans rfl; have g5 : w1.cell? ⟨b3, 5, none⟩ = some (.int .u64 o.f5) := (blk_cell (S1.blk 0 rfl) 5).trans rfl
    refine ad18 (n' := q.length + 1) (y := o) (R := fun w2 A' c' => St W F0 w2 (QuP (.slice A' (q.length + 1) c') (insQ o q) :: Pt b3 #[.int .u64 o.f0, .int .i64 o.f1, .int .i64 o.f2, .int .i64 o.f3, .int .i64 o.f4, .int .u64 o.f5] 33 :: OwP 115 2 (.slice (some ⟨gb, 0, none⟩) n cap) n (rcs (ea ++ (.slice Aq q.length cq, (p, q)) :: eb)) :: Pt g cs 108 :: R)) rfl y1 g0 g1 g2 g3 g4 g5 ⟨?hp⟩ ⟨?hk⟩ ?_
    case hp =>
      obtain ⟨F, hA, hF, hj⟩ := (S1.front 1 rfl).join
      have hb : Below w1.heap.size w1 (w1.alloc (.cells #[.int .u64 o.f0, .int .i64 o.f1, .int .i64 o.f2, .int .i64 o.f3, .int .i64 o.f4, .int .u64 o.f5] 33)).drew := below_drew (below_alloc (Below.refl _ _) _)
      have hA' : QuP (.slice Aq q.length cq) q (w1.alloc (.cells #[.int .u64 o.f0, .int .i64 o.f1, .int .i64 o.f2, .int .i64 o.f3, .int .i64 o.f4, .int .u64 o.f5] 33)).drew F := QuP.loc.step hA hb.size (fun k _ hk => hb.block k hk)
      refine (ins_ord _ F _ q.length (kQ o q) w1.heap.size (ocs q) (oc o) hA' HKZ.out.2.2 (by have := HSM.out.2.2.1; omega) (blk_new w1 _) rfl (fun z => by have := hF _ z; omega) oc_one).mono ?_
      rintro e w2 ⟨v', rfl, k2⟩
      have S3 := hj w2 _ (k2.before hb)
      obtain ⟨Fv, hv⟩ := S3.get 0 rfl
      obtain ⟨A', c', rfl⟩ := hv.slice
      refine ⟨A', c', rfl, ?_⟩
      rw [ocs_ins] at S3
      unfold QuP
      rw [insQ_len]
      exact S3
    case hk =>
      intro w2 A' c' hR
      obtain ⟨FO, hO⟩ := hR.get 2 rfl
      rw [HAR.out]
      exact ⟨⟨_, (rowRead hO (by have := HSM.out.1; omega)).2⟩, hO.frz _⟩
    intros
    rename_i w2 A' c' hR
    rw [HAR.out]
    have S4 := (hR.front 2 rfl).putOwn (j := ea.length * 2 + 1) (u := .slice A' (q.length + 1) c') (by have := HSM.out.1; omega) rfl
    rw [rcs_set ea eb p q (insQ o q)] at S4
    generalize hw3 : World.setCell _ _ _ = w3 at S4 ⊢
    clear hw3 hR g0 g1 g2 g3 g4 g5 y1 S1
    have z3 : w3.cell? ⟨g, 3, none⟩ = some (.int .i64 m) := (blk_cell (S4.blk 3 rfl) 3).trans HCS.out.2
    have fz3 : w3.frozen? ⟨g, 3, none⟩ = false := blk_frozen (S4.blk 3 rfl) 3
    have hwm : wrap64 ((m : Int) + 1) = ((m + 1 : Nat) : Int) := by have := HSM.out.2.2.2; unfold wrap64; omega
    go_wp2
    rw [show ((m : Int) + 1) = ((m + 1 : Nat) : Int) by omega]
    exact HK.out _ _ _ _ _ _ _ _ _ _ _ _ _ _ _ _ _ _ _ _ _ _ _ _ _ _ _ _ _ _ _ _ _ _ _ _ _ _ _ _ (((S4.front 3 rfl).put 3 (.int .i64 ((m + 1 : Nat) : Int)) rfl).perm perm4)
  · have hd : decide (kz < 0) = false := decide_eq_false hneg
    have hkk : ((kQ o q : Nat) : Int) = kz := by have := HKZ.out.2.1; rw [if_neg hneg] at this; exact this
    clear hneg
    go_upto_region 18 with (go_at_call 74; refine HIX.out.mono ?_; rintro e w1 ⟨rfl, hb⟩; have S1 := S.call hb; clear hb S y0 y1; (have y1 : w1.cell? ⟨(ad.add (ea.length * 2)).block, (ad.add (ea.length * 2)).off + 1, none⟩ = some (.slice Aq q.length cq) := by (rw [HAR.out]; obtain ⟨FO, hO⟩ := S1.get 2 rfl; exact (rowRead hO (by have := HSM.out.1; omega)).2)))
    subst hkk
    clear hd
    have g0 : w1.cell? ⟨b3, 0, none⟩ = some (.int .u64 o.f0) := (blk_cell (S1.blk 0 rfl) 0).trans rfl; have g1 : w1.cell? ⟨b3, 1, none⟩ = some (.int .i64 o.f1) := (blk_cell (S1.blk 0 rfl) 1).trans rfl; have g2 : w1.cell? ⟨b3, 2, none⟩ = some (.int .i64 o.f2) := (blk_cell (S1.blk 0 rfl) 2).trans rfl; have g3 : w1.cell? ⟨b3, 3, none⟩ = some (.int .i64 o.f3) := (blk_cell (S1.blk 0 rfl) 3).trans rfl; have g4 : w1.cell? ⟨b3, 4, none⟩ = some (.int .i64 o.f4) := (blk_cell (S1.blk 0 rfl) 4).trans rfl; have g5 : w1.cell? ⟨b3, 5, none⟩ = some (.int .u64 o.f5) := (blk_cell (S1.blk 0 rfl) 5).trans rfl
    refine ad18 (n' := q.length + 1) (y := o) (R := fun w2 A' c' => St W F0 w2 (QuP (.slice A' (q.length + 1) c') (insQ o q) :: Pt b3 #[.int .u64 o.f0, .int .i64 o.f1, .int .i64 o.f2, .int .i64 o.f3, .int .i64 o.f4, .int .u64 o.f5] 33 :: OwP 115 2 (.slice (some ⟨gb, 0, none⟩) n cap) n (rcs (ea ++ (.slice Aq q.length cq, (p, q)) :: eb)) :: Pt g cs 108 :: R)) rfl y1 g0 g1 g2 g3 g4 g5 ⟨?hp⟩ ⟨?hk⟩ ?_
    case hp =>
      obtain ⟨F, hA, hF, hj⟩ := (S1.front 1 rfl).join
      have hb : Below w1.heap.size w1 (w1.alloc (.cells #[.int .u64 o.f0, .int .i64 o.f1, .int .i64 o.f2, .int .i64 o.f3, .int .i64 o.f4, .int .u64 o.f5] 33)).drew := below_drew (below_alloc (Below.refl _ _) _)
      have hA' : QuP (.slice Aq q.length cq) q (w1.alloc (.cells #[.int .u64 o.f0, .int .i64 o.f1, .int .i64 o.f2, .int .i64 o.f3, .int .i64 o.f4, .int .u64 o.f5] 33)).drew F := QuP.loc.step hA hb.size (fun k _ hk => hb.block k hk)
      refine (ins_ord _ F _ q.length (kQ o q) w1.heap.size (ocs q) (oc o) hA' HKZ.out.2.2 (by have := HSM.out.2.2.1; omega) (blk_new w1 _) rfl (fun z => by have := hF _ z; omega) oc_one).mono ?_
      rintro e w2 ⟨v', rfl, k2⟩
      have S3 := hj w2 _ (k2.before hb)
      obtain ⟨Fv, hv⟩ := S3.get 0 rfl
      obtain ⟨A', c', rfl⟩ := hv.slice
      refine ⟨A', c', rfl, ?_⟩
      rw [ocs_ins] at S3
      unfold QuP
      rw [insQ_len]
      exact S3
    case hk =>
      intro w2 A' c' hR
      obtain ⟨FO, hO⟩ := hR.get 2 rfl
      rw [HAR.out]
      exact ⟨⟨_, (rowRead hO (by have := HSM.out.1; omega)).2⟩, hO.frz _⟩
    intros
    rename_i w2 A' c' hR
    rw [HAR.out]
    have S4 := (hR.front 2 rfl).putOwn (j := ea.length * 2 + 1) (u := .slice A' (q.length + 1) c') (by have := HSM.out.1; omega) rfl
    rw [rcs_set ea eb p q (insQ o q)] at S4
    generalize hw3 : World.setCell _ _ _ = w3 at S4 ⊢
    clear hw3 hR g0 g1 g2 g3 g4 g5 y1 S1
    have z3 : w3.cell? ⟨g, 3, none⟩ = some (.int .i64 m) := (blk_cell (S4.blk 3 rfl) 3).trans HCS.out.2
    have fz3 : w3.frozen? ⟨g, 3, none⟩ = false := blk_frozen (S4.blk 3 rfl) 3
    have hwm : wrap64 ((m : Int) + 1) = ((m + 1 : Nat) : Int) := by have := HSM.out.2.2.2; unfold wrap64; omega
    go_wp2
    rw [show ((m : Int) + 1) = ((m + 1 : Nat) : Int) by omega]
    exact HK.out _ _ _ _ _ _ _ _ _ _ _ _ _ _ _ _ _ _ _ _ _ _ _ _ _ _ _ _ _ _ _ _ _ _ _ _ _ _ _ _ (((S4.front 3 rfl).put 3 (.int .i64 ((m + 1 : Nat) : Int)) rfl).perm perm4)
theorem perm3b {A B C : Part} {R : List Part} : (A :: B :: C :: R).Perm (C :: A :: B :: R) := (List.Perm.cons A (List.Perm.swap C B R)).trans (List.Perm.swap C A _)
def addI (l : List RowM) (o : SOr) : Nat := l.findIdx (fun r => !bet o.f2 r.1 o.f3)
def addR (l : List RowM) (o : SOr) : List RowM := match l[addI l o]? with
  | some r => if r.1 = o.f3 then l.set (addI l o) (r.1, insQ o r.2) else l.take (addI l o) ++ (o.f3, [o]) :: l.drop (addI l o)
  | none => l.take (addI l o) ++ (o.f3, [o]) :: l.drop (addI l o)
def addE (rs : Nat → List RowM) (m : Nat) (o : SOr) : Int := if goodB o = false then 2 else if (fndM rs o.f0).isSome = true then 52 else if 64 ≤ m then 50 else 0
def addM (rs : Nat → List RowM) (m : Nat) (o : SOr) : Nat → List RowM := if addE rs m o = 0 then updS rs o.f2.toNat (addR (rs o.f2.toNat) o) else rs
def addN (rs : Nat → List RowM) (m : Nat) (o : SOr) : Nat := if addE rs m o = 0 then m + 1 else m
theorem goodB_side {o : SOr} (h : goodB o = true) : o.f2 = 1 ∨ o.f2 = 2 := by
  have e := goodB_some o
  rw [h] at e
  unfold order_Good.f at e
  by_cases h1 : o.f2 = 1
  · exact .inl h1
  · by_cases h2 : o.f2 = 2
    · exact .inr h2
    · simp only [if_neg h1, if_neg h2] at e
      repeat' split at e
      all_goals (injection e with e; cases e)
theorem atN_map (s p : Int) (es : List (Value × RowM)) : atN s p es = (es.map Prod.snd).findIdx (fun r => !bet s r.1 p) := by
  rw [atN, List.findIdx_map]; rfl
theorem addR_new (es : List (Value × RowM)) (o : SOr) (h : ∀ r, (es.map Prod.snd)[addI (es.map Prod.snd) o]? = some r → r.1 ≠ o.f3) : addR (es.map Prod.snd) o = (es.take (addI (es.map Prod.snd) o) ++ ((.slice none 0 0 : Value), (o.f3, [o])) :: es.drop (addI (es.map Prod.snd) o)).map Prod.snd := by
  rw [List.map_append, List.map_cons, List.map_take, List.map_drop, addR]
  split
  · rename_i r e
    rw [if_neg (h r e)]
  · rfl
theorem addR_old (ea eb : List (Value × RowM)) (o : SOr) (v v' : Value) (q : List SOr) (h : addI ((ea ++ (v, (o.f3, q)) :: eb).map Prod.snd) o = ea.length) : addR ((ea ++ (v, (o.f3, q)) :: eb).map Prod.snd) o = (ea ++ (v', (o.f3, insQ o q)) :: eb).map Prod.snd := by
  have e : ((ea ++ (v, (o.f3, q)) :: eb).map Prod.snd)[ea.length]? = some (o.f3, q) := by simp
  rw [addR, h, e]
  simp only [if_true]
  rw [List.map_append, List.map_cons, List.map_append, List.map_cons, List.set_append_right (h := by simp)]
  simp
set_option maxHeartbeats 16000000 in
set_option maxRecDepth 100000 in
theorem book_add {W : World} {F : Nat → Prop} {g m : Nat} {rs : Nat → List RowM} (h : BookP g (rs 1) (rs 2) m W F) (few : Few rs m) (o : SOr) :
    Calls Try.prog 36 #[.pointer (some ⟨g, 0, none⟩), .agg #[.int .u64 o.f0, .int .i64 o.f1, .int .i64 o.f2, .int .i64 o.f3, .int .i64 o.f4, .int .u64 o.f5]] W fun e w' => e = .returned (.int .i64 (addE rs m o)) ∧ St W F w' [BookP g (addM rs m o 1) (addM rs m o 2) (addN rs m o)] := by
  have hu := Try.underlying33
  have S0 := St.start1 (F0 := F) BookP.loc h
  obtain ⟨A, c, hbf⟩ := BookP.rsS h
  have HF := Aside0.mk hbf
  have B0 := St.start W (fun _ => False)
  have HNO := Aside0.mk (fun W' (hb : Below W.heap.size W W') => (HF.out.below hb).none_)
  have HC := Aside0.mk (fun W' (hb : Below W.heap.size W W') => (HF.out.below hb).fnd o.f0)
  have HG := Aside0.mk (fun w => order_Good.calls _ _ _ _ _ _ (goodB o) w (goodB_some o))
  have HM3 : Aside0 (∀ W', Below W.heap.size W W' → W'.cell? ⟨g, 3, none⟩ = some (.int .i64 m)) := ⟨fun W' hb => (blk_cell (HF.out.below hb).hb 3).trans rfl⟩
  have hfe : fndM (rsB (rs 1) (rs 2)) o.f0 = fndM rs o.f0 := rfl
  rw [hfe] at HC
  clear hbf hfe
  by_cases hgd : goodB o = false
  · have e1 : addE rs m o = 2 := by rw [addE, if_pos hgd]
    have e2 : addM rs m o = rs := by rw [addM, e1]; rfl
    have e3 : addN rs m o = m := by rw [addN, e1]; rfl
    rw [e1, e2, e3]
    rw [hgd] at HG
    clear h few hgd e1 e2 e3
    obtain ⟨R, hR⟩ : ∃ R, fndV g (fndM rs o.f0) = R := ⟨_, rfl⟩
    cases hf : fndM rs o.f0 with
    | none => 
      rw [hf] at HC hR
      simp only [fndV] at HC hR
      clear hf hR
      go_enter Try.func36, Try.ntmps36
      go_wp2_with (first | ((with_reducible refine gate_dst (N := 3) rfl ?_); refine box_event ?hg (N := 3) ?hd (cs := #[.int .u64 o.f0, .int .i64 o.f1, .int .i64 o.f2, .int .i64 o.f3, .int .i64 o.f4, .int .u64 o.f5]) (t := 33) ?hr ?_; (case hd => rfl); (case hg => rfl); (case hr => first | (go_simp; done) | (go_simp; rfl)); intro b3 hg_ w1 hbB hb; have S1 := S0.box hg_ hb hbB; have B1 := B0.box hg_ hb hbB; clear S0 B0 hg_ hbB hb; have z0 : w1.cell? ⟨b3, 0, none⟩ = some (.int .u64 o.f0) := (blk_cell (S1.blk 0 rfl) 0).trans rfl; have z1 : w1.cell? ⟨b3, 1, none⟩ = some (.int .i64 o.f1) := (blk_cell (S1.blk 0 rfl) 1).trans rfl; have z2 : w1.cell? ⟨b3, 2, none⟩ = some (.int .i64 o.f2) := (blk_cell (S1.blk 0 rfl) 2).trans rfl; have z3 : w1.cell? ⟨b3, 3, none⟩ = some (.int .i64 o.f3) := (blk_cell (S1.blk 0 rfl) 3).trans rfl; have z4 : w1.cell? ⟨b3, 4, none⟩ = some (.int .i64 o.f4) := (blk_cell (S1.blk 0 rfl) 4).trans rfl; have z5 : w1.cell? ⟨b3, 5, none⟩ = some (.int .u64 o.f5) := (blk_cell (S1.blk 0 rfl) 5).trans rfl) | (go_at_call 69; refine (HNO.out _ B1.below).mono ?_; rintro e w2 ⟨rfl, rfl⟩) | (go_at_call 70; refine (HC.out _ B1.below).mono ?_; rintro e w3 ⟨rfl, hb⟩; have S2 := S1.call hb; have B2 := B1.call hb; clear hb S1 B1 z0 z1 z2 z3 z4 z5; have z0 : w3.cell? ⟨b3, 0, none⟩ = some (.int .u64 o.f0) := (blk_cell (S2.blk 0 rfl) 0).trans rfl; have z1 : w3.cell? ⟨b3, 1, none⟩ = some (.int .i64 o.f1) := (blk_cell (S2.blk 0 rfl) 1).trans rfl; have z2 : w3.cell? ⟨b3, 2, none⟩ = some (.int .i64 o.f2) := (blk_cell (S2.blk 0 rfl) 2).trans rfl; have z3 : w3.cell? ⟨b3, 3, none⟩ = some (.int .i64 o.f3) := (blk_cell (S2.blk 0 rfl) 3).trans rfl; have z4 : w3.cell? ⟨b3, 4, none⟩ = some (.int .i64 o.f4) := (blk_cell (S2.blk 0 rfl) 4).trans rfl; have z5 : w3.cell? ⟨b3, 5, none⟩ = some (.int .u64 o.f5) := (blk_cell (S2.blk 0 rfl) 5).trans rfl) | (go_at_call 20; refine (HG.out _).mono ?_; rintro e w4 ⟨rfl, hb⟩; have S3 := S2.call hb; have B3 := B2.call hb; clear hb S2 B2 z0 z1 z2 z3 z4 z5; have z3 := HM3.out _ B3.below))
      go_ret
      exact ⟨rfl, S3.drop⟩
    | some x => 
      rw [hf] at HC hR
      simp only [fndV] at HC hR
      clear hf hR
      go_enter Try.func36, Try.ntmps36
      go_wp2_with (first | ((with_reducible refine gate_dst (N := 3) rfl ?_); refine box_event ?hg (N := 3) ?hd (cs := #[.int .u64 o.f0, .int .i64 o.f1, .int .i64 o.f2, .int .i64 o.f3, .int .i64 o.f4, .int .u64 o.f5]) (t := 33) ?hr ?_; (case hd => rfl); (case hg => rfl); (case hr => first | (go_simp; done) | (go_simp; rfl)); intro b3 hg_ w1 hbB hb; have S1 := S0.box hg_ hb hbB; have B1 := B0.box hg_ hb hbB; clear S0 B0 hg_ hbB hb; have z0 : w1.cell? ⟨b3, 0, none⟩ = some (.int .u64 o.f0) := (blk_cell (S1.blk 0 rfl) 0).trans rfl; have z1 : w1.cell? ⟨b3, 1, none⟩ = some (.int .i64 o.f1) := (blk_cell (S1.blk 0 rfl) 1).trans rfl; have z2 : w1.cell? ⟨b3, 2, none⟩ = some (.int .i64 o.f2) := (blk_cell (S1.blk 0 rfl) 2).trans rfl; have z3 : w1.cell? ⟨b3, 3, none⟩ = some (.int .i64 o.f3) := (blk_cell (S1.blk 0 rfl) 3).trans rfl; have z4 : w1.cell? ⟨b3, 4, none⟩ = some (.int .i64 o.f4) := (blk_cell (S1.blk 0 rfl) 4).trans rfl; have z5 : w1.cell? ⟨b3, 5, none⟩ = some (.int .u64 o.f5) := (blk_cell (S1.blk 0 rfl) 5).trans rfl) | (go_at_call 69; refine (HNO.out _ B1.below).mono ?_; rintro e w2 ⟨rfl, rfl⟩) | (go_at_call 70; refine (HC.out _ B1.below).mono ?_; rintro e w3 ⟨rfl, hb⟩; have S2 := S1.call hb; have B2 := B1.call hb; clear hb S1 B1 z0 z1 z2 z3 z4 z5; have z0 : w3.cell? ⟨b3, 0, none⟩ = some (.int .u64 o.f0) := (blk_cell (S2.blk 0 rfl) 0).trans rfl; have z1 : w3.cell? ⟨b3, 1, none⟩ = some (.int .i64 o.f1) := (blk_cell (S2.blk 0 rfl) 1).trans rfl; have z2 : w3.cell? ⟨b3, 2, none⟩ = some (.int .i64 o.f2) := (blk_cell (S2.blk 0 rfl) 2).trans rfl; have z3 : w3.cell? ⟨b3, 3, none⟩ = some (.int .i64 o.f3) := (blk_cell (S2.blk 0 rfl) 3).trans rfl; have z4 : w3.cell? ⟨b3, 4, none⟩ = some (.int .i64 o.f4) := (blk_cell (S2.blk 0 rfl) 4).trans rfl; have z5 : w3.cell? ⟨b3, 5, none⟩ = some (.int .u64 o.f5) := (blk_cell (S2.blk 0 rfl) 5).trans rfl) | (go_at_call 20; refine (HG.out _).mono ?_; rintro e w4 ⟨rfl, hb⟩; have S3 := S2.call hb; have B3 := B2.call hb; clear hb S2 B2 z0 z1 z2 z3 z4 z5; have z3 := HM3.out _ B3.below))
      go_ret
      exact ⟨rfl, S3.drop⟩
  · have hgt : goodB o = true := by simpa using hgd
    rw [hgt] at HG
    cases hf : fndM rs o.f0 with
    | some x =>
      have e1 : addE rs m o = 52 := by rw [addE, if_neg hgd, hf]; rfl
      have e2 : addM rs m o = rs := by rw [addM, e1]; rfl
      have e3 : addN rs m o = m := by rw [addN, e1]; rfl
      rw [e1, e2, e3]
      clear h few hgd hgt e1 e2 e3
      obtain ⟨R, hR⟩ : ∃ R, fndV g (fndM rs o.f0) = R := ⟨_, rfl⟩
      rw [hf] at HC hR
      simp only [fndV] at HC hR
      clear hf hR
      go_enter Try.func36, Try.ntmps36
      go_wp2_with (first | ((with_reducible refine gate_dst (N := 3) rfl ?_); refine box_event ?hg (N := 3) ?hd (cs := #[.int .u64 o.f0, .int .i64 o.f1, .int .i64 o.f2, .int .i64 o.f3, .int .i64 o.f4, .int .u64 o.f5]) (t := 33) ?hr ?_; (case hd => rfl); (case hg => rfl); (case hr => first | (go_simp; done) | (go_simp; rfl)); intro b3 hg_ w1 hbB hb; have S1 := S0.box hg_ hb hbB; have B1 := B0.box hg_ hb hbB; clear S0 B0 hg_ hbB hb; have z0 : w1.cell? ⟨b3, 0, none⟩ = some (.int .u64 o.f0) := (blk_cell (S1.blk 0 rfl) 0).trans rfl; have z1 : w1.cell? ⟨b3, 1, none⟩ = some (.int .i64 o.f1) := (blk_cell (S1.blk 0 rfl) 1).trans rfl; have z2 : w1.cell? ⟨b3, 2, none⟩ = some (.int .i64 o.f2) := (blk_cell (S1.blk 0 rfl) 2).trans rfl; have z3 : w1.cell? ⟨b3, 3, none⟩ = some (.int .i64 o.f3) := (blk_cell (S1.blk 0 rfl) 3).trans rfl; have z4 : w1.cell? ⟨b3, 4, none⟩ = some (.int .i64 o.f4) := (blk_cell (S1.blk 0 rfl) 4).trans rfl; have z5 : w1.cell? ⟨b3, 5, none⟩ = some (.int .u64 o.f5) := (blk_cell (S1.blk 0 rfl) 5).trans rfl) | (go_at_call 69; refine (HNO.out _ B1.below).mono ?_; rintro e w2 ⟨rfl, rfl⟩) | (go_at_call 70; refine (HC.out _ B1.below).mono ?_; rintro e w3 ⟨rfl, hb⟩; have S2 := S1.call hb; have B2 := B1.call hb; clear hb S1 B1 z0 z1 z2 z3 z4 z5; have z0 : w3.cell? ⟨b3, 0, none⟩ = some (.int .u64 o.f0) := (blk_cell (S2.blk 0 rfl) 0).trans rfl; have z1 : w3.cell? ⟨b3, 1, none⟩ = some (.int .i64 o.f1) := (blk_cell (S2.blk 0 rfl) 1).trans rfl; have z2 : w3.cell? ⟨b3, 2, none⟩ = some (.int .i64 o.f2) := (blk_cell (S2.blk 0 rfl) 2).trans rfl; have z3 : w3.cell? ⟨b3, 3, none⟩ = some (.int .i64 o.f3) := (blk_cell (S2.blk 0 rfl) 3).trans rfl; have z4 : w3.cell? ⟨b3, 4, none⟩ = some (.int .i64 o.f4) := (blk_cell (S2.blk 0 rfl) 4).trans rfl; have z5 : w3.cell? ⟨b3, 5, none⟩ = some (.int .u64 o.f5) := (blk_cell (S2.blk 0 rfl) 5).trans rfl) | (go_at_call 20; refine (HG.out _).mono ?_; rintro e w4 ⟨rfl, hb⟩; have S3 := S2.call hb; have B3 := B2.call hb; clear hb S2 B2 z0 z1 z2 z3 z4 z5; have z3 := HM3.out _ B3.below))
      go_ret
      exact ⟨rfl, S3.drop⟩
    | none =>
      by_cases hful : 64 ≤ m
      · have e1 : addE rs m o = 50 := by rw [addE, if_neg hgd, hf, if_neg (by simp), if_pos hful]
        have e2 : addM rs m o = rs := by rw [addM, e1]; rfl
        have e3 : addN rs m o = m := by rw [addN, e1]; rfl
        rw [e1, e2, e3]
        have hd : decide ((64 : Int) ≤ (m : Int)) = true := decide_eq_true (by omega)
        clear h few hgd hgt e1 e2 e3 hful
        obtain ⟨R, hR⟩ : ∃ R, fndV g (fndM rs o.f0) = R := ⟨_, rfl⟩
        rw [hf] at HC hR
        simp only [fndV] at HC hR
        clear hf hR
        go_enter Try.func36, Try.ntmps36
        go_wp2_with (first | ((with_reducible refine gate_dst (N := 3) rfl ?_); refine box_event ?hg (N := 3) ?hd (cs := #[.int .u64 o.f0, .int .i64 o.f1, .int .i64 o.f2, .int .i64 o.f3, .int .i64 o.f4, .int .u64 o.f5]) (t := 33) ?hr ?_; (case hd => rfl); (case hg => rfl); (case hr => first | (go_simp; done) | (go_simp; rfl)); intro b3 hg_ w1 hbB hb; have S1 := S0.box hg_ hb hbB; have B1 := B0.box hg_ hb hbB; clear S0 B0 hg_ hbB hb; have z0 : w1.cell? ⟨b3, 0, none⟩ = some (.int .u64 o.f0) := (blk_cell (S1.blk 0 rfl) 0).trans rfl; have z1 : w1.cell? ⟨b3, 1, none⟩ = some (.int .i64 o.f1) := (blk_cell (S1.blk 0 rfl) 1).trans rfl; have z2 : w1.cell? ⟨b3, 2, none⟩ = some (.int .i64 o.f2) := (blk_cell (S1.blk 0 rfl) 2).trans rfl; have z3 : w1.cell? ⟨b3, 3, none⟩ = some (.int .i64 o.f3) := (blk_cell (S1.blk 0 rfl) 3).trans rfl; have z4 : w1.cell? ⟨b3, 4, none⟩ = some (.int .i64 o.f4) := (blk_cell (S1.blk 0 rfl) 4).trans rfl; have z5 : w1.cell? ⟨b3, 5, none⟩ = some (.int .u64 o.f5) := (blk_cell (S1.blk 0 rfl) 5).trans rfl) | (go_at_call 69; refine (HNO.out _ B1.below).mono ?_; rintro e w2 ⟨rfl, rfl⟩) | (go_at_call 70; refine (HC.out _ B1.below).mono ?_; rintro e w3 ⟨rfl, hb⟩; have S2 := S1.call hb; have B2 := B1.call hb; clear hb S1 B1 z0 z1 z2 z3 z4 z5; have z0 : w3.cell? ⟨b3, 0, none⟩ = some (.int .u64 o.f0) := (blk_cell (S2.blk 0 rfl) 0).trans rfl; have z1 : w3.cell? ⟨b3, 1, none⟩ = some (.int .i64 o.f1) := (blk_cell (S2.blk 0 rfl) 1).trans rfl; have z2 : w3.cell? ⟨b3, 2, none⟩ = some (.int .i64 o.f2) := (blk_cell (S2.blk 0 rfl) 2).trans rfl; have z3 : w3.cell? ⟨b3, 3, none⟩ = some (.int .i64 o.f3) := (blk_cell (S2.blk 0 rfl) 3).trans rfl; have z4 : w3.cell? ⟨b3, 4, none⟩ = some (.int .i64 o.f4) := (blk_cell (S2.blk 0 rfl) 4).trans rfl; have z5 : w3.cell? ⟨b3, 5, none⟩ = some (.int .u64 o.f5) := (blk_cell (S2.blk 0 rfl) 5).trans rfl) | (go_at_call 20; refine (HG.out _).mono ?_; rintro e w4 ⟨rfl, hb⟩; have S3 := S2.call hb; have B3 := B2.call hb; clear hb S2 B2 z0 z1 z2 z3 z4 z5; have z3 := HM3.out _ B3.below))
        go_ret
        exact ⟨rfl, S3.drop⟩
      · obtain ⟨s, hs, hs2⟩ : ∃ s : Nat, (s = 1 ∨ s = 2) ∧ o.f2 = (s : Int) := by
          rcases goodB_side hgt with q | q
          · exact ⟨1, .inl rfl, q⟩
          · exact ⟨2, .inr rfl, q⟩
        have hst : o.f2.toNat = s := by omega
        have e1 : addE rs m o = 0 := by rw [addE, if_neg hgd, hf, if_neg (by simp), if_neg hful]
        have e2 : addM rs m o = updS rs s (addR (rs s) o) := by rw [addM, if_pos e1, hst]
        have e3 : addN rs m o = m + 1 := by rw [addN, if_pos e1]
        rw [e1, e2, e3]
        have hd : decide ((64 : Int) ≤ (m : Int)) = false := decide_eq_false (by omega)
        rw [hf] at HC
        simp only [fndV] at HC
        have HSD : Aside0 (∀ W', Below W.heap.size W W' → Calls Try.prog 71 #[.pointer (some ⟨g, 0, none⟩), .int .i64 o.f2] W' fun e w' => e = .returned (.pointer (some ⟨g, s - 1, none⟩)) ∧ w' = W') := ⟨fun W' hb => by rw [hs2]; exact (HF.out.below hb).side s hs⟩
        obtain ⟨cs, vs, es, O, c1, c4, c2, c3, he, SO, hshut⟩ := S0.bookSide s hs
        obtain ⟨FO, hO⟩ := SO.get 1 rfl
        obtain ⟨A0, cap0, hvs⟩ := hO.slice
        subst hvs
        obtain ⟨n, hn⟩ : ∃ n, es.length = n := ⟨_, rfl⟩
        have hn1 : n ≤ 1000 := by have := few.r s; rw [he, List.length_map, hn] at this; exact this
        have hqs : ∀ (j : Nat) (e : Value × RowM), es[j]? = some e → e.2.2.length ≤ 1000 := fun j e hj => few.q s j e.2.1 e.2.2 (by rw [he, List.getElem?_map, hj]; rfl)
        obtain ⟨i, hi⟩ : ∃ i, atN o.f2 o.f3 es = i := ⟨_, rfl⟩
        have hia : addI (es.map Prod.snd) o = i := by rw [← hi, atN_map]; rfl
        have hin : i ≤ n := by rw [← hi, ← hn]; exact List.findIdx_le_length
        rw [hn] at SO c1
        obtain ⟨ea, eb, hes, hla⟩ : ∃ ea eb, es = ea ++ eb ∧ ea.length = i := ⟨es.take i, es.drop i, (List.take_append_drop i es).symm, by rw [List.length_take]; omega⟩
        subst hes hla
        have HSM := Aside0.mk (And.intro hn (And.intro hn1 (And.intro hqs (And.intro hin (And.intro hi (And.intro hia (And.intro he few.m1)))))))
        have HCS := Aside0.mk (And.intro c1 (And.intro c4 c3))
        have HSH := Aside0.mk hshut
        have HSS := Aside0.mk hs
        clear h few hgd hgt hf hful hst e1 e2 e3 hs2 c1 c4 c2 c3 he hshut hO hn hn1 hqs hi hia hin hs S0
        obtain ⟨cd, hcd⟩ : ∃ cd, seqAt 14 ((Try.f36.body).getD .skip) = some cd := ⟨_, rfl⟩
        have ecd := Option.some.inj (hcd.symm.trans (show seqAt 14 ((Try.f36.body).getD .skip) = some _ from rfl))
        go_enter Try.func36, Try.ntmps36
        rw [← ecd]
        clear ecd
        go_upto_region 11 with (first | ((with_reducible refine gate_dst (N := 3) rfl ?_); refine box_event ?hg (N := 3) ?hd (cs := #[.int .u64 o.f0, .int .i64 o.f1, .int .i64 o.f2, .int .i64 o.f3, .int .i64 o.f4, .int .u64 o.f5]) (t := 33) ?hr ?_; (case hd => rfl); (case hg => rfl); (case hr => first | (go_simp; done) | (go_simp; rfl)); intro b3 hg_ w1 hbB hb; have S1 := SO.box hg_ hb hbB; have B1 := B0.box hg_ hb hbB; clear SO B0 hg_ hbB hb; have z0 : w1.cell? ⟨b3, 0, none⟩ = some (.int .u64 o.f0) := (blk_cell (S1.blk 0 rfl) 0).trans rfl; have z1 : w1.cell? ⟨b3, 1, none⟩ = some (.int .i64 o.f1) := (blk_cell (S1.blk 0 rfl) 1).trans rfl; have z2 : w1.cell? ⟨b3, 2, none⟩ = some (.int .i64 o.f2) := (blk_cell (S1.blk 0 rfl) 2).trans rfl; have z3 : w1.cell? ⟨b3, 3, none⟩ = some (.int .i64 o.f3) := (blk_cell (S1.blk 0 rfl) 3).trans rfl; have z4 : w1.cell? ⟨b3, 4, none⟩ = some (.int .i64 o.f4) := (blk_cell (S1.blk 0 rfl) 4).trans rfl; have z5 : w1.cell? ⟨b3, 5, none⟩ = some (.int .u64 o.f5) := (blk_cell (S1.blk 0 rfl) 5).trans rfl) | (go_at_call 69; refine (HNO.out _ B1.below).mono ?_; rintro e w2 ⟨rfl, hw2⟩; have hw2' := hw2.symm; subst hw2'; clear hw2) | (go_at_call 70; refine (HC.out _ B1.below).mono ?_; rintro e w3 ⟨rfl, hb⟩; have S2 := S1.call hb; have B2 := B1.call hb; clear hb S1 B1 z0 z1 z2 z3 z4 z5; have z0 : w3.cell? ⟨b3, 0, none⟩ = some (.int .u64 o.f0) := (blk_cell (S2.blk 0 rfl) 0).trans rfl; have z1 : w3.cell? ⟨b3, 1, none⟩ = some (.int .i64 o.f1) := (blk_cell (S2.blk 0 rfl) 1).trans rfl; have z2 : w3.cell? ⟨b3, 2, none⟩ = some (.int .i64 o.f2) := (blk_cell (S2.blk 0 rfl) 2).trans rfl; have z3 : w3.cell? ⟨b3, 3, none⟩ = some (.int .i64 o.f3) := (blk_cell (S2.blk 0 rfl) 3).trans rfl; have z4 : w3.cell? ⟨b3, 4, none⟩ = some (.int .i64 o.f4) := (blk_cell (S2.blk 0 rfl) 4).trans rfl; have z5 : w3.cell? ⟨b3, 5, none⟩ = some (.int .u64 o.f5) := (blk_cell (S2.blk 0 rfl) 5).trans rfl) | (go_at_call 20; refine (HG.out _).mono ?_; rintro e w4 ⟨rfl, hb⟩; have S3 := S2.call hb; have B3 := B2.call hb; clear hb S2 B2 z0 z1 z2 z3 z4 z5; have z3 := HM3.out _ B3.below; have z2 : w4.cell? ⟨b3, 2, none⟩ = some (.int .i64 o.f2) := (blk_cell (S3.blk 0 rfl) 2).trans rfl) | (go_at_call 71; refine (HSD.out _ B3.below).mono ?_; rintro e w5 ⟨rfl, hw5⟩; have hw5' := hw5.symm; subst hw5'; clear hw5))
        clear z3
        refine ad11 (i := ea.length) (R := fun w2 => Below w4.heap.size w4 w2) rfl ((blk_cell (S3.blk 1 rfl) (s - 1)).trans HCS.out.1) z2 ((blk_cell (S3.blk 0 rfl) 3).trans rfl) ⟨?hp⟩ ?_
        case hp =>
          obtain ⟨FO, hO⟩ := S3.drew1.get 2 rfl
          have hO2 : OwP 115 2 (.slice A0 n cap0) (ea ++ eb).length (rcs (ea ++ eb)) w4.drew FO := by rw [HSM.out.1]; exact hO
          refine ((ladder_at hO2 o.f2 o.f3).mono ?_)
          rintro e w' ⟨rfl, hb⟩
          exact ⟨by rw [HSM.out.2.2.2.2.1], below_step (below_drew (Below.refl _ _)) hb⟩
        intros
        rename_i w5 hb5
        have S4 := S3.call hb5
        clear hb5 S3 B3 z2
        go_upto_region 12 with (fail)
        have HU := Aside0.mk hu
        clear hu
        by_cases hlt : ea.length = n
        · have hdd : ((ea.length : Int) == (n : Int)) = true := by rw [hlt]; exact beq_self_eq_true _
          have hne : ∀ r, ((ea ++ eb).map Prod.snd)[addI ((ea ++ eb).map Prod.snd) o]? = some r → r.1 ≠ o.f3 := fun r hr => by
            rw [HSM.out.2.2.2.2.2.1] at hr
            have := (List.getElem?_eq_some_iff.1 hr).1
            rw [List.length_map, HSM.out.1] at this
            omega
          have HNE := Aside0.mk hne
          clear hlt hne
          refine ad12a rfl ((blk_cell (S4.blk 1 rfl) (s - 1)).trans HCS.out.1) hdd ?_
          intros
          have S5 := S4.drew1
          clear S4 hdd
          go_upto_region 13 with (fail)
          refine ad13 (n' := n + 1) (R := fun w2 A' c' => St W F w2 (OwP 115 2 (.slice A' (n + 1) c') (n + 1) (rcs (ea ++ ((.slice none 0 0 : Value), (o.f3, ([] : List SOr))) :: eb)) :: Pt b3 #[.int .u64 o.f0, .int .i64 o.f1, .int .i64 o.f2, .int .i64 o.f3, .int .i64 o.f4, .int .u64 o.f5] 33 :: Pt g cs 108 :: (elsQ (ea ++ eb) ++ [O]))) rfl ((blk_cell (S5.blk 1 rfl) (s - 1)).trans HCS.out.1) ((blk_cell (S5.blk 0 rfl) 3).trans rfl) ⟨?hp⟩ ⟨?hk⟩ ?_
          case hp =>
            obtain ⟨FJ, hA, hF, hj⟩ := (S5.front 2 rfl).join
            have hb : Below w5.drew.heap.size w5.drew _ := below_drew (below_alloc (Below.refl _ _) (.cells #[.int .i64 o.f3, .slice none 0 0] 115))
            refine (ins_row _ FJ _ n ea.length _ (rcs (ea ++ eb)) [.int .i64 o.f3, .slice none 0 0] (OwP.loc.step hA hb.size (fun k _ hk => hb.block k hk)) HSM.out.2.2.2.1 (by have := HSM.out.2.1; omega) (blk_new _ _) rfl (fun z => by have := hF _ z; omega) (fun u hu => by simp at hu; rcases hu with rfl | rfl <;> rfl)).mono ?_
            rintro e w2 ⟨v', rfl, k2⟩
            have S6 := hj w2 _ (k2.before hb)
            obtain ⟨Fv, hv⟩ := S6.get 0 rfl
            obtain ⟨A', c', rfl⟩ := hv.slice
            refine ⟨A', c', rfl, ?_⟩
            have hrc : (rcs (ea ++ eb)).take (ea.length * 2) ++ [.int .i64 o.f3, .slice none 0 0] ++ (rcs (ea ++ eb)).drop (ea.length * 2) = rcs (ea ++ ((.slice none 0 0 : Value), (o.f3, ([] : List SOr))) :: eb) := by
              rw [rcs_take _ _ (by simp), rcs_drop _ _ (by simp), List.take_left', List.drop_left', rcs_append, List.append_assoc]
              · rfl
              · rfl
              · rfl
            rw [hrc] at S6
            exact S6
          case hk =>
            intro w2 A' c' hR
            exact ⟨⟨_, (blk_cell (hR.blk 2 rfl) (s - 1)).trans HCS.out.1⟩, blk_frozen (hR.blk 2 rfl) _⟩
          intros
          rename_i w2 A' c' hR
          clear S5
          have S6 := (hR.front 2 rfl).put (s - 1) (.slice A' (n + 1) c') rfl
          generalize World.setCell _ _ _ = w7 at S6 ⊢
          obtain ⟨FO, hO⟩ := S6.get 1 rfl
          obtain ⟨gb2, cap2, hvs, _⟩ := hO.some_ (by omega)
          injection hvs with hA2 _ hcap2
          subst hA2 hcap2
          have S7 := S6.new (A := QuP (.slice none 0 0) []) (Below.refl _ _) QuP.loc OwP.nil
          clear hR S6 hO
          have S8 := S7.perm (show (QuP (.slice none 0 0) [] :: Pt g (cs.setIfInBounds (s - 1) (.slice (some ⟨gb2, 0, none⟩) (n + 1) c')) 108 :: OwP 115 2 (.slice (some ⟨gb2, 0, none⟩) (n + 1) c') (n + 1) (rcs (ea ++ ((.slice none 0 0 : Value), (o.f3, ([] : List SOr))) :: eb)) :: Pt b3 #[.int .u64 o.f0, .int .i64 o.f1, .int .i64 o.f2, .int .i64 o.f3, .int .i64 o.f4, .int .u64 o.f5] 33 :: (elsQ (ea ++ eb) ++ [O])).Perm (Pt b3 #[.int .u64 o.f0, .int .i64 o.f1, .int .i64 o.f2, .int .i64 o.f3, .int .i64 o.f4, .int .u64 o.f5] 33 :: QuP (.slice none 0 0) [] :: OwP 115 2 (.slice (some ⟨gb2, 0, none⟩) (n + 1) c') (n + 1) (rcs (ea ++ ((.slice none 0 0 : Value), (o.f3, ([] : List SOr))) :: eb)) :: Pt g (cs.setIfInBounds (s - 1) (.slice (some ⟨gb2, 0, none⟩) (n + 1) c')) 108 :: (elsQ (ea ++ eb) ++ [O])) from perm4.trans (List.Perm.cons _ perm3b))
          clear S7
          go_wp2
          refine add_tail (s := s) (ea := ea) (eb := eb) (p := o.f3) (q := []) (R := elsQ (ea ++ eb) ++ [O]) hcd S8 ?_ ?_ (by have := HSM.out.2.2.2.1; omega) (by have := HSM.out.2.1; omega) (Nat.zero_le _) HSM.out.2.2.2.2.2.2.2 ?_
          · rw [Array.getElem?_setIfInBounds_self_of_lt (by have := HCS.out.2.1; rcases HSS.out with q | q <;> omega)]
          · rw [Array.getElem?_setIfInBounds_ne (by rcases HSS.out with q | q <;> omega)]; exact HCS.out.2.2
          intros
          rename_i w' v' S'
          clear S8
          go_wp2
          go_ret
          refine ⟨rfl, ?_⟩
          have hadd : addR (rs s) o = (ea ++ (v', (o.f3, insQ o [])) :: eb).map Prod.snd := by
            rw [HSM.out.2.2.2.2.2.2.1, addR_new _ _ HNE.out, HSM.out.2.2.2.2.2.1]
            simp [insQ, kQ]
          rw [hadd]
          refine HSH.out w' (.slice (some ⟨gb2, 0, none⟩) (n + 1) c') (ea ++ (v', (o.f3, insQ o [])) :: eb) (m + 1) ?_
          have hlen : (ea ++ (v', (o.f3, insQ o [])) :: eb).length = n + 1 := by have := HSM.out.1; simp at this ⊢; omega
          rw [hlen]
          exact S'.drop.perm (perm3.trans (List.Perm.cons _ (List.Perm.cons _ (List.Perm.append_right _ (elsQ_mid ea eb (v', (o.f3, insQ o []))).symm))))
        · have hlt2 : ea.length < n := by have := HSM.out.2.2.2.1; omega
          have hdd : ((ea.length : Int) == (n : Int)) = false := by rw [beq_eq_false_iff_ne]; omega
          obtain ⟨e, eb', heb⟩ : ∃ e eb', eb = e :: eb' := by
            cases eb with
            | nil => have := HSM.out.1; simp at this; omega
            | cons e eb' => exact ⟨e, eb', rfl⟩
          obtain ⟨vq, p, q⟩ := e
          subst heb
          obtain ⟨FO, hO⟩ := S4.get 2 rfl
          obtain ⟨gb, cap, hvs, _⟩ := hO.some_ (by omega)
          injection hvs with hA _ hcap
          subst hA hcap
          have hr2 := (rowRead hO (by omega)).1
          have haa : (⟨gb, 0, none⟩ : Addr).add (ea.length * 2) = ⟨gb, ea.length * 2, none⟩ := by rw [Addr.add_lit, Nat.zero_add]
          rw [← haa] at hr2
          have h0 := (blk_cell (S4.blk 1 rfl) (s - 1)).trans HCS.out.1
          have h1 := (blk_cell (S4.blk 0 rfl) 3).trans (show _ = some (.int .i64 o.f3) from rfl)
          have hi0 : (0 : Int) ≤ (ea.length : Int) := Int.natCast_nonneg _
          have hi1 : (ea.length : Int) < (n : Int) := by omega
          clear hO haa hlt
          by_cases hp : p = o.f3
          · subst hp
            have hbb : (o.f3 != o.f3) = false := by simp
            refine ad12b rfl h0 h1 hr2 hdd hi0 hi1 hbb ?_
            intros
            have S5 := S4.drew1
            clear S4 hr2 h0 h1 hdd hi0 hi1 hbb
            go_wp2
            have S6 := S5.perm ((List.Perm.cons _ (List.Perm.cons _ (List.Perm.cons _ (List.Perm.append_right _ (elsQ_mid ea eb' (vq, (o.f3, q))))))).trans (List.Perm.cons _ perm3))
            refine add_tail (s := s) (ea := ea) (eb := eb') (p := o.f3) (q := q) (R := elsQ (ea ++ eb') ++ [O]) hcd S6 HCS.out.1 HCS.out.2.2 hlt2 (by have := HSM.out.2.1; omega) (HSM.out.2.2.1 ea.length (vq, (o.f3, q)) (by simp)) HSM.out.2.2.2.2.2.2.2 ?_
            intros
            rename_i w' v' S'
            clear S5 S6
            go_wp2
            go_ret
            refine ⟨rfl, ?_⟩
            have hadd : addR (rs s) o = (ea ++ (v', (o.f3, insQ o q)) :: eb').map Prod.snd := by
              rw [HSM.out.2.2.2.2.2.2.1]; exact addR_old ea eb' o vq v' q HSM.out.2.2.2.2.2.1
            rw [hadd]
            refine HSH.out w' (.slice (some ⟨gb, 0, none⟩) n cap0) (ea ++ (v', (o.f3, insQ o q)) :: eb') (m + 1) ?_
            have hlen : (ea ++ (v', (o.f3, insQ o q)) :: eb').length = n := by have := HSM.out.1; simp at this ⊢; omega
            rw [hlen, set_self HCS.out.1]
            exact S'.drop.perm (perm3.trans (List.Perm.cons _ (List.Perm.cons _ (List.Perm.append_right _ (elsQ_mid ea eb' (v', (o.f3, insQ o q))).symm))))
          · have hbb : (p != o.f3) = true := by simp [hp]
            have hne : ∀ r, ((ea ++ (vq, (p, q)) :: eb').map Prod.snd)[addI ((ea ++ (vq, (p, q)) :: eb').map Prod.snd) o]? = some r → r.1 ≠ o.f3 := fun r hr => by
              rw [HSM.out.2.2.2.2.2.1] at hr
              have : some (p, q) = some r := by rw [← hr]; simp
              cases this
              exact hp
            have HNE := Aside0.mk hne
            clear hne hp
            refine ad12b rfl h0 h1 hr2 hdd hi0 hi1 hbb ?_
            intros
            have S5 := S4.drew1
            clear S4 hr2 h0 h1 hdd hi0 hi1 hbb
            obtain ⟨A0, hA0⟩ : ∃ A0 : Option Addr, A0 = some ⟨gb, 0, none⟩ := ⟨_, rfl⟩
            rw [← hA0] at S5 HCS
            obtain ⟨eb, heb⟩ : ∃ eb, eb = (vq, (p, q)) :: eb' := ⟨_, rfl⟩
            rw [← heb] at S5 HSM HNE
            go_upto_region 13 with (fail)
            refine ad13 (n' := n + 1) (R := fun w2 A' c' => St W F w2 (OwP 115 2 (.slice A' (n + 1) c') (n + 1) (rcs (ea ++ ((.slice none 0 0 : Value), (o.f3, ([] : List SOr))) :: eb)) :: Pt b3 #[.int .u64 o.f0, .int .i64 o.f1, .int .i64 o.f2, .int .i64 o.f3, .int .i64 o.f4, .int .u64 o.f5] 33 :: Pt g cs 108 :: (elsQ (ea ++ eb) ++ [O]))) rfl ((blk_cell (S5.blk 1 rfl) (s - 1)).trans HCS.out.1) ((blk_cell (S5.blk 0 rfl) 3).trans rfl) ⟨?hp⟩ ⟨?hk⟩ ?_
            case hp =>
              obtain ⟨FJ, hA, hF, hj⟩ := (S5.front 2 rfl).join
              have hb : Below w5.drew.heap.size w5.drew _ := below_drew (below_alloc (Below.refl _ _) (.cells #[.int .i64 o.f3, .slice none 0 0] 115))
              refine (ins_row _ FJ _ n ea.length _ (rcs (ea ++ eb)) [.int .i64 o.f3, .slice none 0 0] (OwP.loc.step hA hb.size (fun k _ hk => hb.block k hk)) HSM.out.2.2.2.1 (by have := HSM.out.2.1; omega) (blk_new _ _) rfl (fun z => by have := hF _ z; omega) (fun u hu => by simp at hu; rcases hu with rfl | rfl <;> rfl)).mono ?_
              rintro e w2 ⟨v', rfl, k2⟩
              have S6 := hj w2 _ (k2.before hb)
              obtain ⟨Fv, hv⟩ := S6.get 0 rfl
              obtain ⟨A', c', rfl⟩ := hv.slice
              refine ⟨A', c', rfl, ?_⟩
              have hrc : (rcs (ea ++ eb)).take (ea.length * 2) ++ [.int .i64 o.f3, .slice none 0 0] ++ (rcs (ea ++ eb)).drop (ea.length * 2) = rcs (ea ++ ((.slice none 0 0 : Value), (o.f3, ([] : List SOr))) :: eb) := by
                rw [rcs_take _ _ (by simp), rcs_drop _ _ (by simp), List.take_left', List.drop_left', rcs_append, List.append_assoc]
                · rfl
                · rfl
                · rfl
              rw [hrc] at S6
              exact S6
            case hk =>
              intro w2 A' c' hR
              exact ⟨⟨_, (blk_cell (hR.blk 2 rfl) (s - 1)).trans HCS.out.1⟩, blk_frozen (hR.blk 2 rfl) _⟩
            intros
            rename_i w2 A' c' hR
            clear S5
            have S6 := (hR.front 2 rfl).put (s - 1) (.slice A' (n + 1) c') rfl
            generalize World.setCell _ _ _ = w7 at S6 ⊢
            obtain ⟨FO, hO⟩ := S6.get 1 rfl
            obtain ⟨gb2, cap2, hvs, _⟩ := hO.some_ (by omega)
            injection hvs with hA2 _ hcap2
            subst hA2 hcap2
            have S7 := S6.new (A := QuP (.slice none 0 0) []) (Below.refl _ _) QuP.loc OwP.nil
            clear hR S6 hO
            have S8 := S7.perm (show (QuP (.slice none 0 0) [] :: Pt g (cs.setIfInBounds (s - 1) (.slice (some ⟨gb2, 0, none⟩) (n + 1) c')) 108 :: OwP 115 2 (.slice (some ⟨gb2, 0, none⟩) (n + 1) c') (n + 1) (rcs (ea ++ ((.slice none 0 0 : Value), (o.f3, ([] : List SOr))) :: eb)) :: Pt b3 #[.int .u64 o.f0, .int .i64 o.f1, .int .i64 o.f2, .int .i64 o.f3, .int .i64 o.f4, .int .u64 o.f5] 33 :: (elsQ (ea ++ eb) ++ [O])).Perm (Pt b3 #[.int .u64 o.f0, .int .i64 o.f1, .int .i64 o.f2, .int .i64 o.f3, .int .i64 o.f4, .int .u64 o.f5] 33 :: QuP (.slice none 0 0) [] :: OwP 115 2 (.slice (some ⟨gb2, 0, none⟩) (n + 1) c') (n + 1) (rcs (ea ++ ((.slice none 0 0 : Value), (o.f3, ([] : List SOr))) :: eb)) :: Pt g (cs.setIfInBounds (s - 1) (.slice (some ⟨gb2, 0, none⟩) (n + 1) c')) 108 :: (elsQ (ea ++ eb) ++ [O])) from perm4.trans (List.Perm.cons _ perm3b))
            clear S7
            go_wp2
            refine add_tail (s := s) (ea := ea) (eb := eb) (p := o.f3) (q := []) (R := elsQ (ea ++ eb) ++ [O]) hcd S8 ?_ ?_ (by have := HSM.out.2.2.2.1; omega) (by have := HSM.out.2.1; omega) (Nat.zero_le _) HSM.out.2.2.2.2.2.2.2 ?_
            · rw [Array.getElem?_setIfInBounds_self_of_lt (by have := HCS.out.2.1; rcases HSS.out with q | q <;> omega)]
            · rw [Array.getElem?_setIfInBounds_ne (by rcases HSS.out with q | q <;> omega)]; exact HCS.out.2.2
            intros
            rename_i w' v' S'
            clear S8
            go_wp2
            go_ret
            refine ⟨rfl, ?_⟩
            have hadd : addR (rs s) o = (ea ++ (v', (o.f3, insQ o [])) :: eb).map Prod.snd := by
              rw [HSM.out.2.2.2.2.2.2.1, addR_new _ _ HNE.out, HSM.out.2.2.2.2.2.1]
              simp [insQ, kQ]
            rw [hadd]
            refine HSH.out w' (.slice (some ⟨gb2, 0, none⟩) (n + 1) c') (ea ++ (v', (o.f3, insQ o [])) :: eb) (m + 1) ?_
            have hlen : (ea ++ (v', (o.f3, insQ o [])) :: eb).length = n + 1 := by have := HSM.out.1; simp at this ⊢; omega
            rw [hlen]
            exact S'.drop.perm (perm3.trans (List.Perm.cons _ (List.Perm.cons _ (List.Perm.append_right _ (elsQ_mid ea eb (v', (o.f3, insQ o []))).symm))))
end Go.Proofs.Ytlihfiajbhpokaa.Ldo
