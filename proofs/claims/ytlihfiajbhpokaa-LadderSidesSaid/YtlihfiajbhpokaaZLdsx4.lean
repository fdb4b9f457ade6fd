/- Printed by this session's wip/drive.py over the translation; some functions by hand. -/
import Derived.Test.YtlihfiajbhpokaaZLdsx0
import Derived.Test.YtlihfiajbhpokaaZLdsx3
namespace Go.Proofs.Ytlihfiajbhpokaa.Lds
open Go.RowKit Go.Proofs.YtlihfiajbhpokaaW.PrintWords Go.Proofs.YtlihfiajbhpokaaW.PrintLast Go.Proofs.YtlihfiajbhpokaaW.PrintMore
attribute [local go_sem] max2_int min2_int max_two min_two max_three min_three max_four min_four
set_option linter.unusedVariables false
set_option linter.unusedSimpArgs false
theorem cut_3 {P : Program} (t e : TypeId) (z : Nat) (ht : P.underlying t = some (.slice e)) (hs : (P.info? e).map (·.size) = some z) (A : Option Addr) (n c : Nat) (l h m : Int) (h0 : 0 ≤ l) (h1 : l ≤ h) (h2 : h ≤ m) (h3 : m ≤ c) (W : World) :
    (Instr.slice t (.slice A n c) (some (.int .i64 l)) (some (.int .i64 h)) (some (.int .i64 m))).run P W = .ok (.slice (if m.toNat = l.toNat then A else A.map (·.add (l.toNat * z))) (h.toNat - l.toNat) (m.toNat - l.toNat)) W := by
  cases hq : P.info? e with
  | none => simp [hq] at hs
  | some i =>
    have hi : i.size = z := by simpa [hq] using hs
    have hel : P.elem t = e := by simp [Program.elem, ht]
    have hu : P.underlying t = some (.slice (P.elem t)) := by rw [hel]; exact ht
    rw [run_slice_lhm W t A n c hu .i64 .i64 .i64 l h m h0 h1 h2 h3, hel]
    simp [sizeOf, typeInfo, hq, hi, sliced, Result.andThen]
theorem cut_2 {P : Program} (t e : TypeId) (z : Nat) (ht : P.underlying t = some (.slice e)) (hs : (P.info? e).map (·.size) = some z) (A : Option Addr) (n c : Nat) (l h : Int) (h0 : 0 ≤ l) (h1 : l ≤ h) (h2 : h ≤ c) (W : World) :
    (Instr.slice t (.slice A n c) (some (.int .i64 l)) (some (.int .i64 h)) none).run P W = .ok (.slice (if c = l.toNat then A else A.map (·.add (l.toNat * z))) (h.toNat - l.toNat) (c - l.toNat)) W := by
  cases hq : P.info? e with
  | none => simp [hq] at hs
  | some i =>
    have hi : i.size = z := by simpa [hq] using hs
    have hel : P.elem t = e := by simp [Program.elem, ht]
    have hu : P.underlying t = some (.slice (P.elem t)) := by rw [hel]; exact ht
    rw [run_slice_lh W t A n c hu .i64 .i64 l h h0 h1 h2, hel]
    simp [sizeOf, typeInfo, hq, hi, sliced, Result.andThen]
theorem run_clear1 {P : Program} (w : World) (t e ty : TypeId) (z : Value) (ht : P.underlying t = some (.slice e)) (hv : ∀ w, (zeroValue e).run P w = .ok z w) (L : List Value) (hL : (Builtin.zeroCells z.cells 1).toList = L) (b o c : Nat)
    (hc : ∀ j, j < L.length → (w.cell? ⟨b, o + j, none⟩).isSome = true) (hf : ∀ j, j < L.length → w.frozen? ⟨b, o + j, none⟩ = false) (h1 : ∀ v ∈ L, v.oneCell' = true) :
    (Builtin.clear_ #[t] ty #[.slice (some ⟨b, o, none⟩) 1 c]).run P w = .ok (.tuple #[]) (w.setCells b o L) := by
  have hst := run_storeCells_cells (P := P) b o L 0 w (by simpa using hc) (by simpa using hf) h1
  simp only [Nat.add_zero] at hst
  simp [Builtin.clear_, run_underlying ht, hv, hL, hst]
theorem step_append_runI {P : Program} {ops : Array Oper} {o : Oper} {a : Act} {w : World} {K : Act → World → Prop} {Q : Exit → Act → World → Prop} {E : Prop}
    (hg : o.guard = none) (d x : Operand) (dT sT : TypeId) (hop : o.op = Op.call { callee := Callee.builtin Builtin.append, args := #[d, x], argTypes := #[dT, sT] })
    (v u : Value) (hd : a.eval d = v) (hx : a.eval x = u) {v' : Value} {w' : World} (hr : (Builtin.append_ #[dT, sT] o.type #[v, u]).run P w = .ok v' w') (hK : K (a.put o.dst v') w') :
    if Region.wanted o (yielded ops a.tmps) = true then Oper.wp P o a w K Q else E := by
  have hw : Region.wanted o (yielded ops a.tmps) = true := by simp [Region.wanted, hg]
  rw [if_pos hw]
  unfold Oper.wp
  simp [execOp, hop, resolve, invoke, builtin, hd, hx, hr, Result.andThen]
  exact hK
theorem wpList_clear_runI {P : Program} (w : World) {ops : Array Oper} {rest : List Oper} {o : Oper} {a : Act} {Q : Exit → Act → World → Prop} (hgd : o.guard = none) (d : Operand) (t : TypeId)
    (ho : o.op = .call { callee := .builtin .clear, args := #[d], argTypes := #[t] }) (v : Value) (hd : a.eval d = v) {v' : Value} {w' : World}
    (hr : (Builtin.clear_ #[t] o.type #[v]).run P w = .ok v' w') (h : wpList P ops Q rest (a.put o.dst v') w') : wpList P ops Q (o :: rest) a w :=
  wpList_plain hgd fun _ hK => by
    unfold Oper.wp execOp
    simp only [ho, resolve, invoke, builtin, Sem.run_bind, Sem.run_pure, Result.andThen_ok, List.map_toArray, List.map_cons, List.map_nil, hd, hr]
    exact hK _ _ h
theorem del_list {cur L : List Value} {i n z c : Nat} (hi : i < n) (hn : n * z ≤ cur.length) (hL : L.length = z) (cs : List Value) (hcs : cur.take (n * z) = cs) :
    (((cur.take (i * z) ++ cs.drop ((i + 1) * z) ++ cur.drop (i * z + (cs.drop ((i + 1) * z)).length)).take ((n - 1) * z) ++ L ++ (cur.take (i * z) ++ cs.drop ((i + 1) * z) ++ cur.drop (i * z + (cs.drop ((i + 1) * z)).length)).drop ((n - 1) * z + L.length)).take ((n - 1) * z)) = cs.take (i * z) ++ cs.drop ((i + 1) * z) := by
  obtain ⟨m, rfl⟩ : ∃ m, n = m + 1 := ⟨n - 1, by omega⟩
  have h1 : i * z ≤ m * z := Nat.mul_le_mul_right _ (by omega)
  have h2 : (m + 1) * z = m * z + z := Nat.succ_mul m z
  have h2' : (i + 1) * z = i * z + z := Nat.succ_mul i z
  have h3 : cs.length = (m + 1) * z := by rw [← hcs, List.length_take]; omega
  have h4 : (cs.drop ((i + 1) * z)).length = m * z - i * z := by rw [List.length_drop, h3]; omega
  have h5 : cur.take (i * z) = cs.take (i * z) := by rw [← hcs, List.take_take, Nat.min_eq_left (by omega)]
  have e : (cur.take (i * z) ++ cs.drop ((i + 1) * z)).length = m * z := by simp only [List.length_append, List.length_take, h4]; omega
  rw [Nat.add_sub_cancel, List.append_assoc ((_ : List Value).take _), List.take_append_of_le_length (by simp only [List.length_take, List.length_append, h4, List.length_drop]; omega), List.take_take, Nat.min_self, List.take_append_of_le_length (by omega), List.take_of_length_le (by omega), h5]
set_option maxHeartbeats 8000000 in
set_option maxRecDepth 100000 in
theorem del_row (W : World) (F : Nat → Prop) (v : Value) (n i : Nat) (cs : List Value) (h : OwP 115 2 v n cs W F) (hi : i < n) (hn : n ≤ 100000) :
    Calls Try.prog 100 #[v, .int .i64 i, .int .i64 ((i : Int) + 1)] W fun e w' => ∃ v', e = .returned v' ∧ St W F w' [OwP 115 2 v' (n - 1) (cs.take (i * 2) ++ cs.drop ((i + 1) * 2))] := by
  have ht := Try.underlying105
  obtain ⟨i0, hi0, hz0, hzs, hzb⟩ := info_parts inf_row
  have h6 := h.2.2
  rcases h.block with ⟨_, q0, _⟩ | ⟨g, cap, cur, rfl, hF, hh, h1, h2, h3, h4, h5⟩
  · omega
  have hz2 : ((i : Int) == (i : Int) + 1) = false := beq_eq_false_iff_ne.mpr (by omega)
  have mixed : Try.prog.follows .mixedOrders = true := by kernel_rfl
  have him : i * 2 + 2 ≤ n * 2 := by rw [← Nat.succ_mul]; exact Nat.mul_le_mul_right _ hi
  have hnc : n * 2 ≤ cap * 2 := Nat.mul_le_mul_right _ h1
  have hb := cells_at hh h4
  obtain ⟨n1, hn1⟩ : ∃ n1, n1 = n - 1 := ⟨_, rfl⟩
  have hni : (n1 : Int) = (n : Int) - 1 := by omega
  have hnz : n1 * 2 + 2 = n * 2 := by rw [← Nat.succ_mul, hn1]; congr 1; omega
  have hdl : (cs.drop ((i + 1) * 2)).length = (n1 - i) * 2 := by rw [List.length_drop, h5, ← Nat.sub_mul]; congr 1; omega
  obtain ⟨V1, e1⟩ : ∃ V1, ∀ w : World, (Instr.slice 105 (.slice (some ⟨g, 0, none⟩) n cap) (some (.int .i64 i)) (some (.int .i64 ((i : Int) + 1))) (some (.int .i64 n))).run Try.prog w = .ok V1 w := ⟨_, fun w => cut_3 105 115 2 ht (by kernel_rfl) _ n cap i ((i : Int) + 1) n (by omega) (by omega) (by omega) (by omega) w⟩
  have e2 : ∀ w : World, (Instr.slice 105 (.slice (some ⟨g, 0, none⟩) n cap) none (some (.int .i64 i)) none).run Try.prog w = .ok (.slice (some ⟨g, 0, none⟩) i cap) w := fun w => by
    rw [cut_h' 105 115 .i64 2 ht (by kernel_rfl) _ n cap i (by omega) (by omega) w]
    simp
  obtain ⟨a9, ha9⟩ : ∃ a9, a9 = (if cap = i + 1 then (⟨g, 0, none⟩ : Addr) else ⟨g, (i + 1) * 2, none⟩) := ⟨_, rfl⟩
  have e3 : ∀ w : World, (Instr.slice 105 (.slice (some ⟨g, 0, none⟩) n cap) (some (.int .i64 ((i : Int) + 1))) none none).run Try.prog w = .ok (.slice (some a9) (n1 - i) (cap - (i + 1))) w := fun w => by
    rw [cut_lo3 105 115 2 ht (by kernel_rfl) _ n cap ((i : Int) + 1) (by omega) (by omega) w, show ((i : Int) + 1).toNat = i + 1 by omega, show n - (i + 1) = n1 - i by omega, ha9]
    by_cases c : cap = i + 1
    · rw [if_pos c, if_pos c]
    · rw [if_neg c, if_neg c, Option.map_some, Addr.add_lit, Nat.zero_add]
  have hnews : ∀ w : World, w.heap = W.heap → ∀ j u, (cs.drop ((i + 1) * 2))[j]? = some u → w.cell? (a9.add j) = some u := fun w hw j u hj => by
    have hlt := (List.getElem?_eq_some_iff.1 hj).1
    rw [hdl] at hlt
    have hc : ¬ cap = i + 1 := fun c => by
      rw [show n1 - i = 0 by omega] at hlt
      omega
    rw [ha9, if_neg hc, Addr.add_lit]
    have := cells_at (w := w) (by rw [hw]; exact hh) h4 ((i + 1) * 2 + j) u (by rwa [List.getElem?_drop] at hj)
    rwa [Nat.zero_add] at this
  have hrm : ∀ ty, (Builtin.append_ #[105, 105] ty #[.slice (some ⟨g, 0, none⟩) i cap, .slice (some a9) (n1 - i) (cap - (i + 1))]).run Try.prog W.drew = .ok (.slice (some ⟨g, 0, none⟩) n1 cap) (W.drew.setRow g (cur.toList.take (i * 2) ++ cs.drop ((i + 1) * 2) ++ cur.toList.drop (i * 2 + (cs.drop ((i + 1) * 2)).length)).toArray) := fun ty => by
    have h9 := run_append_room (P := Try.prog) W.drew 105 ty 115 i0 ht hi0 g i cap cur hh a9 (n1 - i) (cap - (i + 1)) (cs.drop ((i + 1) * 2)) (by rw [hzs]; exact hdl) (hnews W.drew rfl) (fun u hu => h6 u (List.mem_of_mem_drop hu)) (by omega) (by rw [hzs, hdl, ← Nat.add_mul, h3]; exact Nat.mul_le_mul_right _ (by omega))
    rw [show i + (n1 - i) = n1 by omega, hzs] at h9
    exact h9
  obtain ⟨R1, hR1⟩ : ∃ R1 : List Value, R1 = cur.toList.take (i * 2) ++ cs.drop ((i + 1) * 2) ++ cur.toList.drop (i * 2 + (cs.drop ((i + 1) * 2)).length) := ⟨_, rfl⟩
  have hR1l : R1.length = cap * 2 := by
    rw [hR1]
    simp only [List.length_append, List.length_take, List.length_drop, Array.length_toList, h3, h5]
    have : (i + 1) * 2 = i * 2 + 2 := Nat.succ_mul _ _
    omega
  have e4 : ∀ w : World, (Instr.slice 105 (.slice (some ⟨g, 0, none⟩) n1 cap) (some (.int .i64 n1)) (some (.int .i64 n)) none).run Try.prog w = .ok (.slice (some ⟨g, n1 * 2, none⟩) 1 (cap - n1)) w := fun w => by
    rw [cut_2 105 115 2 ht (by kernel_rfl) _ n1 cap n1 n (by omega) (by omega) (by omega) w, if_neg (by omega), Option.map_some, Addr.add_lit, Nat.zero_add, Int.toNat_natCast, Int.toNat_natCast, show n - n1 = 1 by omega]
  obtain ⟨W1, hW1⟩ : ∃ W1, W1 = W.drew.setRow g R1.toArray := ⟨_, rfl⟩
  have k1 : W1.heap[g]? = some (.cells R1.toArray 115 (0, 0)) := by rw [hW1]; exact setRow_heap W.drew g cur _ 115 _ hh
  rw [← hR1] at hrm
  have hfit : n1 * 2 + 2 ≤ R1.toArray.size := by simp only [List.size_toArray, hR1l]; omega
  have hcl : ∀ W2 : World, W2.heap = W1.heap → ∀ ty, (Builtin.clear_ #[105] ty #[.slice (some ⟨g, n1 * 2, none⟩) 1 (cap - n1)]).run Try.prog W2 = .ok (.tuple #[]) (W2.setCells g (n1 * 2) [.int .i64 0, .slice none 0 0]) := fun W2 hW2 ty =>
    run_clear1 W2 105 115 ty (.agg #[.int .i64 0, .slice none 0 0]) ht (fun w => by first | exact Try.zeroValue115 w | kernel_rfl) [.int .i64 0, .slice none 0 0] (by first | rfl | kernel_rfl | decide) g (n1 * 2) (cap - n1)
      (fun j hj => by rw [blk_cell (w := W2) (by rw [hW2]; exact k1) _, Array.getElem?_eq_getElem (by simp at hj; omega)]; rfl)
      (fun j _ => blk_frozen (w := W2) (by rw [hW2]; exact k1) _) (by decide)
  have hfr1 : Fr F W W1 := by
    rw [hW1]
    exact ⟨rfl, rfl, rfl, by simp [World.setRow], fun k hk hn => setRow_other W.drew g k _ (fun e => hn (by rw [e]; exact hF))⟩
  have HFIN : Aside0 (∀ W2 : World, W2.heap = W1.heap → Fr F W W2 → St W F (W2.setCells g (n1 * 2) [.int .i64 0, .slice none 0 0]) [OwP 115 2 (.slice (some ⟨g, 0, none⟩) n1 cap) (n - 1) (cs.take (i * 2) ++ cs.drop ((i + 1) * 2))]) := ⟨fun W2 hW2 hfr2 => by
    obtain ⟨cur3, q1, q2, q3⟩ := heap_setCells (w := W2) [.int .i64 0, .slice none 0 0] (n1 * 2) R1.toArray (by rw [hW2]; exact k1) (by exact hfit)
    rw [← hn1]
    refine ⟨hfr2.setCells (.inl hF) _ _, F, fun k hk => .inl hk, OwP.loc, OwP.of hF q1 (by omega) h2 (by rw [q2]; simp only [List.size_toArray, hR1l]) ?_ ?_ ?_, trivial⟩
    · rw [q3, hR1, hn1]
      exact del_list (z := 2) (c := cap) hi (by rw [Array.length_toList, h3]; exact hnc) rfl cs h4
    · simp only [List.length_append, List.length_take, hdl, h5]
      have : (n1 - i) * 2 = n1 * 2 - i * 2 := Nat.sub_mul _ _ _
      omega
    · intro u hu
      rcases List.mem_append.1 hu with hu | hu
      · exact h6 u (List.mem_of_mem_take hu)
      · exact h6 u (List.mem_of_mem_drop hu)⟩
  have HFR1 := Aside0.mk hfr1
  have HNI := Aside0.mk hni
  clear h hi0 hz0 hzs hzb h6 hF hh h2 h3 h4 h5 hb hnz hdl hnews hR1 hR1l k1 hfit hfr1 ha9 hn1 hni
  go_enter Try.func100, Try.ntmps100
  go_wp2
  go_region_law_o (refine step_append_runI rfl _ _ 105 105 rfl _ _ (by simp [Act.eval, Act.put]) (by simp [Act.eval, Act.put]) (hrm _) ?_)
  go_wp2_with (at_builtin; refine wpList_clear_runI _ rfl _ 105 rfl _ rfl (hcl _ (by rw [hW1]; rfl) _) ?_)
  go_ret
  refine ⟨_, rfl, HFIN.out _ (by rw [hW1]; try rfl) ?_⟩
  have h9 := HFR1.out
  rw [hW1] at h9
  first
    | exact h9
    | exact ((Fr.of_below (below_drew (Below.refl _ _))).trans h9 (fun _ h => .inl h))
    | exact h9.trans (Fr.of_below (F := fun _ => False) (below_drew (Below.refl _ _))) (fun _ h => h.elim)
    | exact ⟨h9.os, h9.tape, h9.output, h9.size, fun k hk hn => h9.block k hk hn⟩
set_option maxHeartbeats 8000000 in
set_option maxRecDepth 100000 in
theorem del_ord (W : World) (F : Nat → Prop) (v : Value) (n i : Nat) (cs : List Value) (h : OwP 33 6 v n cs W F) (hi : i < n) (hn : n ≤ 100000) :
    Calls Try.prog 99 #[v, .int .i64 i, .int .i64 ((i : Int) + 1)] W fun e w' => ∃ v', e = .returned v' ∧ St W F w' [OwP 33 6 v' (n - 1) (cs.take (i * 6) ++ cs.drop ((i + 1) * 6))] := by
  have ht := Try.underlying22
  obtain ⟨i0, hi0, hz0, hzs, hzb⟩ := info_parts inf_ord
  have h6 := h.2.2
  rcases h.block with ⟨_, q0, _⟩ | ⟨g, cap, cur, rfl, hF, hh, h1, h2, h3, h4, h5⟩
  · omega
  have hz2 : ((i : Int) == (i : Int) + 1) = false := beq_eq_false_iff_ne.mpr (by omega)
  have mixed : Try.prog.follows .mixedOrders = true := by kernel_rfl
  have him : i * 6 + 6 ≤ n * 6 := by rw [← Nat.succ_mul]; exact Nat.mul_le_mul_right _ hi
  have hnc : n * 6 ≤ cap * 6 := Nat.mul_le_mul_right _ h1
  have hb := cells_at hh h4
  obtain ⟨n1, hn1⟩ : ∃ n1, n1 = n - 1 := ⟨_, rfl⟩
  have hni : (n1 : Int) = (n : Int) - 1 := by omega
  have hnz : n1 * 6 + 6 = n * 6 := by rw [← Nat.succ_mul, hn1]; congr 1; omega
  have hdl : (cs.drop ((i + 1) * 6)).length = (n1 - i) * 6 := by rw [List.length_drop, h5, ← Nat.sub_mul]; congr 1; omega
  obtain ⟨V1, e1⟩ : ∃ V1, ∀ w : World, (Instr.slice 22 (.slice (some ⟨g, 0, none⟩) n cap) (some (.int .i64 i)) (some (.int .i64 ((i : Int) + 1))) (some (.int .i64 n))).run Try.prog w = .ok V1 w := ⟨_, fun w => cut_3 22 33 6 ht (by kernel_rfl) _ n cap i ((i : Int) + 1) n (by omega) (by omega) (by omega) (by omega) w⟩
  have e2 : ∀ w : World, (Instr.slice 22 (.slice (some ⟨g, 0, none⟩) n cap) none (some (.int .i64 i)) none).run Try.prog w = .ok (.slice (some ⟨g, 0, none⟩) i cap) w := fun w => by
    rw [cut_h' 22 33 .i64 6 ht (by kernel_rfl) _ n cap i (by omega) (by omega) w]
    simp
  obtain ⟨a9, ha9⟩ : ∃ a9, a9 = (if cap = i + 1 then (⟨g, 0, none⟩ : Addr) else ⟨g, (i + 1) * 6, none⟩) := ⟨_, rfl⟩
  have e3 : ∀ w : World, (Instr.slice 22 (.slice (some ⟨g, 0, none⟩) n cap) (some (.int .i64 ((i : Int) + 1))) none none).run Try.prog w = .ok (.slice (some a9) (n1 - i) (cap - (i + 1))) w := fun w => by
    rw [cut_lo3 22 33 6 ht (by kernel_rfl) _ n cap ((i : Int) + 1) (by omega) (by omega) w, show ((i : Int) + 1).toNat = i + 1 by omega, show n - (i + 1) = n1 - i by omega, ha9]
    by_cases c : cap = i + 1
    · rw [if_pos c, if_pos c]
    · rw [if_neg c, if_neg c, Option.map_some, Addr.add_lit, Nat.zero_add]
  have hnews : ∀ w : World, w.heap = W.heap → ∀ j u, (cs.drop ((i + 1) * 6))[j]? = some u → w.cell? (a9.add j) = some u := fun w hw j u hj => by
    have hlt := (List.getElem?_eq_some_iff.1 hj).1
    rw [hdl] at hlt
    have hc : ¬ cap = i + 1 := fun c => by
      rw [show n1 - i = 0 by omega] at hlt
      omega
    rw [ha9, if_neg hc, Addr.add_lit]
    have := cells_at (w := w) (by rw [hw]; exact hh) h4 ((i + 1) * 6 + j) u (by rwa [List.getElem?_drop] at hj)
    rwa [Nat.zero_add] at this
  have hrm : ∀ ty, (Builtin.append_ #[22, 22] ty #[.slice (some ⟨g, 0, none⟩) i cap, .slice (some a9) (n1 - i) (cap - (i + 1))]).run Try.prog W.drew = .ok (.slice (some ⟨g, 0, none⟩) n1 cap) (W.drew.setRow g (cur.toList.take (i * 6) ++ cs.drop ((i + 1) * 6) ++ cur.toList.drop (i * 6 + (cs.drop ((i + 1) * 6)).length)).toArray) := fun ty => by
    have h9 := run_append_room (P := Try.prog) W.drew 22 ty 33 i0 ht hi0 g i cap cur hh a9 (n1 - i) (cap - (i + 1)) (cs.drop ((i + 1) * 6)) (by rw [hzs]; exact hdl) (hnews W.drew rfl) (fun u hu => h6 u (List.mem_of_mem_drop hu)) (by omega) (by rw [hzs, hdl, ← Nat.add_mul, h3]; exact Nat.mul_le_mul_right _ (by omega))
    rw [show i + (n1 - i) = n1 by omega, hzs] at h9
    exact h9
  obtain ⟨R1, hR1⟩ : ∃ R1 : List Value, R1 = cur.toList.take (i * 6) ++ cs.drop ((i + 1) * 6) ++ cur.toList.drop (i * 6 + (cs.drop ((i + 1) * 6)).length) := ⟨_, rfl⟩
  have hR1l : R1.length = cap * 6 := by
    rw [hR1]
    simp only [List.length_append, List.length_take, List.length_drop, Array.length_toList, h3, h5]
    have : (i + 1) * 6 = i * 6 + 6 := Nat.succ_mul _ _
    omega
  have e4 : ∀ w : World, (Instr.slice 22 (.slice (some ⟨g, 0, none⟩) n1 cap) (some (.int .i64 n1)) (some (.int .i64 n)) none).run Try.prog w = .ok (.slice (some ⟨g, n1 * 6, none⟩) 1 (cap - n1)) w := fun w => by
    rw [cut_2 22 33 6 ht (by kernel_rfl) _ n1 cap n1 n (by omega) (by omega) (by omega) w, if_neg (by omega), Option.map_some, Addr.add_lit, Nat.zero_add, Int.toNat_natCast, Int.toNat_natCast, show n - n1 = 1 by omega]
  obtain ⟨W1, hW1⟩ : ∃ W1, W1 = W.drew.setRow g R1.toArray := ⟨_, rfl⟩
  have k1 : W1.heap[g]? = some (.cells R1.toArray 33 (0, 0)) := by rw [hW1]; exact setRow_heap W.drew g cur _ 33 _ hh
  rw [← hR1] at hrm
  have hfit : n1 * 6 + 6 ≤ R1.toArray.size := by simp only [List.size_toArray, hR1l]; omega
  have hcl : ∀ W2 : World, W2.heap = W1.heap → ∀ ty, (Builtin.clear_ #[22] ty #[.slice (some ⟨g, n1 * 6, none⟩) 1 (cap - n1)]).run Try.prog W2 = .ok (.tuple #[]) (W2.setCells g (n1 * 6) [.int .u64 0, .int .i64 0, .int .i64 0, .int .i64 0, .int .i64 0, .int .u64 0]) := fun W2 hW2 ty =>
    run_clear1 W2 22 33 ty (.agg #[.int .u64 0, .int .i64 0, .int .i64 0, .int .i64 0, .int .i64 0, .int .u64 0]) ht (fun w => by first | exact Try.zeroValue33 w | kernel_rfl) [.int .u64 0, .int .i64 0, .int .i64 0, .int .i64 0, .int .i64 0, .int .u64 0] (by first | rfl | kernel_rfl | decide) g (n1 * 6) (cap - n1)
      (fun j hj => by rw [blk_cell (w := W2) (by rw [hW2]; exact k1) _, Array.getElem?_eq_getElem (by simp at hj; omega)]; rfl)
      (fun j _ => blk_frozen (w := W2) (by rw [hW2]; exact k1) _) (by decide)
  have hfr1 : Fr F W W1 := by
    rw [hW1]
    exact ⟨rfl, rfl, rfl, by simp [World.setRow], fun k hk hn => setRow_other W.drew g k _ (fun e => hn (by rw [e]; exact hF))⟩
  have HFIN : Aside0 (∀ W2 : World, W2.heap = W1.heap → Fr F W W2 → St W F (W2.setCells g (n1 * 6) [.int .u64 0, .int .i64 0, .int .i64 0, .int .i64 0, .int .i64 0, .int .u64 0]) [OwP 33 6 (.slice (some ⟨g, 0, none⟩) n1 cap) (n - 1) (cs.take (i * 6) ++ cs.drop ((i + 1) * 6))]) := ⟨fun W2 hW2 hfr2 => by
    obtain ⟨cur3, q1, q2, q3⟩ := heap_setCells (w := W2) [.int .u64 0, .int .i64 0, .int .i64 0, .int .i64 0, .int .i64 0, .int .u64 0] (n1 * 6) R1.toArray (by rw [hW2]; exact k1) (by exact hfit)
    rw [← hn1]
    refine ⟨hfr2.setCells (.inl hF) _ _, F, fun k hk => .inl hk, OwP.loc, OwP.of hF q1 (by omega) h2 (by rw [q2]; simp only [List.size_toArray, hR1l]) ?_ ?_ ?_, trivial⟩
    · rw [q3, hR1, hn1]
      exact del_list (z := 6) (c := cap) hi (by rw [Array.length_toList, h3]; exact hnc) rfl cs h4
    · simp only [List.length_append, List.length_take, hdl, h5]
      have : (n1 - i) * 6 = n1 * 6 - i * 6 := Nat.sub_mul _ _ _
      omega
    · intro u hu
      rcases List.mem_append.1 hu with hu | hu
      · exact h6 u (List.mem_of_mem_take hu)
      · exact h6 u (List.mem_of_mem_drop hu)⟩
  have HFR1 := Aside0.mk hfr1
  have HNI := Aside0.mk hni
  clear h hi0 hz0 hzs hzb h6 hF hh h2 h3 h4 h5 hb hnz hdl hnews hR1 hR1l k1 hfit hfr1 ha9 hn1 hni
  go_enter Try.func99, Try.ntmps99
  go_wp2
  go_region_law_o (refine step_append_runI rfl _ _ 22 22 rfl _ _ (by simp [Act.eval, Act.put]) (by simp [Act.eval, Act.put]) (hrm _) ?_)
  go_wp2_with (at_builtin; refine wpList_clear_runI _ rfl _ 22 rfl _ rfl (hcl _ (by rw [hW1]; rfl) _) ?_)
  go_ret
  refine ⟨_, rfl, HFIN.out _ (by rw [hW1]; try rfl) ?_⟩
  have h9 := HFR1.out
  rw [hW1] at h9
  first
    | exact h9
    | exact ((Fr.of_below (below_drew (Below.refl _ _))).trans h9 (fun _ h => .inl h))
    | exact h9.trans (Fr.of_below (F := fun _ => False) (below_drew (Below.refl _ _))) (fun _ h => h.elim)
    | exact ⟨h9.os, h9.tape, h9.output, h9.size, fun k hk hn => h9.block k hk hn⟩
end Go.Proofs.Ytlihfiajbhpokaa.Lds
