/- Printed by this session's wip/drive.py over the translation; some functions by hand. -/
import Derived.Test.YtlihfiajbhpokaaZLdox0
import Derived.Test.YtlihfiajbhpokaaZLdox2
import Derived.Test.YtlihfiajbhpokaaZLdox4
namespace Go.Proofs.Ytlihfiajbhpokaa.Ldo
open Go.RowKit Go.Proofs.YtlihfiajbhpokaaW.PrintWords Go.Proofs.YtlihfiajbhpokaaW.PrintLast Go.Proofs.YtlihfiajbhpokaaW.PrintMore
attribute [local go_sem] max2_int min2_int max_two min_two max_three min_three max_four min_four
set_option linter.unusedVariables false
set_option linter.unusedSimpArgs false
theorem Stars.pack : ∀ {l1 l : List Part} {G : Nat → Prop} {w : World}, Stars (l1 ++ l) G w → ∃ F : Nat → Prop, (∀ k, F k → G k) ∧ Stars l1 F w ∧ Stars l (fun k => G k ∧ ¬ F k) w
  | [], _, _, _, h => ⟨fun _ => False, fun _ hk => hk.elim, trivial, h.mono (fun _ hk => ⟨hk, fun q => q⟩)⟩
  | _ :: _, _, _, _, ⟨F, h1, h2, h3, h4⟩ => by
    obtain ⟨F', k1, k2, k3⟩ := Stars.pack h4
    exact ⟨fun k => F k ∨ F' k, fun k hk => hk.elim (h1 k) (fun q => (k1 k q).1), ⟨F, fun k hk => .inl hk, h2, h3, k2.mono (fun k hk => ⟨.inr hk, (k1 k hk).2⟩)⟩, k3.mono (fun k hk => ⟨hk.1.1, fun q => q.elim hk.1.2 hk.2⟩)⟩
theorem Stars.unpack {l1 l : List Part} {F G : Nat → Prop} {w : World} (h : ∀ k, F k → G k) (h1 : Stars l1 F w) (h2 : Stars l (fun k => G k ∧ ¬ F k) w) : Stars (l1 ++ l) G w :=
  (Stars.append h1 h2 (fun _ hk q => q.2 hk)).mono (fun k hk => hk.elim (h k) (fun q => q.1))
theorem Stars.rot {l1 l2 : List Part} {G : Nat → Prop} {w : World} (h : Stars (l1 ++ l2) G w) : Stars (l2 ++ l1) G w := by
  obtain ⟨F, h1, h2, h3⟩ := h.pack
  exact (Stars.append h3 h2 (fun _ hk q => hk.2 q)).mono (fun k hk => hk.elim (fun q => q.1) (h1 k))
def oc (x : S33) : List Value := [.int .u64 x.f0, .int .i64 x.f1, .int .i64 x.f2, .int .i64 x.f3, .int .i64 x.f4, .int .u64 x.f5]
def ocs (q : List S33) : List Value := q.flatMap oc
theorem ocs_len (q : List S33) : (ocs q).length = q.length * 6 := by
  induction q with
  | nil => rfl
  | cons x q ih => show (oc x ++ ocs q).length = _; rw [List.length_append, ih, List.length_cons]; show 6 + _ = _; omega
theorem ocs_append (p q : List S33) : ocs (p ++ q) = ocs p ++ ocs q := List.flatMap_append
theorem ocs_take (q : List S33) (i : Nat) (h : i ≤ q.length) : (ocs q).take (i * 6) = ocs (q.take i) := by
  conv => lhs; rw [← List.take_append_drop i q, ocs_append]
  rw [List.take_append_of_le_length (by rw [ocs_len, List.length_take]; omega), List.take_of_length_le (by rw [ocs_len, List.length_take]; omega)]
theorem ocs_drop (q : List S33) (i : Nat) (h : i ≤ q.length) : (ocs q).drop (i * 6) = ocs (q.drop i) := by
  conv => lhs; rw [← List.take_append_drop i q, ocs_append]
  rw [List.drop_append, List.drop_eq_nil_of_le (by rw [ocs_len, List.length_take]; omega), ocs_len, List.length_take, Nat.min_eq_left h, Nat.sub_self, List.drop_zero, List.nil_append]
theorem oc_one {x : S33} : ∀ u ∈ oc x, u.oneCell' = true := fun u hu => by
  simp only [oc, List.mem_cons, List.not_mem_nil, or_false] at hu
  rcases hu with rfl | rfl | rfl | rfl | rfl | rfl <;> rfl
def QuP (v : Value) (q : List S33) : Part := OwP 33 6 v q.length (ocs q)
theorem QuP.loc {v : Value} {q : List S33} : Loc (QuP v q) := OwP.loc
abbrev RowM := Int × List S33
def rcs (es : List (Value × RowM)) : List Value := es.flatMap fun e => [.int .i64 e.2.1, e.1]
theorem rcs_len (es : List (Value × RowM)) : (rcs es).length = es.length * 2 := by
  induction es with
  | nil => rfl
  | cons x q ih => show ([_, _] ++ rcs q).length = _; rw [List.length_append, ih]; show 2 + q.length * 2 = (q.length + 1) * 2; omega
theorem rcs_append (p q : List (Value × RowM)) : rcs (p ++ q) = rcs p ++ rcs q := List.flatMap_append
theorem rcs_take (q : List (Value × RowM)) (i : Nat) (h : i ≤ q.length) : (rcs q).take (i * 2) = rcs (q.take i) := by
  conv => lhs; rw [← List.take_append_drop i q, rcs_append]
  rw [List.take_append_of_le_length (by rw [rcs_len, List.length_take]; omega), List.take_of_length_le (by rw [rcs_len, List.length_take]; omega)]
theorem rcs_drop (q : List (Value × RowM)) (i : Nat) (h : i ≤ q.length) : (rcs q).drop (i * 2) = rcs (q.drop i) := by
  conv => lhs; rw [← List.take_append_drop i q, rcs_append]
  rw [List.drop_append, List.drop_eq_nil_of_le (by rw [rcs_len, List.length_take]; omega), rcs_len, List.length_take, Nat.min_eq_left h, Nat.sub_self, List.drop_zero, List.nil_append]
def elsQ (es : List (Value × RowM)) : List Part := es.map fun e => QuP e.1 e.2.2
def SideP (v : Value) (rs : List RowM) : Part := fun w F => ∃ es : List (Value × RowM), rs = es.map Prod.snd ∧ Stars (OwP 115 2 v es.length (rcs es) :: elsQ es) F w
theorem SideP.loc {v : Value} {rs : List RowM} : Loc (SideP v rs) :=
  ⟨fun ⟨es, h1, h2⟩ hs hh => ⟨es, h1, h2.step hs hh⟩, fun ⟨es, h1, h2⟩ => ⟨es, h1, h2.bound⟩, fun ⟨es, h1, h2⟩ hh => ⟨es, h1, h2.mono hh⟩⟩
theorem SideP.nil (w : World) (F : Nat → Prop) : SideP (.slice none 0 0) [] w F := ⟨[], rfl, fun _ => False, fun _ hk => hk.elim, OwP.loc, OwP.nil, trivial⟩
section
variable {W w : World} {F0 : Nat → Prop} {l : List Part}
theorem St.sideOpen {v : Value} {rs : List RowM} (h : St W F0 w (SideP v rs :: l)) : ∃ es : List (Value × RowM), rs = es.map Prod.snd ∧ St W F0 w (OwP 115 2 v es.length (rcs es) :: (l ++ elsQ es)) := by
  obtain ⟨h0, F, h1, h2, ⟨es, he, F1, k1, k2, k3, k4⟩, h4⟩ := h
  refine ⟨es, he, h0, F1, fun k hk => h1 k (k1 k hk), k2, k3, ?_⟩
  exact Stars.rot (l1 := elsQ es) (Stars.unpack (F := fun k => F k ∧ ¬ F1 k) (fun k hk => ⟨h1 k hk.1, hk.2⟩) k4 (h4.mono (fun k hk => ⟨⟨hk.1, fun q => hk.2 (k1 k q)⟩, fun q => hk.2 q.1⟩)))
theorem St.sideShut {v : Value} {es : List (Value × RowM)} (h : St W F0 w (OwP 115 2 v es.length (rcs es) :: (l ++ elsQ es))) : St W F0 w (SideP v (es.map Prod.snd) :: l) := by
  obtain ⟨h0, F1, k1, k2, k3, k4⟩ := h
  obtain ⟨F2, j1, j2, j3⟩ := (Stars.rot k4).pack
  exact ⟨h0, fun k => F1 k ∨ F2 k, fun k hk => hk.elim (k1 k) (fun q => (j1 k q).1), SideP.loc, ⟨es, rfl, F1, fun k hk => .inl hk, k2, k3, j2.mono (fun k hk => ⟨.inr hk, (j1 k hk).2⟩)⟩, j3.mono (fun k hk => ⟨hk.1.1, fun q => q.elim hk.1.2 hk.2⟩)⟩
def BookP (g : Nat) (rs0 rs1 : List RowM) (m : Nat) : Part := fun w F => ∃ v0 v1 : Value, Stars [Pt g #[v0, v1, .bool true, .int .i64 m] 108, SideP v0 rs0, SideP v1 rs1] F w
theorem BookP.loc {g m : Nat} {rs0 rs1 : List RowM} : Loc (BookP g rs0 rs1 m) :=
  ⟨fun ⟨v0, v1, h2⟩ hs hh => ⟨v0, v1, h2.step hs hh⟩, fun ⟨v0, v1, h2⟩ => ⟨v0, v1, h2.bound⟩, fun ⟨v0, v1, h2⟩ hh => ⟨v0, v1, h2.mono hh⟩⟩
theorem St.bookOpen {g m : Nat} {rs0 rs1 : List RowM} (h : St W F0 w (BookP g rs0 rs1 m :: l)) : ∃ v0 v1 : Value, St W F0 w (Pt g #[v0, v1, .bool true, .int .i64 m] 108 :: SideP v0 rs0 :: SideP v1 rs1 :: l) := by
  obtain ⟨h0, F, h1, h2, ⟨v0, v1, hs⟩, h4⟩ := h
  exact ⟨v0, v1, h0, Stars.unpack (l1 := [_, _, _]) h1 hs h4⟩
theorem St.bookShut {g m : Nat} {rs0 rs1 : List RowM} {v0 v1 : Value} (h : St W F0 w (Pt g #[v0, v1, .bool true, .int .i64 m] 108 :: SideP v0 rs0 :: SideP v1 rs1 :: l)) : St W F0 w (BookP g rs0 rs1 m :: l) := by
  obtain ⟨h0, hs⟩ := h
  obtain ⟨F, h1, h2, h3⟩ := Stars.pack (l1 := [_, _, _]) hs
  exact ⟨h0, F, h1, BookP.loc, ⟨v0, v1, h2⟩, h3⟩
end
set_option maxHeartbeats 8000000 in
set_option maxRecDepth 100000 in
theorem ladder_new (w : World) : Calls Try.prog 35 #[] w fun e w' => ∃ g, e = .returned (.pointer (some ⟨g, 0, none⟩)) ∧ St w (fun _ => False) w' [BookP g [] [] 0] := by
  have hu := Try.underlying108
  have S0 := St.start w (fun _ => False)
  go_enter Try.func35, Try.ntmps35
  go_wp2_with ((with_reducible refine gate_dst (N := 2) rfl ?_); refine box_event ?hg (N := 2) ?hd (cs := #[.slice none 0 0, .slice none 0 0, .bool true, .int .i64 0]) (t := 108) ?hr ?_; (case hd => rfl); (case hg => rfl); (case hr => first | (go_simp; done) | (go_simp; rfl)); intro g hg_ w1 hbB hb; have S1 := S0.box hg_ hb hbB; clear S0 hg_ hbB hb)
  go_ret
  refine ⟨g, rfl, St.bookShut (v0 := .slice none 0 0) (v1 := .slice none 0 0) ?_⟩
  have S2 := S1.new (Below.refl _ _) SideP.loc (SideP.nil _ _)
  have S3 := S2.new (Below.refl _ _) SideP.loc (SideP.nil _ _)
  exact S3.front 2 rfl
set_option maxHeartbeats 8000000 in
set_option maxRecDepth 100000 in
theorem ladder_none {W : World} {g : Nat} {v0 v1 u : Value} (hb : W.heap[g]? = some (.cells #[v0, v1, .bool true, u] 108 (0, 0))) :
    Calls Try.prog 69 #[.pointer (some ⟨g, 0, none⟩)] W fun e w' => e = .returned (.bool false) ∧ w' = W := by
  have z2 : W.cell? ⟨g, 2, none⟩ = some (.bool true) := (blk_cell hb 2).trans rfl
  clear hb
  go_enter Try.func69, Try.ntmps69
  go_wp2
  go_ret
  exact ⟨rfl, rfl⟩
set_option maxHeartbeats 8000000 in
set_option maxRecDepth 100000 in
theorem ladder_side {W : World} {g : Nat} {v0 v1 u : Value} (hb : W.heap[g]? = some (.cells #[v0, v1, .bool true, u] 108 (0, 0))) (k : Nat) (hk : k < 2) :
    Calls Try.prog 71 #[.pointer (some ⟨g, 0, none⟩), .int .i64 ((k : Int) + 1)] W fun e w' => e = .returned (.pointer (some ⟨g, k, none⟩)) ∧ w' = W := by
  have HB := Aside0.mk hb
  clear hb
  have hc : k = 0 ∨ k = 1 := by omega
  rcases hc with rfl | rfl
  · go_enter Try.func71, Try.ntmps71
    go_wp2_with (go_at_call 69; refine (ladder_none HB.out).mono ?_; rintro e w1 ⟨rfl, rfl⟩)
    go_ret
    exact ⟨rfl, rfl⟩
  · go_enter Try.func71, Try.ntmps71
    go_wp2_with (go_at_call 69; refine (ladder_none HB.out).mono ?_; rintro e w1 ⟨rfl, rfl⟩)
    go_ret
    exact ⟨rfl, rfl⟩
def ixQ (P : S33 → Bool) (q : List S33) : Int := match q.findIdx? P with | some k => (k : Int) | none => -1
theorem ixQ_hit {P : S33 → Bool} {q : List S33} {j : Nat} {x : S33} (hx : q[j]? = some x) (hp : P x = true) (hn : ∀ (k : Nat) (y : S33), k < j → q[k]? = some y → P y = false) : ixQ P q = j := by
  have h : q.findIdx? P = some j := by
    rw [List.findIdx?_eq_some_iff_getElem]
    obtain ⟨hl, he⟩ := List.getElem?_eq_some_iff.1 hx
    refine ⟨hl, by rw [he]; exact hp, fun k hk => by rw [hn k _ hk (List.getElem?_eq_getElem (by omega))]; simp⟩
  unfold ixQ
  rw [h]
theorem ixQ_none {P : S33 → Bool} {q : List S33} (hn : ∀ (k : Nat) (y : S33), q[k]? = some y → P y = false) : ixQ P q = -1 := by
  have h : q.findIdx? P = none := by
    rw [List.findIdx?_eq_none_iff]
    intro y hy
    obtain ⟨k, hk⟩ := List.mem_iff_getElem?.1 hy
    exact hn k y hk
  unfold ixQ
  rw [h]
theorem oc_at {q : List S33} {j : Nat} {x : S33} (h : q[j]? = some x) (k : Nat) (hk : k < 6) : (ocs q)[j * 6 + k]? = (oc x)[k]? := by
  obtain ⟨hl, he⟩ := List.getElem?_eq_some_iff.1 h
  have h1 : ocs q = ocs (q.take j) ++ (oc x ++ ocs (q.drop (j + 1))) := by
    conv => lhs; rw [← List.take_append_drop j q, ocs_append, List.drop_eq_getElem_cons hl, he]
    rfl
  rw [h1, List.getElem?_append_right (by rw [ocs_len, List.length_take]; omega), ocs_len, List.length_take, Nat.min_eq_left (by omega), show j * 6 + k - j * 6 = k by omega, List.getElem?_append_left (by exact hk)]
theorem QuP.cells {v : Value} {q : List S33} {w : World} {F : Nat → Prop} (h : QuP v q w F) : ∃ A c, v = .slice A q.length c ∧ q.length ≤ c ∧ ∀ (j : Nat) x, q[j]? = some x → ∃ ad, A = some ad ∧ ∀ k u, (oc x)[k]? = some u → w.cell? (ad.add (j * 6 + k)) = some u := by
  have h1 := h.2.1
  rcases h.block with ⟨rfl, hq, _⟩ | ⟨g, cap, cur, rfl, _, hh, r1, _, _, r4, _⟩
  · exact ⟨none, 0, by rw [hq], by omega, fun j x hx => by have := (List.getElem?_eq_some_iff.1 hx).1; omega⟩
  · refine ⟨_, _, rfl, r1, fun j x hx => ⟨_, rfl, fun k u hu => ?_⟩⟩
    have hk : k < 6 := (List.getElem?_eq_some_iff.1 hu).1
    rw [Addr.add_lit]
    exact cells_at hh r4 (j * 6 + k) u (by rw [oc_at hx k hk]; exact hu)
theorem QuP.reads {v : Value} {q : List S33} {w : World} {F : Nat → Prop} (h : QuP v q w F) : ∃ A c, v = .slice A q.length c ∧ ∀ (j : Nat) x, q[j]? = some x → ∃ ad, A = some ad ∧ w.cell? (ad.add (j * 6)) = some (.int .u64 x.f0) ∧ w.cell? ⟨(ad.add (j * 6)).block, (ad.add (j * 6)).off + 1, none⟩ = some (.int .i64 x.f1) ∧ w.cell? ⟨(ad.add (j * 6)).block, (ad.add (j * 6)).off + 2, none⟩ = some (.int .i64 x.f2) ∧ w.cell? ⟨(ad.add (j * 6)).block, (ad.add (j * 6)).off + 3, none⟩ = some (.int .i64 x.f3) ∧ w.cell? ⟨(ad.add (j * 6)).block, (ad.add (j * 6)).off + 4, none⟩ = some (.int .i64 x.f4) ∧ w.cell? ⟨(ad.add (j * 6)).block, (ad.add (j * 6)).off + 5, none⟩ = some (.int .u64 x.f5) := by
  rcases h.block with ⟨rfl, hq, _⟩ | ⟨g, cap, cur, rfl, _, hh, r1, _, _, r4, _⟩
  · exact ⟨none, 0, by rw [hq], fun j x hx => by have := (List.getElem?_eq_some_iff.1 hx).1; omega⟩
  · refine ⟨_, _, rfl, fun j x hx => ⟨_, rfl, ?_⟩⟩
    have hk : ∀ k u, (oc x)[k]? = some u → w.cell? ⟨g, 0 + j * 6 + k, none⟩ = some u := fun k u hu => by
      have hk : k < 6 := (List.getElem?_eq_some_iff.1 hu).1
      have := cells_at hh r4 (j * 6 + k) u (by rw [oc_at hx k hk]; exact hu)
      rw [← Nat.add_assoc] at this
      exact this
    have hA : (⟨g, 0, none⟩ : Addr).add (j * 6) = ⟨g, 0 + j * 6, none⟩ := Addr.add_lit ..
    rw [hA]
    exact ⟨hk 0 _ rfl, hk 1 _ rfl, hk 2 _ rfl, hk 3 _ rfl, hk 4 _ rfl, hk 5 _ rfl⟩
theorem QuP.small {v : Value} {q : List S33} {w : World} {F : Nat → Prop} (h : QuP v q w F) : q.length ≤ maxLen := by
  rcases h.block with ⟨_, hq, _⟩ | ⟨g, cap, cur, _, _, _, r1, r2, _⟩
  · rw [hq]; exact Nat.zero_le _
  · exact Nat.le_trans r1 r2
theorem wrap_m (n : Nat) (h : n < maxLen) : wrap64 ((n : Int) + 1) = ((n + 1 : Nat) : Int) := by unfold maxLen at h; unfold wrap64; omega
set_option maxHeartbeats 8000000 in
set_option maxRecDepth 100000 in
theorem ixq_find {v : Value} {q : List S33} {W : World} {F : Nat → Prop} (hq : QuP v q W F) (P : S33 → Bool) (C : Value)
    (hp : ∀ (W' : World) (x : S33), Below W.heap.size W W' → Calls Try.prog 91 #[.agg #[.int .u64 x.f0, .int .i64 x.f1, .int .i64 x.f2, .int .i64 x.f3, .int .i64 x.f4, .int .u64 x.f5], C] W' fun e w' => e = .returned (.bool (P x)) ∧ Below W'.heap.size W' w') :
    Calls Try.prog 74 #[v, .func (.func 91) #[] #[C]] W fun e w' => e = .returned (.int .i64 (ixQ P q)) ∧ Below W.heap.size W w' := by
  have hu33 := Try.underlying33
  have hm : q.length ≤ maxLen := hq.small
  obtain ⟨A, c, rfl, hx⟩ := hq.reads
  have HX := Aside0.mk hx
  have HP := Aside0.mk hp
  have HB := Aside0.mk (Below.refl W.heap.size W)
  have HM := Aside0.mk hm
  clear hx hp hm hq
  go_enter Try.func74, Try.ntmps74
  go_wp2
  go_loopg [8] q.length (fun kq v8 wr => ∃ i : Nat, v8 = .int .i64 (i : Int) ∧ Aside0 (i + kq = q.length) ∧ Aside0 (∀ (k : Nat) (y : S33), k < i → q[k]? = some y → P y = false) ∧ Aside0 (Below W.heap.size W wr))
  case atStart => exact ⟨0, rfl, ⟨by omega⟩, ⟨fun k y hk => by omega⟩, HB⟩
  case round =>
    clear HB
    obtain ⟨i, rfl, HI, HA, HB⟩ := hrel
    have hi0 : (0 : Int) ≤ (i : Int) := Int.natCast_nonneg i
    by_cases hlt : i < q.length
    · have hlt' : (i : Int) < (q.length : Int) := by omega
      have hd : decide ((i : Int) < (q.length : Int)) = true := decide_eq_true hlt'
      obtain ⟨x, hxe⟩ : ∃ x, q[i]? = some x := ⟨_, List.getElem?_eq_getElem hlt⟩
      have HXE := Aside0.mk hxe
      obtain ⟨ad, rfl, c0, c1, c2, c3, c4, c5⟩ := HX.out i x hxe
      clear hxe
      replace c0 := (HB.out.cell (World.block_lt_of_cell? W _ c0)).trans c0
      replace c1 := (HB.out.cell (World.block_lt_of_cell? W _ c1)).trans c1
      replace c2 := (HB.out.cell (World.block_lt_of_cell? W _ c2)).trans c2
      replace c3 := (HB.out.cell (World.block_lt_of_cell? W _ c3)).trans c3
      replace c4 := (HB.out.cell (World.block_lt_of_cell? W _ c4)).trans c4
      replace c5 := (HB.out.cell (World.block_lt_of_cell? W _ c5)).trans c5
      cases hpx : P x with
      | true =>
        have HPP := Aside0.mk hpx
        have HC := Aside0.mk (HP.out _ x HB.out)
        rw [hpx] at HC
        clear hpx
        go_wp2_with (go_at_call 91; refine HC.out.mono ?_; rintro e w1 ⟨rfl, hb⟩; have HB1 := Aside0.mk hb; clear hb)
        go_ret
        exact ⟨ret_int (ixQ_hit HXE.out HPP.out HA.out).symm, below_step HB.out HB1.out⟩
      | false =>
        have HPP := Aside0.mk hpx
        have HC := Aside0.mk (HP.out _ x HB.out)
        rw [hpx] at HC
        clear hpx
        go_wp2_with (go_at_call 91; refine HC.out.mono ?_; rintro e w1 ⟨rfl, hb⟩; have HB1 := Aside0.mk (below_step HB.out hb); clear hb)
        go_roundg (gk - 1)
        case measure => have := HI.out; omega
        case rel =>
          have hw : wrap64 ((i : Int) + 1) = ((i + 1 : Nat) : Int) := wrap_m _ (by have := HM.out; omega)
          exact ⟨i + 1, by rw [← hw], ⟨by have := HI.out; omega⟩, ⟨fun k y hk hy => by
            by_cases e : k < i
            · exact HA.out k y e hy
            · obtain rfl : k = i := by omega
              have := HXE.out
              rw [hy] at this; cases this; exact HPP.out⟩, HB1⟩
    · have hlt' : ¬ (i : Int) < (q.length : Int) := by omega
      have hd : decide ((i : Int) < (q.length : Int)) = false := decide_eq_false hlt'
      go_wp2
      go_ret
      exact ⟨ret_int (ixQ_none (fun k y hy => HA.out k y (by have := (List.getElem?_eq_some_iff.1 hy).1; omega) hy)).symm, HB.out⟩
set_option maxHeartbeats 8000000 in
set_option maxRecDepth 100000 in
theorem ixq_add {v : Value} {q : List S33} {W : World} {F : Nat → Prop} (hq : QuP v q W F) (P : S33 → Bool) (C : Value)
    (hp : ∀ (W' : World) (x : S33), Below W.heap.size W W' → Calls Try.prog 75 #[.agg #[.int .u64 x.f0, .int .i64 x.f1, .int .i64 x.f2, .int .i64 x.f3, .int .i64 x.f4, .int .u64 x.f5], C] W' fun e w' => e = .returned (.bool (P x)) ∧ Below W'.heap.size W' w') :
    Calls Try.prog 74 #[v, .func (.func 75) #[] #[C]] W fun e w' => e = .returned (.int .i64 (ixQ P q)) ∧ Below W.heap.size W w' := by
  have hu33 := Try.underlying33
  have hm : q.length ≤ maxLen := hq.small
  obtain ⟨A, c, rfl, hx⟩ := hq.reads
  have HX := Aside0.mk hx
  have HP := Aside0.mk hp
  have HB := Aside0.mk (Below.refl W.heap.size W)
  have HM := Aside0.mk hm
  clear hx hp hm hq
  go_enter Try.func74, Try.ntmps74
  go_wp2
  go_loopg [8] q.length (fun kq v8 wr => ∃ i : Nat, v8 = .int .i64 (i : Int) ∧ Aside0 (i + kq = q.length) ∧ Aside0 (∀ (k : Nat) (y : S33), k < i → q[k]? = some y → P y = false) ∧ Aside0 (Below W.heap.size W wr))
  case atStart => exact ⟨0, rfl, ⟨by omega⟩, ⟨fun k y hk => by omega⟩, HB⟩
  case round =>
    clear HB
    obtain ⟨i, rfl, HI, HA, HB⟩ := hrel
    have hi0 : (0 : Int) ≤ (i : Int) := Int.natCast_nonneg i
    by_cases hlt : i < q.length
    · have hlt' : (i : Int) < (q.length : Int) := by omega
      have hd : decide ((i : Int) < (q.length : Int)) = true := decide_eq_true hlt'
      obtain ⟨x, hxe⟩ : ∃ x, q[i]? = some x := ⟨_, List.getElem?_eq_getElem hlt⟩
      have HXE := Aside0.mk hxe
      obtain ⟨ad, rfl, c0, c1, c2, c3, c4, c5⟩ := HX.out i x hxe
      clear hxe
      replace c0 := (HB.out.cell (World.block_lt_of_cell? W _ c0)).trans c0
      replace c1 := (HB.out.cell (World.block_lt_of_cell? W _ c1)).trans c1
      replace c2 := (HB.out.cell (World.block_lt_of_cell? W _ c2)).trans c2
      replace c3 := (HB.out.cell (World.block_lt_of_cell? W _ c3)).trans c3
      replace c4 := (HB.out.cell (World.block_lt_of_cell? W _ c4)).trans c4
      replace c5 := (HB.out.cell (World.block_lt_of_cell? W _ c5)).trans c5
      cases hpx : P x with
      | true =>
        have HPP := Aside0.mk hpx
        have HC := Aside0.mk (HP.out _ x HB.out)
        rw [hpx] at HC
        clear hpx
        go_wp2_with (go_at_call 75; refine HC.out.mono ?_; rintro e w1 ⟨rfl, hb⟩; have HB1 := Aside0.mk hb; clear hb)
        go_ret
        exact ⟨ret_int (ixQ_hit HXE.out HPP.out HA.out).symm, below_step HB.out HB1.out⟩
      | false =>
        have HPP := Aside0.mk hpx
        have HC := Aside0.mk (HP.out _ x HB.out)
        rw [hpx] at HC
        clear hpx
        go_wp2_with (go_at_call 75; refine HC.out.mono ?_; rintro e w1 ⟨rfl, hb⟩; have HB1 := Aside0.mk (below_step HB.out hb); clear hb)
        go_roundg (gk - 1)
        case measure => have := HI.out; omega
        case rel =>
          have hw : wrap64 ((i : Int) + 1) = ((i + 1 : Nat) : Int) := wrap_m _ (by have := HM.out; omega)
          exact ⟨i + 1, by rw [← hw], ⟨by have := HI.out; omega⟩, ⟨fun k y hk hy => by
            by_cases e : k < i
            · exact HA.out k y e hy
            · obtain rfl : k = i := by omega
              have := HXE.out
              rw [hy] at this; cases this; exact HPP.out⟩, HB1⟩
    · have hlt' : ¬ (i : Int) < (q.length : Int) := by omega
      have hd : decide ((i : Int) < (q.length : Int)) = false := decide_eq_false hlt'
      go_wp2
      go_ret
      exact ⟨ret_int (ixQ_none (fun k y hy => HA.out k y (by have := (List.getElem?_eq_some_iff.1 hy).1; omega) hy)).symm, HB.out⟩
def bet (s a b : Int) : Bool := if s = 2 then decide (a < b) else if s = 1 then decide (b < a) else false
set_option maxHeartbeats 8000000 in
set_option maxRecDepth 100000 in
theorem order_better (W : World) (s a b : Int) : Calls Try.prog 23 #[.int .i64 s, .int .i64 a, .int .i64 b] W fun e w' => e = .returned (.bool (bet s a b)) ∧ w' = W := by
  by_cases h2 : s = 2
  · subst h2
    go_enter Try.func23, Try.ntmps23
    go_wp2
    go_ret
    exact ⟨rfl, rfl⟩
  · by_cases h1 : s = 1
    · subst h1
      go_enter Try.func23, Try.ntmps23
      go_wp2
      go_ret
      exact ⟨rfl, rfl⟩
    · have hb : bet s a b = false := by unfold bet; rw [if_neg h2, if_neg h1]
      have q2 : (s == 2) = false := by simpa using h2
      have q1 : (s == 1) = false := by simpa using h1
      have d2 : decide (s = 2) = false := by simpa using h2
      have d1 : decide (s = 1) = false := by simpa using h1
      rw [hb]
      clear hb h1 h2
      go_enter Try.func23, Try.ntmps23
      go_wp2
      go_ret
      exact ⟨rfl, rfl⟩
set_option maxHeartbeats 8000000 in
set_option maxRecDepth 100000 in
theorem ladder_at1 (W : World) (p : Int) (v : Value) (g1 g2 : Nat) (side price : Int) (k1 : W.cell? ⟨g1, 0, none⟩ = some (.int .i64 side)) (k2 : W.cell? ⟨g2, 0, none⟩ = some (.int .i64 price)) :
    Calls Try.prog 93 #[.agg #[.int .i64 p, v], .pointer (some ⟨g1, 0, none⟩), .pointer (some ⟨g2, 0, none⟩)] W fun e w' => e = .returned (.bool (!bet side p price)) ∧ Below W.heap.size W w' := by
  have hu := Try.underlying115
  have HB := Aside0.mk (Below.refl W.heap.size W)
  have hB : g1 < W.heap.size := World.block_lt_of_cell? W ⟨g1, 0, none⟩ k1
  have hB2 : g2 < W.heap.size := World.block_lt_of_cell? W ⟨g2, 0, none⟩ k2
  go_enter Try.func93, Try.ntmps93
  go_wp2_with (go_at_call 23; refine (order_better _ _ _ _).mono ?_; rintro e w1 ⟨rfl, rfl⟩)
  go_ret
  exact ⟨rfl, by repeat (first | (with_reducible first | exact HB.out | apply below_alloc | apply pw_below_drewN | apply below_drew1) | exact HB.out)⟩
theorem OwP.small {e sz n : Nat} {v : Value} {cs : List Value} {w : World} {F : Nat → Prop} (h : OwP e sz v n cs w F) : n ≤ maxLen := by
  rcases h.block with ⟨_, hq, _⟩ | ⟨g, cap, cur, _, _, _, r1, r2, _⟩
  · rw [hq]; exact Nat.zero_le _
  · exact Nat.le_trans r1 r2
def ixL {α : Type} (P : α → Bool) (q : List α) : Int := match q.findIdx? P with | some k => (k : Int) | none => -1
theorem ixL_hit {α : Type} {P : α → Bool} {q : List α} {j : Nat} {x : α} (hx : q[j]? = some x) (hp : P x = true) (hn : ∀ (k : Nat) (y : α), k < j → q[k]? = some y → P y = false) : ixL P q = j := by
  have h : q.findIdx? P = some j := by
    rw [List.findIdx?_eq_some_iff_getElem]
    obtain ⟨hl, he⟩ := List.getElem?_eq_some_iff.1 hx
    refine ⟨hl, by rw [he]; exact hp, fun k hk => by rw [hn k _ hk (List.getElem?_eq_getElem (by omega))]; simp⟩
  unfold ixL
  rw [h]
theorem ixL_none {α : Type} {P : α → Bool} {q : List α} (hn : ∀ (k : Nat) (y : α), q[k]? = some y → P y = false) : ixL P q = -1 := by
  have h : q.findIdx? P = none := by
    rw [List.findIdx?_eq_none_iff]
    intro y hy
    obtain ⟨k, hk⟩ := List.mem_iff_getElem?.1 hy
    exact hn k y hk
  unfold ixL
  rw [h]
theorem rcs_at {q : List (Value × RowM)} {j : Nat} {x : Value × RowM} (h : q[j]? = some x) (k : Nat) (hk : k < 2) : (rcs q)[j * 2 + k]? = [Value.int .i64 x.2.1, x.1][k]? := by
  obtain ⟨hl, he⟩ := List.getElem?_eq_some_iff.1 h
  have h1 : rcs q = rcs (q.take j) ++ ([Value.int .i64 x.2.1, x.1] ++ rcs (q.drop (j + 1))) := by
    conv => lhs; rw [← List.take_append_drop j q, rcs_append, List.drop_eq_getElem_cons hl, he]
    rfl
  rw [h1, List.getElem?_append_right (by rw [rcs_len, List.length_take]; omega), rcs_len, List.length_take, Nat.min_eq_left (by omega), show j * 2 + k - j * 2 = k by omega, List.getElem?_append_left (by exact hk)]
theorem rcs_reads {v : Value} {q : List (Value × RowM)} {w : World} {F : Nat → Prop} (h : OwP 115 2 v q.length (rcs q) w F) : ∃ A c, v = .slice A q.length c ∧ ∀ (j : Nat) x, q[j]? = some x → ∃ ad, A = some ad ∧ w.cell? (ad.add (j * 2)) = some (.int .i64 x.2.1) ∧ w.cell? ⟨(ad.add (j * 2)).block, (ad.add (j * 2)).off + 1, none⟩ = some x.1 := by
  rcases h.block with ⟨rfl, hq, _⟩ | ⟨g, cap, cur, rfl, _, hh, r1, _, _, r4, _⟩
  · exact ⟨none, 0, by rw [hq], fun j x hx => by have := (List.getElem?_eq_some_iff.1 hx).1; omega⟩
  · refine ⟨_, _, rfl, fun j x hx => ⟨_, rfl, ?_⟩⟩
    have hk : ∀ k u, [Value.int .i64 x.2.1, x.1][k]? = some u → w.cell? ⟨g, 0 + j * 2 + k, none⟩ = some u := fun k u hu => by
      have hk : k < 2 := (List.getElem?_eq_some_iff.1 hu).1
      have := cells_at hh r4 (j * 2 + k) u (by rw [rcs_at hx k hk]; exact hu)
      rw [← Nat.add_assoc] at this
      exact this
    have hA : (⟨g, 0, none⟩ : Addr).add (j * 2) = ⟨g, 0 + j * 2, none⟩ := Addr.add_lit ..
    rw [hA]
    exact ⟨hk 0 _ rfl, hk 1 _ rfl⟩
theorem OwP.below {e sz n : Nat} {v : Value} {cs : List Value} {w w' : World} {F : Nat → Prop} (h : OwP e sz v n cs w F) (hb : Below w.heap.size w w') : OwP e sz v n cs w' F := OwP.loc.step h hb.size (fun k _ hk => hb.block k hk)
set_option maxHeartbeats 8000000 in
set_option maxRecDepth 100000 in
theorem ixr_at {v : Value} {q : List (Value × RowM)} {W : World} {F : Nat → Prop} (hq : OwP 115 2 v q.length (rcs q) W F) (P : Value × RowM → Bool) (C D : Value)
    (hp : ∀ (W' : World) (x : Value × RowM), Below W.heap.size W W' → Calls Try.prog 93 #[.agg #[.int .i64 x.2.1, x.1], C, D] W' fun e w' => e = .returned (.bool (P x)) ∧ Below W'.heap.size W' w') :
    Calls Try.prog 92 #[v, .func (.func 93) #[] #[C, D]] W fun e w' => e = .returned (.int .i64 (ixL P q)) ∧ Below W.heap.size W w' := by
  have hu115 := Try.underlying115
  have hm : q.length ≤ maxLen := OwP.small hq
  obtain ⟨A, c, rfl, hx⟩ := rcs_reads hq
  have HX := Aside0.mk hx
  have HP := Aside0.mk hp
  have HB := Aside0.mk (Below.refl W.heap.size W)
  have HM := Aside0.mk hm
  clear hx hp hm hq
  go_enter Try.func92, Try.ntmps92
  go_wp2
  go_loopg [8] q.length (fun kq v8 wr => ∃ i : Nat, v8 = .int .i64 (i : Int) ∧ Aside0 (i + kq = q.length) ∧ Aside0 (∀ (k : Nat) (y : Value × RowM), k < i → q[k]? = some y → P y = false) ∧ Aside0 (Below W.heap.size W wr))
  case atStart => exact ⟨0, rfl, ⟨by omega⟩, ⟨fun k y hk => by omega⟩, HB⟩
  case round =>
    clear HB
    obtain ⟨i, rfl, HI, HA, HB⟩ := hrel
    have hi0 : (0 : Int) ≤ (i : Int) := Int.natCast_nonneg i
    by_cases hlt : i < q.length
    · have hlt' : (i : Int) < (q.length : Int) := by omega
      have hd : decide ((i : Int) < (q.length : Int)) = true := decide_eq_true hlt'
      obtain ⟨x, hxe⟩ : ∃ x, q[i]? = some x := ⟨_, List.getElem?_eq_getElem hlt⟩
      have HXE := Aside0.mk hxe
      obtain ⟨ad, rfl, c0, c1⟩ := HX.out i x hxe
      clear hxe
      replace c0 := (HB.out.cell (World.block_lt_of_cell? W _ c0)).trans c0
      replace c1 := (HB.out.cell (World.block_lt_of_cell? W _ c1)).trans c1
      cases hpx : P x with
      | true =>
        have HPP := Aside0.mk hpx
        have HC := Aside0.mk (HP.out _ x HB.out)
        rw [hpx] at HC
        clear hpx
        go_wp2_with (go_at_call 93; refine HC.out.mono ?_; rintro e w1 ⟨rfl, hb⟩; have HB1 := Aside0.mk hb; clear hb)
        go_ret
        exact ⟨ret_int (ixL_hit HXE.out HPP.out HA.out).symm, below_step HB.out HB1.out⟩
      | false =>
        have HPP := Aside0.mk hpx
        have HC := Aside0.mk (HP.out _ x HB.out)
        rw [hpx] at HC
        clear hpx
        go_wp2_with (go_at_call 93; refine HC.out.mono ?_; rintro e w1 ⟨rfl, hb⟩; have HB1 := Aside0.mk (below_step HB.out hb); clear hb)
        go_roundg (gk - 1)
        case measure => have := HI.out; omega
        case rel =>
          have hw : wrap64 ((i : Int) + 1) = ((i + 1 : Nat) : Int) := wrap_m _ (by have := HM.out; omega)
          exact ⟨i + 1, by rw [← hw], ⟨by have := HI.out; omega⟩, ⟨fun k y hk hy => by
            by_cases e : k < i
            · exact HA.out k y e hy
            · obtain rfl : k = i := by omega
              have := HXE.out
              rw [hy] at this; cases this; exact HPP.out⟩, HB1⟩
    · have hlt' : ¬ (i : Int) < (q.length : Int) := by omega
      have hd : decide ((i : Int) < (q.length : Int)) = false := decide_eq_false hlt'
      go_wp2
      go_ret
      exact ⟨ret_int (ixL_none (fun k y hy => HA.out k y (by have := (List.getElem?_eq_some_iff.1 hy).1; omega) hy)).symm, HB.out⟩
def atN (side price : Int) (q : List (Value × RowM)) : Nat := q.findIdx (fun x => !bet side x.2.1 price)
theorem atN_eq (side price : Int) (q : List (Value × RowM)) : ((atN side price q : Nat) : Int) = if ixL (fun x : Value × RowM => !bet side x.2.1 price) q < 0 then (q.length : Int) else ixL (fun x : Value × RowM => !bet side x.2.1 price) q := by
  unfold atN ixL
  cases h : q.findIdx? (fun x : Value × RowM => !bet side x.2.1 price) with
  | none =>
    have := List.findIdx_eq_length.2 (List.findIdx?_eq_none_iff.1 h)
    rw [this]
    rfl
  | some k =>
    have h1 := (List.findIdx?_eq_some_iff_findIdx_eq.1 h).2
    rw [h1]
    show (k : Int) = if (k : Int) < 0 then _ else (k : Int)
    rw [if_neg (by omega)]
set_option maxHeartbeats 8000000 in
set_option maxRecDepth 100000 in
theorem ladder_at {v : Value} {q : List (Value × RowM)} {W : World} {F : Nat → Prop} (hq : OwP 115 2 v q.length (rcs q) W F) (side price : Int) :
    Calls Try.prog 72 #[v, .int .i64 side, .int .i64 price] W fun e w' => e = .returned (.int .i64 (atN side price q : Nat)) ∧ Below W.heap.size W w' := by
  have HB := Aside0.mk (Below.refl W.heap.size W)
  have hN := atN_eq side price q
  obtain ⟨W1, hW1⟩ : ∃ W1 : World, W1 = (W.alloc (Obj.cells #[.int .i64 side] 3 (0, 0))).alloc (Obj.cells #[.int .i64 price] 2 (0, 0)) := ⟨_, rfl⟩
  have HQ := Aside0.mk hq
  obtain ⟨A, c, hv, _⟩ := rcs_reads hq
  clear hq
  subst hv
  have hB1 : Below W.heap.size W W1 := by rw [hW1]; exact below_alloc (below_alloc (Below.refl _ _) _) _
  have HB1 := Aside0.mk hB1
  have k1 : W1.heap[W.heap.size]? = some (.cells #[.int .i64 side] 3 (0, 0)) := by rw [hW1]; exact blk_alloc (blk_new W _) _
  have k2 : W1.heap[W.heap.size + 1]? = some (.cells #[.int .i64 price] 2 (0, 0)) := by rw [hW1]; exact (by simpa using blk_new (W.alloc (Obj.cells #[.int .i64 side] 3 (0, 0))) (Obj.cells #[.int .i64 price] 2 (0, 0)))
  obtain ⟨z, hz⟩ : ∃ z, z = ixL (fun x : Value × RowM => !bet side x.2.1 price) q := ⟨_, rfl⟩
  have HC : Aside0 (Calls Try.prog 92 #[.slice A q.length c, .func (.func 93) #[] #[.pointer (some ⟨W.heap.size, 0, none⟩), .pointer (some ⟨W.heap.size + 1, 0, none⟩)]] W1 fun e w' => e = .returned (.int .i64 z) ∧ Below W1.heap.size W1 w') := ⟨by
    rw [hz]
    exact ixr_at (HQ.out.below hB1) _ _ _ (fun W' x hb => ladder_at1 W' _ _ _ _ side price ((blk_cell (blk_below k1 hb) 0).trans rfl) ((blk_cell (blk_below k2 hb) 0).trans rfl))⟩
  rw [← hz] at hN
  rw [hN]
  have HW1 := Aside0.mk hW1
  clear hN hB1 k1 k2 hz hW1
  by_cases hlt : z < 0
  · have hd : decide (z < 0) = true := decide_eq_true hlt
    rw [if_pos hlt]
    clear hlt
    go_enter Try.func72, Try.ntmps72
    go_wp2_with (go_at_call 92; rw [← HW1.out]; refine HC.out.mono ?_; rintro e w1 ⟨rfl, hb⟩; have HB2 := Aside0.mk (below_step HB1.out hb); clear hb)
    go_ret
    exact ⟨rfl, HB2.out⟩
  · have hd : decide (z < 0) = false := decide_eq_false hlt
    rw [if_neg hlt]
    clear hlt
    go_enter Try.func72, Try.ntmps72
    go_wp2_with (go_at_call 92; rw [← HW1.out]; refine HC.out.mono ?_; rintro e w1 ⟨rfl, hb⟩; have HB2 := Aside0.mk (below_step HB1.out hb); clear hb)
    go_ret
    exact ⟨rfl, HB2.out⟩
section
open Go.Shelf
attribute [local go_sem] Oper.semAt_some
set_option maxHeartbeats 8000000 in
set_option maxRecDepth 100000 in
theorem ladder_rows (po : Option Addr) (side : Int) (w : World) :
    Calls Try.prog 78 #[.pointer po, .int .i64 side] w fun e w' => e = .returned (.func (.func 98) #[] #[.pointer (some ⟨w.heap.size, 0, none⟩), .pointer (some ⟨w.heap.size + 1, 0, none⟩)]) ∧ w' = (w.alloc (.cells #[.pointer po] 61)).alloc (.cells #[.int .i64 side] 3) := by
  go_enter Try.func78, Try.ntmps78
  go_wp2
  go_ret
  exact ⟨by simp, rfl⟩
def KX (n : Nat) (X : Nat → Prop) (W W' : World) : Prop := W.heap.size ≤ W'.heap.size ∧ ∀ k, k < n → ¬ X k → W'.heap[k]? = W.heap[k]?
theorem KX.refl (n : Nat) (X : Nat → Prop) (W : World) : KX n X W W := ⟨Nat.le_refl _, fun _ _ _ => rfl⟩
theorem KX.trans {n : Nat} {X : Nat → Prop} {A B C : World} (h : KX n X A B) (k : KX n X B C) : KX n X A C := ⟨Nat.le_trans h.1 k.1, fun i hi hx => (k.2 i hi hx).trans (h.2 i hi hx)⟩
theorem KX.of_below {n : Nat} {X : Nat → Prop} {W W' : World} (h : Below W.heap.size W W') (hn : n ≤ W.heap.size) : KX n X W W' := ⟨h.size, fun k hk _ => h.block k (Nat.lt_of_lt_of_le hk hn)⟩
theorem KX.book {n : Nat} {X : Nat → Prop} {w : World} (hn : n ≤ w.heap.size) (W : World) (l : Nat) (o o' : Obj) (hl : w.heap.size ≤ l) (h : W.heap[l]? = some o) (_ : o.isCells = false) (_ : o.isWalk = false) : KX n X W (W.putObj l o') :=
  ⟨(grownBy_putObj' W l o').size, fun k hk _ => World.putObj_heap_other (fun e => by omega)⟩
theorem rows_meas {n k : Nat} (h : k < n) : n - (intOf (.int .i64 ((k + 1 : Nat) : Int))).toNat < n - (intOf (.int .i64 (k : Int))).toNat := by
  show n - ((k + 1 : Nat) : Int).toNat < n - (k : Int).toNat
  rw [Int.toNat_natCast, Int.toNat_natCast]
  omega
theorem finRange_take {n k : Nat} (h : k < n) : (List.finRange n).take (k + 1) = (List.finRange n).take k ++ [⟨k, h⟩] := by
  have hl : k < (List.finRange n).length := by simpa using h
  rw [List.take_succ_eq_append_getElem hl]
  simp
set_option maxHeartbeats 8000000 in
set_option maxRecDepth 100000 in
theorem rows1_stops (po : Option Addr) (side : Int) (sp : Addr) (A : Option Addr) (n c : Nat) (Bn Bs n₀ : Nat) (X : Nat → Prop) (w : World) (hn0 : n₀ ≤ w.heap.size) (hBn : Bn < n₀) (hBs : Bs < n₀) (hX : ¬ X Bn) (hXs : ¬ X Bs)
    (hb : w.heap[Bn]? = some (.cells #[.pointer po] 61 (0, 0))) (hs : w.heap[Bs]? = some (.cells #[.int .i64 side] 3 (0, 0)))
    (hA : 0 < n → ∃ ad, A = some ad) (hm : n ≤ maxLen)
    (hS : ∀ W', KX n₀ X w W' → Calls Try.prog 71 #[.pointer po, .int .i64 side] W' fun e w' => e = .returned (.pointer (some sp)) ∧ w' = W')
    (hv : ∀ W', KX n₀ X w W' → W'.cell? sp = some (.slice A n c)) :
    SeqStopsK Fence.wide 3 Try.prog 98 #[.pointer (some ⟨Bn, 0, none⟩), .pointer (some ⟨Bs, 0, none⟩)] (fun x : Fin n => #[.int .i64 (x.1 : Int), .pointer (A.map fun a => a.add (x.1 * 2))]) (KX n₀ X) (fun xs => xs = List.finRange n) (fun pre => pre <+: List.finRange n) n w := fun l J Jx W hW hJ hJx hY h0 => by
  have HS := Aside0.mk hS
  have HV := Aside0.mk hv
  have HY := Aside0.mk hY
  have HA := Aside0.mk hA
  have HM := Aside0.mk hm
  have HB := Aside0.mk (And.intro hb hs)
  have HK0 : Aside0 (KX n₀ X w W) := ⟨KX.of_below hW hn0⟩
  have HX := Aside0.mk (And.intro hX hXs)
  have v0 : W.cell? sp = some (.slice A n c) := hv W HK0.out
  have b0 : W.cell? ⟨Bn, 0, none⟩ = some (.pointer po) := (blk_cell ((HK0.out.2 Bn hBn hX).trans hb) 0).trans rfl
  have b1 : W.cell? ⟨Bs, 0, none⟩ = some (.int .i64 side) := (blk_cell ((HK0.out.2 Bs hBs hXs).trans hs) 0).trans rfl
  clear hS hv hY hA hm hb hs hW hX hXs hJ hJx
  refine callsIn_of_wp Try.func98 rfl trivial ?_ rfl
  simp only [Try.ntmps98, List.size_toArray, List.length_cons, List.length_nil, Nat.reduceAdd, Nat.reduceSub, Array.replicate_succ, Array.replicate_zero, List.push_toArray, List.append_toArray, List.nil_append, List.cons_append]
  gi_wp2_with (refine ⟨trivial, ?_⟩; gi_at_call 71; refine (callsIn_wide.2 (HS.out _ HK0.out)).mono ?_; rintro e w1 ⟨rfl, rfl⟩)
  gi_loopw [15] (fun v wr => ∃ k : Nat, k ≤ n ∧ v = .int .i64 (k : Int) ∧ Aside0 (J ((List.finRange n).take k) wr) ∧ Aside0 (KX n₀ X w wr)) (fun v _ => n - (intOf v).toNat)
  case atStart => exact ⟨0, by omega, rfl, ⟨h0⟩, HK0⟩
  case round =>
    clear h0 HK0 v0 b0 b1
    obtain ⟨k, hk, rfl, HJ, HK⟩ := hrel
    have hv' : wr.cell? sp = some (.slice A n c) := HV.out wr HK.out
    by_cases hlt : k < n
    · have hlz : (k : Int) < (n : Int) := by omega
      have hd : decide ((k : Int) < (n : Int)) = true := decide_eq_true hlz
      have hk0 : (0 : Int) ≤ (k : Int) := Int.natCast_nonneg k
      obtain ⟨ad, had⟩ := HA.out (by omega)
      subst had
      have HL := Aside0.mk hlt
      have hwk : wrap64 ((k : Int) + 1) = ((k + 1 : Nat) : Int) := wrap_m k (by have := HM.out; omega)
      obtain ⟨fn, tmps, assign, body, hy, hR⟩ := HY.out ((List.finRange n).take k) ⟨k, hlt⟩ wr HJ.out (by rw [List.length_take, List.length_finRange]; omega)
      simp only [Option.map_some] at hy
      have HR := Aside0.mk hR
      clear hR
      gi_wp2
      refine HR.out.mono ?_
      rintro e W3 (⟨rfl, hJ3, hk3⟩ | ⟨rfl, hJx3⟩)
      · have HJ3 := Aside0.mk hJ3
        have HK3 := Aside0.mk (HK.out.trans hk3)
        clear hJ3 hk3 hy HK HJ
        gi_wp2
        go_roundw
        case rel => exact ⟨k + 1, by omega, by first | rfl | rw [hwk] | go_num, by rw [finRange_take HL.out]; exact HJ3, HK3⟩
        case measure => first | exact rows_meas HL.out | (rw [hwk]; exact rows_meas HL.out)
      · have HJ3 := Aside0.mk hJx3
        clear hJx3 hy
        gi_wp2
        refine bodyPost_ret (results_none rfl _ _ _) rfl ?_
        exact ⟨⟨_, rfl⟩, .inr ⟨(List.finRange n).take k ++ [⟨k, HL.out⟩], by rw [← finRange_take HL.out]; exact List.take_prefix _ _, HJ3.out⟩⟩
    · have hk2 : k = n := by omega
      subst hk2
      gi_wp2
      go_end0
      exact ⟨⟨_, rfl⟩, .inl ⟨_, by rw [List.take_of_length_le (by simp)], HJ.out⟩⟩
end
section
open Go.Shelf
attribute [local go_sem] Oper.semAt_some
set_option maxHeartbeats 8000000 in
set_option maxRecDepth 100000 in
theorem ladder_best (po : Option Addr) (side : Int) (sp : Addr) (A : Option Addr) (n c : Nat) (w : World) (hm : n ≤ maxLen) (hsp : sp.block < w.heap.size)
    (hA : 0 < n → ∃ ad, A = some ad) (hd : Fin n → S33) (x : S33) (hx : x = if h : 0 < n then hd ⟨0, h⟩ else ⟨0, 0, 0, 0, 0, 0⟩)
    (hq : ∀ W', KX w.heap.size (fun _ => False) w W' → ∀ (y : Fin n) ad, A = some ad → ∃ qa m cq, 0 < m ∧ W'.cell? ⟨(ad.add (y.1 * 2)).block, (ad.add (y.1 * 2)).off + 1, none⟩ = some (.slice (some ⟨qa, 0, none⟩) m cq) ∧ W'.cell? ⟨qa, 0, none⟩ = some (.int .u64 (hd y).f0) ∧ W'.cell? ⟨qa, 1, none⟩ = some (.int .i64 (hd y).f1) ∧ W'.cell? ⟨qa, 2, none⟩ = some (.int .i64 (hd y).f2) ∧ W'.cell? ⟨qa, 3, none⟩ = some (.int .i64 (hd y).f3) ∧ W'.cell? ⟨qa, 4, none⟩ = some (.int .i64 (hd y).f4) ∧ W'.cell? ⟨qa, 5, none⟩ = some (.int .u64 (hd y).f5))
    (hS : ∀ W', KX w.heap.size (fun _ => False) w W' → Calls Try.prog 71 #[.pointer po, .int .i64 side] W' fun e w' => e = .returned (.pointer (some sp)) ∧ w' = W')
    (hv : ∀ W', KX w.heap.size (fun _ => False) w W' → W'.cell? sp = some (.slice A n c)) :
    Calls Try.prog 40 #[.pointer po, .int .i64 side] w fun e w' => e = .returned (.tuple #[.agg #[.int .u64 x.f0, .int .i64 x.f1, .int .i64 x.f2, .int .i64 x.f3, .int .i64 x.f4, .int .u64 x.f5], .bool (decide (0 < n))]) ∧ Below w.heap.size w w' := by
  have HS := Aside0.mk hS
  have HV := Aside0.mk hv
  have HA := Aside0.mk hA
  have HQ := Aside0.mk hq
  have HXX := Aside0.mk hx
  clear hS hv hA hq hx
  have S4 := ((((St.start w (fun _ => False)).alloc (cs := #[.int .u64 0, .int .i64 0, .int .i64 0, .int .i64 0, .int .i64 0, .int .u64 0]) (t := 33)).alloc (cs := #[.bool false]) (t := 4)).alloc (cs := #[.pointer po]) (t := 61)).alloc (cs := #[.int .i64 side]) (t := 3)
  simp only [World.size_alloc] at S4
  have HS4 := Aside0.mk S4
  clear S4
  refine (callsIn_wide (n := 4)).1 ?_
  refine callsIn_of_wp_marks Try.func40 rfl trivial ?_ rfl
  simp only [Try.ntmps40, List.size_toArray, List.length_cons, List.length_nil, Nat.reduceAdd, Nat.reduceSub, Array.replicate_succ, Array.replicate_zero, List.push_toArray, List.append_toArray, List.nil_append, List.cons_append]
  gi_wp2_with (refine ⟨trivial, ?_⟩; gi_at_call 78; refine (callsIn_wide.2 (ladder_rows _ _ _)).mono ?_; rintro e w' ⟨rfl, rfl⟩)
  obtain ⟨wl, hwl⟩ : ∃ wl, wl = ((((w.alloc (.cells #[.int .u64 0, .int .i64 0, .int .i64 0, .int .i64 0, .int .i64 0, .int .u64 0] 33)).alloc (.cells #[.bool false] 4)).alloc (.cells #[.pointer po] 61)).alloc (.cells #[.int .i64 side] 3)) := ⟨_, rfl⟩
  rw [← hwl] at HS4 ⊢
  have hsz : wl.heap.size = w.heap.size + 4 := by rw [hwl]; simp
  have HSZ := Aside0.mk hsz
  clear hwl hsz
  have HB := Aside0.mk (And.intro (HS4.out.blk 3 rfl) (And.intro (HS4.out.blk 2 rfl) (And.intro (HS4.out.blk 1 rfl) (HS4.out.blk 0 rfl))))
  have hb0 : Below w.heap.size w wl := HS4.out.below
  have HB0 := Aside0.mk hb0
  have hkx : ∀ W', KX wl.heap.size (fun k => k = w.heap.size ∨ k = w.heap.size + 1) wl W' → KX w.heap.size (fun _ => False) w W' := fun W' h =>
    ⟨Nat.le_trans hb0.size h.1, fun k hk _ => (h.2 k (by have := HSZ.out; omega) (by omega)).trans (hb0.block k hk)⟩
  refine wpIn_rangeFunc_ownF rfl (by decide) (gf := 98) (lb := #[.pointer (some ⟨w.heap.size + 1 + 1, 0, none⟩), .pointer (some ⟨w.heap.size + 1 + 1 + 1, 0, none⟩)]) rfl trivial (enters_of Try.func98 (by kernel_rfl) rfl)
    (rows1_stops po side sp A n c (w.heap.size + 1 + 1) (w.heap.size + 1 + 1 + 1) wl.heap.size (fun k => k = w.heap.size ∨ k = w.heap.size + 1) wl (Nat.le_refl _) (by have := HSZ.out; omega) (by have := HSZ.out; omega) (by omega) (by omega) HB.out.2.2.1 HB.out.2.2.2 HA.out hm
      (fun W' h => HS.out W' (hkx W' h)) (fun W' h => HV.out W' (hkx W' h))) KX.trans (KX.book (Nat.le_refl _)) (Below.refl _ _) (fun _ => rfl)
    (fun pre W => pre = [] ∧ (W.heap[w.heap.size]? = some (.cells #[.int .u64 0, .int .i64 0, .int .i64 0, .int .i64 0, .int .i64 0, .int .u64 0] 33 (0, 0)) ∧ W.heap[w.heap.size + 1]? = some (.cells #[.bool false] 4 (0, 0))) ∧ Fr (fun k => k = w.heap.size ∨ k = w.heap.size + 1) wl W)
    (fun cd pre W => cd = .ret ∧ ∃ y, pre = [y] ∧ W.heap[w.heap.size]? = some (.cells #[.int .u64 (hd y).f0, .int .i64 (hd y).f1, .int .i64 (hd y).f2, .int .i64 (hd y).f3, .int .i64 (hd y).f4, .int .u64 (hd y).f5] 33 (0, 0)) ∧ W.heap[w.heap.size + 1]? = some (.cells #[.bool true] 4 (0, 0)) ∧ Fr (fun k => k = w.heap.size ∨ k = w.heap.size + 1) wl W)
    (fun s A B row hs hg hr => ⟨hs.1, ⟨(hg.block _ (Array.getElem?_eq_some_iff.1 hs.2.1.1).1 (fun e => by have := (hr _ e.symm).1; have := HSZ.out; omega)).trans hs.2.1.1, (hg.block _ (Array.getElem?_eq_some_iff.1 hs.2.1.2).1 (fun e => by have := (hr _ e.symm).1; have := HSZ.out; omega)).trans hs.2.1.2⟩, hs.2.2.trans (Fr.of_grown (F := fun k => wl.heap.size ≤ k) hg (fun k e => (hr k e).1)) (fun _ hk => .inr hk)⟩)
    (fun cd s A B row hs hg hr => by
      obtain ⟨h1, y, h2, h3, h4, h5⟩ := hs
      exact ⟨h1, y, h2, (hg.block _ (Array.getElem?_eq_some_iff.1 h3).1 (fun e => by have := (hr _ e.symm).1; have := HSZ.out; omega)).trans h3, (hg.block _ (Array.getElem?_eq_some_iff.1 h4).1 (fun e => by have := (hr _ e.symm).1; have := HSZ.out; omega)).trans h4, h5.trans (Fr.of_grown (F := fun k => wl.heap.size ≤ k) hg (fun k e => (hr k e).1)) (fun _ hk => .inr hk)⟩)
    ⟨rfl, ⟨HB.out.1, HB.out.2.1⟩, Fr.refl _ _⟩
    (fun x => { tmps := #[.pointer po, .int .i64 side, undef, undef, .pointer (some ⟨w.heap.size, 0, none⟩), .pointer (some ⟨w.heap.size + 1, 0, none⟩), undef, .pointer (A.map fun a => a.add (x.1 * 2)), .pointer po, .int .i64 side, .func (.func 98) #[] #[.pointer (some ⟨w.heap.size + 1 + 1, 0, none⟩), .pointer (some ⟨w.heap.size + 1 + 1 + 1, 0, none⟩)], .int .i64 (x.1 : Int), .pointer (A.map fun a => a.add (x.1 * 2)), undef, undef, undef, undef, undef, undef, undef], defers := [] }) ?assign ?body ?done ?stop
  case assign =>
    intro l x W K hK
    gi_wp2
    exact hK
  case body =>
    rintro l pre y W ⟨rfl, ⟨g0, g1⟩, hfr⟩ hlen
    obtain ⟨ad, rfl⟩ := HA.out (by omega)
    have hW : KX w.heap.size (fun _ => False) w W := hkx _ ⟨hfr.size, fun k hk hx => hfr.block k hk hx⟩
    obtain ⟨qa, m, cq, hm0, e0, c0, c1, c2, c3, c4, c5⟩ := HQ.out W hW y ad rfl
    have z0 := blk_cell g0 0
    have fz0 := blk_frozen g0 0
    have z1 := blk_cell g0 1
    have fz1 := blk_frozen g0 1
    have z2 := blk_cell g0 2
    have fz2 := blk_frozen g0 2
    have z3 := blk_cell g0 3
    have fz3 := blk_frozen g0 3
    have z4 := blk_cell g0 4
    have fz4 := blk_frozen g0 4
    have z5 := blk_cell g0 5
    have fz5 := blk_frozen g0 5
    have z6 := blk_cell g1 0
    have fz6 := blk_frozen g1 0
    simp only [List.getElem?_toArray, List.getElem?_cons_zero, List.getElem?_cons_succ] at z0 z1 z2 z3 z4 z5 z6
    have G := Aside0.mk (And.intro g0 g1)
    clear g0 g1
    have HF := Aside0.mk hfr
    have hmi : (0 : Int) < (m : Int) := by omega
    clear hfr hW hkx hlen
    simp only [Option.map_some]
    gi_wp2
    have q0 := blk_set (blk_set (blk_set (blk_set (blk_set (blk_set (G.out.1) 0 (.int .u64 (hd y).f0)) 1 (.int .i64 (hd y).f1)) 2 (.int .i64 (hd y).f2)) 3 (.int .i64 (hd y).f3)) 4 (.int .i64 (hd y).f4)) 5 (.int .u64 (hd y).f5)
    refine ⟨?_, rfl, y, rfl, ?_, ?_, ?_⟩
    · exact ((((((KeepsOthers.setCell _ _ _).trans (KeepsOthers.setCell _ _ _)).trans (KeepsOthers.setCell _ _ _)).trans (KeepsOthers.setCell _ _ _)).trans (KeepsOthers.setCell _ _ _)).trans (KeepsOthers.setCell _ _ _)).trans (KeepsOthers.setCell _ _ _)
    · exact (Below.heap_setCell _ _ _ _ (by show w.heap.size ≠ w.heap.size + 1; omega)).trans (by simpa using q0)
    · refine blk_put (cs := #[.bool false]) (t := 4) ?_ 0 _ rfl
      repeat (refine (Below.heap_setCell _ _ _ _ (by show w.heap.size + 1 ≠ w.heap.size; omega)).trans ?_)
      exact G.out.2
    · exact ((((((HF.out.set (.inl (.inl rfl)) _).set (.inl (.inl rfl)) _).set (.inl (.inl rfl)) _).set (.inl (.inl rfl)) _).set (.inl (.inl rfl)) _).set (.inl (.inl rfl)) _).set (.inl (.inr rfl)) _
  case done =>
    rintro D xs W hD rfl ⟨he, ⟨g0, g1⟩, hfr⟩ hK
    have hn : n = 0 := by have := congrArg List.length he; simpa using this
    have z0 := blk_cell g0 0
    have fz0 := blk_frozen g0 0
    have z1 := blk_cell g0 1
    have fz1 := blk_frozen g0 1
    have z2 := blk_cell g0 2
    have fz2 := blk_frozen g0 2
    have z3 := blk_cell g0 3
    have fz3 := blk_frozen g0 3
    have z4 := blk_cell g0 4
    have fz4 := blk_frozen g0 4
    have z5 := blk_cell g0 5
    have fz5 := blk_frozen g0 5
    have z6 := blk_cell g1 0
    have fz6 := blk_frozen g1 0
    simp only [List.getElem?_toArray, List.getElem?_cons_zero, List.getElem?_cons_succ] at z0 z1 z2 z3 z4 z5 z6
    have G := Aside0.mk (And.intro g0 g1)
    clear g0 g1
    have HF := Aside0.mk hfr
    have HD := Aside0.mk (And.intro hD hK)
    clear hfr hkx hD hK
    gi_wp2
    subst hn
    have hn0 : D ≠ w.heap.size := by have := HD.out.1; have := HSZ.out; omega
    have hn1 : D ≠ w.heap.size + 1 := by have := HD.out.1; have := HSZ.out; omega
    have q0 := blk_set (blk_set (blk_set (blk_set (blk_set (blk_set (G.out.1) 0 (.int .u64 0)) 1 (.int .i64 0)) 2 (.int .i64 0)) 3 (.int .i64 0)) 4 (.int .i64 0)) 5 (.int .u64 0)
    generalize hV : World.setCell _ ⟨w.heap.size + 1, 0, none⟩ _ = V
    have v0 : V.heap[w.heap.size]? = some (.cells #[.int .u64 0, .int .i64 0, .int .i64 0, .int .i64 0, .int .i64 0, .int .u64 0] 33 (0, 0)) := by
      rw [← hV]
      exact (Below.heap_setCell _ _ _ _ (by show w.heap.size ≠ w.heap.size + 1; omega)).trans (by simpa using q0)
    have v1 : V.heap[w.heap.size + 1]? = some (.cells #[.bool false] 4 (0, 0)) := by
      rw [← hV]
      refine blk_put (cs := #[.bool false]) (t := 4) ?_ 0 _ rfl
      repeat (refine (Below.heap_setCell _ _ _ _ (by show w.heap.size + 1 ≠ w.heap.size; omega)).trans ?_)
      exact G.out.2
    have vD : V.heap[D]? = some (.deferred (some [])) := by
      rw [← hV]
      refine (Below.heap_setCell _ _ _ _ hn1).trans ?_
      repeat (refine (Below.heap_setCell _ _ _ _ hn0).trans ?_)
      exact HD.out.2
    have hfV : Fr (fun k => k = w.heap.size ∨ k = w.heap.size + 1) wl V := by
      rw [← hV]
      exact ((((((HF.out.set (.inl (.inl rfl)) _).set (.inl (.inl rfl)) _).set (.inl (.inl rfl)) _).set (.inl (.inl rfl)) _).set (.inl (.inl rfl)) _).set (.inl (.inl rfl)) _).set (.inl (.inr rfl)) _
    clear hV q0
    refine ⟨by simp, .inl ⟨_, _, rfl, run_takeDeferred vD, ?_⟩⟩
    have m0 : (V.putObj D (.deferred none)).heap[w.heap.size]? = _ := (World.putObj_heap_other (Ne.symm hn0)).trans v0
    have m1 : (V.putObj D (.deferred none)).heap[w.heap.size + 1]? = _ := (World.putObj_heap_other (Ne.symm hn1)).trans v1
    have e0 := blk_cell m0 0
    have e1 := blk_cell m0 1
    have e2 := blk_cell m0 2
    have e3 := blk_cell m0 3
    have e4 := blk_cell m0 4
    have e5 := blk_cell m0 5
    have e6 := blk_cell m1 0
    simp only [List.getElem?_toArray, List.getElem?_cons_zero, List.getElem?_cons_succ] at e0 e1 e2 e3 e4 e5 e6
    have hfr2 : Fr (fun k => wl.heap.size ≤ k ∨ (k = w.heap.size ∨ k = w.heap.size + 1)) wl (V.putObj D (.deferred none)) :=
      (hfV.mono (F' := fun k => wl.heap.size ≤ k ∨ (k = w.heap.size ∨ k = w.heap.size + 1)) (fun _ hk => .inr hk)).trans (Fr.of_grown (F := fun k => k = D) (grownBy_putObj' _ D _) (fun k e => (Option.some.inj e).symm)) (fun k hk => .inl (.inl (hk ▸ HD.out.1)))
    have hxe : x = ⟨0, 0, 0, 0, 0, 0⟩ := by rw [HXX.out, dif_neg (by omega)]
    rw [hxe]
    refine ⟨_, by simp [results, Try.results40, go_sem, e0, e1, e2, e3, e4, e5, e6], rfl, ?_⟩
    exact (HB0.out.trans ⟨hfr2.os, hfr2.tape, hfr2.output, hfr2.size, fun k hk => hfr2.block k (by have := HSZ.out; omega) (by have := HSZ.out; omega)⟩)
  case stop =>
    rintro D cd pre W hD hpre ⟨rfl, y, rfl, g0, g1, hfr⟩ hK
    have HF := Aside0.mk hfr
    have HD := Aside0.mk (And.intro hD hK)
    have hy : ∃ h : 0 < n, y = ⟨0, h⟩ := by
      obtain ⟨r, hr⟩ := hpre
      have h1 : (List.finRange n)[0]? = some y := by rw [← hr]; rfl
      obtain ⟨h2, h3⟩ := List.getElem?_eq_some_iff.1 h1
      exact ⟨by simpa using h2, by rw [← h3]; simp⟩
    have z0 := blk_cell g0 0
    have fz0 := blk_frozen g0 0
    have z1 := blk_cell g0 1
    have fz1 := blk_frozen g0 1
    have z2 := blk_cell g0 2
    have fz2 := blk_frozen g0 2
    have z3 := blk_cell g0 3
    have fz3 := blk_frozen g0 3
    have z4 := blk_cell g0 4
    have fz4 := blk_frozen g0 4
    have z5 := blk_cell g0 5
    have fz5 := blk_frozen g0 5
    have z6 := blk_cell g1 0
    have fz6 := blk_frozen g1 0
    simp only [List.getElem?_toArray, List.getElem?_cons_zero, List.getElem?_cons_succ] at z0 z1 z2 z3 z4 z5 z6
    have G := Aside0.mk (And.intro g0 g1)
    clear g0 g1
    clear hfr hkx hD hK
    gi_wp2
    have hn0 : D ≠ w.heap.size := by have := HD.out.1; have := HSZ.out; omega
    have hn1 : D ≠ w.heap.size + 1 := by have := HD.out.1; have := HSZ.out; omega
    refine ⟨by simp, .inl ⟨_, _, rfl, run_takeDeferred HD.out.2, ?_⟩⟩
    have m0 : (W.putObj D (.deferred none)).heap[w.heap.size]? = _ := (World.putObj_heap_other (Ne.symm hn0)).trans G.out.1
    have m1 : (W.putObj D (.deferred none)).heap[w.heap.size + 1]? = _ := (World.putObj_heap_other (Ne.symm hn1)).trans G.out.2
    have e0 := blk_cell m0 0
    have e1 := blk_cell m0 1
    have e2 := blk_cell m0 2
    have e3 := blk_cell m0 3
    have e4 := blk_cell m0 4
    have e5 := blk_cell m0 5
    have e6 := blk_cell m1 0
    simp only [List.getElem?_toArray, List.getElem?_cons_zero, List.getElem?_cons_succ] at e0 e1 e2 e3 e4 e5 e6
    have hfr2 : Fr (fun k => wl.heap.size ≤ k ∨ (k = w.heap.size ∨ k = w.heap.size + 1)) wl (W.putObj D (.deferred none)) :=
      (HF.out.mono (F' := fun k => wl.heap.size ≤ k ∨ (k = w.heap.size ∨ k = w.heap.size + 1)) (fun _ hk => .inr hk)).trans (Fr.of_grown (F := fun k => k = D) (grownBy_putObj' _ D _) (fun k e => (Option.some.inj e).symm)) (fun k hk => .inl (.inl (hk ▸ HD.out.1)))
    obtain ⟨h, rfl⟩ := hy
    have hxe : x = hd ⟨0, h⟩ := by rw [HXX.out, dif_pos h]
    rw [hxe, decide_eq_true h]
    refine ⟨_, by simp [results, Try.results40, go_sem, e0, e1, e2, e3, e4, e5, e6], rfl, ?_⟩
    exact (HB0.out.trans ⟨hfr2.os, hfr2.tape, hfr2.output, hfr2.size, fun k hk => hfr2.block k (by have := HSZ.out; omega) (by have := HSZ.out; omega)⟩)
end
theorem QuP.head {v : Value} {x : S33} {q : List S33} {w : World} {F : Nat → Prop} (h : QuP v (x :: q) w F) : ∃ qa c, F qa ∧ qa < w.heap.size ∧ v = .slice (some ⟨qa, 0, none⟩) (q.length + 1) c ∧ ∀ w' : World, w'.heap[qa]? = w.heap[qa]? → w'.cell? ⟨qa, 0, none⟩ = some (.int .u64 x.f0) ∧ w'.cell? ⟨qa, 1, none⟩ = some (.int .i64 x.f1) ∧ w'.cell? ⟨qa, 2, none⟩ = some (.int .i64 x.f2) ∧ w'.cell? ⟨qa, 3, none⟩ = some (.int .i64 x.f3) ∧ w'.cell? ⟨qa, 4, none⟩ = some (.int .i64 x.f4) ∧ w'.cell? ⟨qa, 5, none⟩ = some (.int .u64 x.f5) := by
  rcases h.block with ⟨_, hq, _⟩ | ⟨g, cap, cur, hv, hF, hh, r1, _, _, r4, _⟩
  · exact absurd hq (Nat.succ_ne_zero _)
  · refine ⟨g, cap, hF, (Array.getElem?_eq_some_iff.1 hh).1, hv, fun w' hw => ?_⟩
    have hk : ∀ k u, (oc x)[k]? = some u → w'.cell? ⟨g, k, none⟩ = some u := fun k u hu => by
      have := cells_at (hw.trans hh) r4 k u (by rw [show ocs (x :: q) = oc x ++ ocs q from rfl, List.getElem?_append_left (List.getElem?_eq_some_iff.1 hu).1]; exact hu)
      rw [Nat.zero_add] at this
      exact this
    exact ⟨hk 0 _ rfl, hk 1 _ rfl, hk 2 _ rfl, hk 3 _ rfl, hk 4 _ rfl, hk 5 _ rfl⟩
theorem elsQ_at : ∀ {es : List (Value × RowM)} {G : Nat → Prop} {w : World}, Stars (elsQ es) G w → ∀ (j : Nat) (e : Value × RowM), es[j]? = some e → ∃ F : Nat → Prop, (∀ k, F k → G k) ∧ QuP e.1 e.2.2 w F
  | [], _, _, _, j, e, he => by simp at he
  | a :: es, G, w, ⟨F, h1, h2, h3, h4⟩, 0, e, he => by
    have : a = e := by simpa using he
    subst this
    exact ⟨F, h1, h3⟩
  | a :: es, G, w, ⟨F, h1, h2, h3, h4⟩, j + 1, e, he => by
    obtain ⟨F', k1, k2⟩ := elsQ_at h4 j e (by simpa using he)
    exact ⟨F', fun k hk => (k1 k hk).1, k2⟩
def blkF (id : Nat) : Code → Option Code
  | .block i a => if i == id then some (.block i a) else blkF id a
  | .seq a b => (blkF id a).orElse fun _ => blkF id b
  | .cond _ a b => (blkF id a).orElse fun _ => blkF id b
  | .loop a => blkF id a
  | .rangeFunc _ _ a b => (blkF id a).orElse fun _ => blkF id b
  | .scope a => blkF id a
  | _ => none
def Marks (B : Nat) (w : World) : List Deferred → Prop
  | [] => True
  | d :: ds => (∃ D, B ≤ D ∧ d = { target := .collected D, args := #[] } ∧ w.heap[D]? = some (.deferred (some [])) ∧ ∀ D', { target := .collected D', args := #[] } ∈ ds → D' ≠ D) ∧ Marks B w ds
theorem Marks.keep {B : Nat} {w w' : World} : ∀ {ds : List Deferred}, Marks B w ds → (∀ D, B ≤ D → w.heap[D]? = some (.deferred (some [])) → { target := .collected D, args := #[] } ∈ ds → w'.heap[D]? = some (.deferred (some []))) → Marks B w' ds
  | [], _, _ => trivial
  | _ :: _, ⟨⟨D, h1, h2, h3, h4⟩, h5⟩, h => ⟨⟨D, h1, h2, h D h1 h3 (by rw [h2]; exact List.mem_cons_self ..), h4⟩, h5.keep fun D' a b c => h D' a b (List.mem_cons_of_mem _ c)⟩
theorem Marks.lt {B : Nat} {w : World} : ∀ {ds : List Deferred}, Marks B w ds → ∀ D, { target := .collected D, args := #[] } ∈ ds → D < w.heap.size
  | [], _, _, h => nomatch h
  | _ :: _, ⟨⟨D, h1, h2, h3, h4⟩, h5⟩, D', h => by
    rcases List.mem_cons.1 h with e | e
    · rw [h2] at e
      have : D' = D := by injection e with e _; injection e
      subst this
      exact (Array.getElem?_eq_some_iff.1 h3).1
    · exact h5.lt D' e
theorem Marks.leave {B n : Nat} {F : Fence} {P : Program} {fn : Func} {tmps : Array Value} {R : Ending → World → Prop} : ∀ {ds : List Deferred} {w : World}, Marks B w ds →
    (∀ w', Fr (fun k => B ≤ k) w w' → (∀ (k : Nat) (cs : Array Value) (t : TypeId) (f : Nat × Nat), w.heap[k]? = some (Obj.cells cs t f) → w'.heap[k]? = some (Obj.cells cs t f)) → LeavesIn F n P fn tmps R [] .returning w') → LeavesInM F n P fn tmps R ds .returning w
  | [], w, _, h => h w (Fr.refl _ _) fun _ _ _ _ q => q
  | d :: ds, w, ⟨⟨D, h1, h2, h3, h4⟩, h5⟩, h => by
    refine ⟨by simp, .inl ⟨D, w.putObj D (.deferred none), by rw [h2], run_takeDeferred h3, ?_⟩⟩
    have hf : Fr (fun k => B ≤ k) w (w.putObj D (.deferred none)) := Fr.of_grown (grownBy_putObj' w D _) (fun k e => by have := Option.some.inj e; omega)
    refine Marks.leave (h5.keep fun D' a b c => (World.putObj_heap_other (Ne.symm (h4 D' c) |> Ne.symm)).trans b) fun w' k1 k2 => h w' (hf.trans k1 fun k hk => .inl hk) fun k cs t f q => k2 k cs t f ?_
    refine (World.putObj_heap_other fun e => ?_).trans q
    subst e
    rw [h3] at q; cases q
theorem pre_lt {n : Nat} {p : List (Fin n)} {y : Fin n} (h : (p ++ [y]) <+: List.finRange n) : ∀ z : Fin n, z.1 < y.1 → z ∈ p := by
  obtain ⟨r, hr⟩ := h
  have hl : p.length < (List.finRange n).length := by rw [← hr]; simp
  have h1 : (List.finRange n)[p.length] = y := by
    have : (List.finRange n)[p.length]? = some y := by rw [← hr]; simp
    rw [List.getElem?_eq_getElem hl] at this
    exact Option.some.inj this
  have hy : y.1 = p.length := by rw [← h1]; simp
  intro z hz
  have h2 : (List.finRange n)[z.1]? = some z := by rw [List.getElem?_eq_getElem (by simp)]; simp
  rw [← hr, List.append_assoc, List.getElem?_append_left (by omega)] at h2
  exact List.mem_of_getElem? h2
section
open Go.Shelf
attribute [local go_sem] Oper.semAt_some
set_option maxHeartbeats 8000000 in
set_option maxRecDepth 100000 in
theorem find_range {Q : Exit → Act → World → Prop} {cd : Code} (hcd : blkF 1 ((Try.f70.body).getD .skip) = some cd) (po : Option Addr) (id : Int) (s : Nat) (sp : Addr) (A : Option Addr) (n c : Nat) (w W : World) (hw : Below w.heap.size w W)
    (hm : n ≤ maxLen) (hA : 0 < n → ∃ ad, A = some ad) (ix : Fin n → Int) (b8 : Nat) (h8 : w.heap.size + 6 ≤ b8)
    (hq : ∀ W', KX w.heap.size (fun _ => False) w W' → ∀ (y : Fin n) ad, A = some ad → ∃ Aq m cq, W'.cell? ⟨(ad.add (y.1 * 2)).block, (ad.add (y.1 * 2)).off + 1, none⟩ = some (.slice Aq m cq) ∧ ∀ p, W'.cell? p = some (.int .u64 id) →
      Calls Try.prog 74 #[.slice Aq m cq, .func (.func 91) #[] #[.pointer (some p)]] W' fun e w' => e = .returned (.int .i64 (ix y)) ∧ Below W'.heap.size W' w')
    (hS : ∀ W', KX w.heap.size (fun _ => False) w W' → Calls Try.prog 71 #[.pointer po, .int .i64 (s : Int)] W' fun e w' => e = .returned (.pointer (some sp)) ∧ w' = W')
    (hv : ∀ W', KX w.heap.size (fun _ => False) w W' → W'.cell? sp = some (.slice A n c))
    (hC : W.heap[w.heap.size]? = some (.cells #[.pointer po] 61 (0, 0)) ∧ W.heap[w.heap.size + 1]? = some (.cells #[.int .u64 id] 31 (0, 0)))
    (hR0 : W.heap[w.heap.size + 2]? = some (.cells #[.pointer none] 109 (0, 0)) ∧ W.heap[w.heap.size + 3]? = some (.cells #[.int .i64 0] 3 (0, 0)) ∧ W.heap[w.heap.size + 4]? = some (.cells #[.int .i64 0] 3 (0, 0)) ∧ W.heap[w.heap.size + 5]? = some (.cells #[.bool false] 4 (0, 0))) (hb8 : W.heap[b8]? = some (.cells #[.int .i64 (s : Int)] 3 (0, 0))) {dfs : List Deferred} (hM : Marks w.heap.size W dfs) {T0 T1 T9 T10 T11 T12 T13 T14 T15 T16 T17 T18 T19 T20 T21 T22 T23 T24 T25 T26 T27 T28 T29 T30 T31 T32 T33 T34 : Value}
    (hN : ∀ D W', (∀ y, ix y < 0) → Below w.heap.size w W' → Below W.heap.size W W' → Marks w.heap.size W' ({ target := .collected D, args := #[] } :: dfs) → Q .normal { tmps := #[T0, T1, .pointer (some ⟨w.heap.size, 0, none⟩), .pointer (some ⟨w.heap.size + 1, 0, none⟩), .pointer (some ⟨w.heap.size + 2, 0, none⟩), .pointer (some ⟨w.heap.size + 3, 0, none⟩), .pointer (some ⟨w.heap.size + 4, 0, none⟩), .pointer (some ⟨w.heap.size + 5, 0, none⟩), .pointer (some ⟨b8, 0, none⟩), T9, T10, T11, T12, T13, T14, T15, .pointer po, .int .i64 (s : Int), .func (.func 98) #[] #[.pointer (some ⟨W.heap.size, 0, none⟩), .pointer (some ⟨W.heap.size + 1, 0, none⟩)], T19, T20, T21, T22, T23, T24, T25, T26, T27, T28, T29, T30, T31, T32, T33, T34], defers := { target := .collected D, args := #[] } :: dfs } W')
    (hR : ∀ D W' (y : Fin n), (∀ z : Fin n, z.1 < y.1 → ix z < 0) → 0 ≤ ix y → Below w.heap.size w W' → (W'.heap[w.heap.size + 2]? = some (.cells #[.pointer (some sp)] 109 (0, 0)) ∧ W'.heap[w.heap.size + 3]? = some (.cells #[.int .i64 (y.1 : Int)] 3 (0, 0)) ∧ W'.heap[w.heap.size + 4]? = some (.cells #[.int .i64 (ix y)] 3 (0, 0)) ∧ W'.heap[w.heap.size + 5]? = some (.cells #[.bool true] 4 (0, 0))) → Marks w.heap.size W' ({ target := .collected D, args := #[] } :: dfs) → Q .ret { tmps := #[T0, T1, .pointer (some ⟨w.heap.size, 0, none⟩), .pointer (some ⟨w.heap.size + 1, 0, none⟩), .pointer (some ⟨w.heap.size + 2, 0, none⟩), .pointer (some ⟨w.heap.size + 3, 0, none⟩), .pointer (some ⟨w.heap.size + 4, 0, none⟩), .pointer (some ⟨w.heap.size + 5, 0, none⟩), .pointer (some ⟨b8, 0, none⟩), T9, T10, T11, T12, T13, T14, T15, .pointer po, .int .i64 (s : Int), .func (.func 98) #[] #[.pointer (some ⟨W.heap.size, 0, none⟩), .pointer (some ⟨W.heap.size + 1, 0, none⟩)], T19, T20, T21, T22, T23, T24, T25, T26, T27, T28, T29, T30, T31, T32, T33, T34], defers := { target := .collected D, args := #[] } :: dfs } W') :
    cd.wpIn Fence.wide 4 Try.prog Q { tmps := #[T0, T1, .pointer (some ⟨w.heap.size, 0, none⟩), .pointer (some ⟨w.heap.size + 1, 0, none⟩), .pointer (some ⟨w.heap.size + 2, 0, none⟩), .pointer (some ⟨w.heap.size + 3, 0, none⟩), .pointer (some ⟨w.heap.size + 4, 0, none⟩), .pointer (some ⟨w.heap.size + 5, 0, none⟩), .pointer (some ⟨b8, 0, none⟩), T9, T10, T11, T12, T13, T14, T15, T16, T17, T18, T19, T20, T21, T22, T23, T24, T25, T26, T27, T28, T29, T30, T31, T32, T33, T34], defers := dfs } W := by
  have hcd' := Option.some.inj (hcd.symm.trans (show blkF 1 ((Try.f70.body).getD .skip) = some _ from rfl))
  subst hcd'
  clear hcd
  have HS := Aside0.mk hS
  have HV := Aside0.mk hv
  have HA := Aside0.mk hA
  have HQ := Aside0.mk hq
  have HW := Aside0.mk hw
  have HC := Aside0.mk hC
  have HR0 := Aside0.mk hR0
  have H8 := Aside0.mk hb8
  have HMK := Aside0.mk hM
  have HN := Aside0.mk hN
  have HRR := Aside0.mk hR
  have h0 : W.cell? ⟨w.heap.size, 0, none⟩ = some (.pointer po) := (blk_cell hC.1 0).trans rfl
  have h1 : W.cell? ⟨b8, 0, none⟩ = some (.int .i64 (s : Int)) := (blk_cell hb8 0).trans rfl
  clear hS hv hA hq hw hC hR0 hb8 hM hN hR
  gi_wp2_with (refine ⟨trivial, ?_⟩; gi_at_call 78; refine (callsIn_wide.2 (ladder_rows _ _ _)).mono ?_; rintro e w' ⟨rfl, rfl⟩)
  clear h0 h1
  obtain ⟨wl, hwl⟩ : ∃ wl, wl = (W.alloc (.cells #[.pointer po] 61)).alloc (.cells #[.int .i64 (s : Int)] 3) := ⟨_, rfl⟩
  rw [← hwl]
  have hsz : wl.heap.size = W.heap.size + 2 := by rw [hwl]; simp
  have hbl : Below W.heap.size W wl := by rw [hwl]; exact below_alloc (below_alloc (Below.refl _ _) _) _
  have hwb : Below w.heap.size w wl := below_step HW.out hbl
  have hn0 : wl.heap[W.heap.size]? = some (.cells #[.pointer po] 61 (0, 0)) := by rw [hwl]; exact blk_alloc (blk_new W _) _
  have hn1 : wl.heap[W.heap.size + 1]? = some (.cells #[.int .i64 (s : Int)] 3 (0, 0)) := by
    rw [hwl]; have := blk_new (W.alloc (.cells #[.pointer po] 61)) (.cells #[.int .i64 (s : Int)] 3); simpa using this
  have hkx : ∀ W', KX wl.heap.size (fun _ => False) wl W' → KX w.heap.size (fun _ => False) w W' := fun W' h =>
    ⟨Nat.le_trans hwb.size h.1, fun k hk _ => (h.2 k (by have := hwb.size; omega) (fun q => q)).trans (hwb.block k hk)⟩
  have old : ∀ k o, W.heap[k]? = some o → wl.heap[k]? = some o := fun k o h => (hbl.block k (Array.getElem?_eq_some_iff.1 h).1).trans h
  have HC1 := Aside0.mk (And.intro (old _ _ HC.out.1) (old _ _ HC.out.2))
  have HR1 := Aside0.mk (And.intro (old _ _ HR0.out.1) (And.intro (old _ _ HR0.out.2.1) (And.intro (old _ _ HR0.out.2.2.1) (old _ _ HR0.out.2.2.2))))
  have H81 := Aside0.mk (old _ _ H8.out)
  have HMK1 : Aside0 (Marks w.heap.size wl dfs) := ⟨HMK.out.keep fun D _ h _ => old _ _ h⟩
  have HML : Aside0 (∀ D', { target := .collected D', args := #[] } ∈ dfs → D' < wl.heap.size) := ⟨fun D' h => HMK1.out.lt D' h⟩
  have HSZ := Aside0.mk hsz
  have HKX := Aside0.mk hkx
  have HWB := Aside0.mk hwb
  have HBL := Aside0.mk hbl
  have HNW := Aside0.mk (And.intro hn0 hn1)
  clear hsz hkx hwb hbl old hn0 hn1 HC HR0 H8 HMK hwl
  refine wpIn_rangeFunc_ownF rfl (by decide) (gf := 98) (lb := #[.pointer (some ⟨W.heap.size, 0, none⟩), .pointer (some ⟨W.heap.size + 1, 0, none⟩)]) rfl trivial (enters_of Try.func98 (by kernel_rfl) rfl)
    (rows1_stops po (s : Int) sp A n c W.heap.size (W.heap.size + 1) wl.heap.size (fun _ => False) wl (Nat.le_refl _) (by have := HSZ.out; omega) (by have := HSZ.out; omega) (fun q => q) (fun q => q) HNW.out.1 HNW.out.2 HA.out hm
      (fun W' h => HS.out W' (HKX.out W' h)) (fun W' h => HV.out W' (HKX.out W' h))) KX.trans (KX.book (Nat.le_refl _)) (Below.refl _ _) (fun _ => rfl)
    (fun pre W' => (∀ z ∈ pre, ix z < 0) ∧ Below wl.heap.size wl W')
    (fun cd pre W' => cd = .ret ∧ ∃ y p, pre = p ++ [y] ∧ (∀ z ∈ p, ix z < 0) ∧ 0 ≤ ix y ∧ (W'.heap[w.heap.size + 2]? = some (.cells #[.pointer (some sp)] 109 (0, 0)) ∧ W'.heap[w.heap.size + 3]? = some (.cells #[.int .i64 (y.1 : Int)] 3 (0, 0)) ∧ W'.heap[w.heap.size + 4]? = some (.cells #[.int .i64 (ix y)] 3 (0, 0)) ∧ W'.heap[w.heap.size + 5]? = some (.cells #[.bool true] 4 (0, 0))) ∧ Fr (fun k => k = w.heap.size + 2 ∨ k = w.heap.size + 3 ∨ k = w.heap.size + 4 ∨ k = w.heap.size + 5) wl W')
    (fun s A B row hs hg hr => ⟨hs.1, hs.2.trans ⟨hg.os, hg.tape, hg.output, hg.size, fun k hk => hg.block k (by have := hs.2.size; omega) (fun e => by have := (hr _ e.symm).1; omega)⟩⟩)
    (fun cd s A B row hs hg hr => by
      obtain ⟨h1, y, p, h2, h3, h4, ⟨h5, h6, h7, h8⟩, h9⟩ := hs
      have kp : ∀ (k : Nat) (cs : Array Value) (t : TypeId) (f : Nat × Nat), k < wl.heap.size → A.heap[k]? = some (.cells cs t f) → B.heap[k]? = some (.cells cs t f) := fun k cs t f hk h => (hg.block _ (Array.getElem?_eq_some_iff.1 h).1 (fun e => by have := (hr _ e.symm).1; omega)).trans h
      have l5 := (Array.getElem?_eq_some_iff.1 HR1.out.2.2.2).1
      exact ⟨h1, y, p, h2, h3, h4, ⟨kp _ _ _ _ (by omega) h5, kp _ _ _ _ (by omega) h6, kp _ _ _ _ (by omega) h7, kp _ _ _ _ (by omega) h8⟩, h9.trans (Fr.of_grown (F := fun k => wl.heap.size ≤ k) hg (fun k e => (hr k e).1)) (fun _ hk => .inr hk)⟩)
    ⟨fun _ h => (nomatch h), Below.refl _ _⟩
    (fun x => { tmps := #[T0, T1, .pointer (some ⟨w.heap.size, 0, none⟩), .pointer (some ⟨w.heap.size + 1, 0, none⟩), .pointer (some ⟨w.heap.size + 2, 0, none⟩), .pointer (some ⟨w.heap.size + 3, 0, none⟩), .pointer (some ⟨w.heap.size + 4, 0, none⟩), .pointer (some ⟨w.heap.size + 5, 0, none⟩), .pointer (some ⟨b8, 0, none⟩), .int .i64 (x.1 : Int), .pointer (A.map fun a => a.add (x.1 * 2)), T11, T12, T13, T14, T15, .pointer po, .int .i64 (s : Int), .func (.func 98) #[] #[.pointer (some ⟨W.heap.size, 0, none⟩), .pointer (some ⟨W.heap.size + 1, 0, none⟩)], .int .i64 (x.1 : Int), .pointer (A.map fun a => a.add (x.1 * 2)), T21, T22, T23, T24, T25, T26, T27, T28, T29, T30, T31, T32, T33, T34], defers := [] }) ?assign ?body ?done ?stop
  case assign =>
    intro l x W' K hK
    gi_wp2
    exact hK
  case body =>
    rintro l pre y W' ⟨hpre, hfr⟩ hlen
    obtain ⟨ad, rfl⟩ := HA.out (by omega)
    have hW : KX w.heap.size (fun _ => False) w W' := HKX.out _ ⟨hfr.size, fun k hk _ => hfr.block k hk⟩
    obtain ⟨Aq, m, cq, e0, hcl⟩ := HQ.out W' hW y ad rfl
    have kp : ∀ (k : Nat) (cs : Array Value) (t : TypeId) (f : Nat × Nat), wl.heap[k]? = some (.cells cs t f) → W'.heap[k]? = some (.cells cs t f) := fun k cs t f h => (hfr.block k (Array.getElem?_eq_some_iff.1 h).1).trans h
    have hid : W'.cell? ⟨w.heap.size + 1, 0, none⟩ = some (.int .u64 id) := (blk_cell (kp _ _ _ _ HC1.out.2) 0).trans rfl
    have HCL := Aside0.mk (hcl _ hid)
    have KP := Aside0.mk kp
    have HF := Aside0.mk hfr
    have HPR := Aside0.mk hpre
    have HWK := Aside0.mk hW
    clear hcl hid kp hfr hpre hW hlen
    simp only [Option.map_some]
    obtain ⟨v, hv⟩ : ∃ v, ix y = v := ⟨_, rfl⟩
    rw [hv] at HCL
    have HVE := Aside0.mk hv
    clear hv
    by_cases hge : 0 ≤ v
    · have hd : decide (0 ≤ v) = true := decide_eq_true hge
      gi_wp2_with (first | (refine ⟨trivial, ?_⟩; gi_at_call 74; refine (CallsIn.inRound l (callsIn_wide.2 HCL.out)).mono ?_; rintro e w1 ⟨rfl, hb⟩; have HB1 := Aside0.mk hb; (have g0 : w1.cell? ⟨w.heap.size, 0, none⟩ = some (.pointer po) := (blk_cell ((hb.block _ (Array.getElem?_eq_some_iff.1 (KP.out _ _ _ _ HC1.out.1)).1).trans (KP.out _ _ _ _ HC1.out.1)) 0).trans rfl); (have g1 : w1.cell? ⟨b8, 0, none⟩ = some (.int .i64 (s : Int)) := (blk_cell ((hb.block _ (Array.getElem?_eq_some_iff.1 (KP.out _ _ _ _ H81.out)).1).trans (KP.out _ _ _ _ H81.out)) 0).trans rfl); clear hb e0) | (refine ⟨trivial, ?_⟩; gi_at_call 71; refine (CallsIn.inRound l (callsIn_wide.2 (HS.out w1 ⟨Nat.le_trans HWK.out.1 HB1.out.size, fun k hk hx => (HB1.out.block k (by have := HWK.out.1; omega)).trans (HWK.out.2 k hk hx)⟩))).mono ?_; rintro e w2 ⟨rfl, rfl⟩; (have z2 : w2.cell? ⟨w.heap.size + 2, 0, none⟩ = some (.pointer none) := (blk_cell ((HB1.out.block _ (Array.getElem?_eq_some_iff.1 (KP.out _ _ _ _ HR1.out.1)).1).trans (KP.out _ _ _ _ HR1.out.1)) 0).trans rfl); (have fz2 : w2.frozen? ⟨w.heap.size + 2, 0, none⟩ = false := blk_frozen ((HB1.out.block _ (Array.getElem?_eq_some_iff.1 (KP.out _ _ _ _ HR1.out.1)).1).trans (KP.out _ _ _ _ HR1.out.1)) 0); (have z3 : w2.cell? ⟨w.heap.size + 3, 0, none⟩ = some (.int .i64 0) := (blk_cell ((HB1.out.block _ (Array.getElem?_eq_some_iff.1 (KP.out _ _ _ _ HR1.out.2.1)).1).trans (KP.out _ _ _ _ HR1.out.2.1)) 0).trans rfl); (have fz3 : w2.frozen? ⟨w.heap.size + 3, 0, none⟩ = false := blk_frozen ((HB1.out.block _ (Array.getElem?_eq_some_iff.1 (KP.out _ _ _ _ HR1.out.2.1)).1).trans (KP.out _ _ _ _ HR1.out.2.1)) 0); (have z4 : w2.cell? ⟨w.heap.size + 4, 0, none⟩ = some (.int .i64 0) := (blk_cell ((HB1.out.block _ (Array.getElem?_eq_some_iff.1 (KP.out _ _ _ _ HR1.out.2.2.1)).1).trans (KP.out _ _ _ _ HR1.out.2.2.1)) 0).trans rfl); (have fz4 : w2.frozen? ⟨w.heap.size + 4, 0, none⟩ = false := blk_frozen ((HB1.out.block _ (Array.getElem?_eq_some_iff.1 (KP.out _ _ _ _ HR1.out.2.2.1)).1).trans (KP.out _ _ _ _ HR1.out.2.2.1)) 0); (have z5 : w2.cell? ⟨w.heap.size + 5, 0, none⟩ = some (.bool false) := (blk_cell ((HB1.out.block _ (Array.getElem?_eq_some_iff.1 (KP.out _ _ _ _ HR1.out.2.2.2)).1).trans (KP.out _ _ _ _ HR1.out.2.2.2)) 0).trans rfl); (have fz5 : w2.frozen? ⟨w.heap.size + 5, 0, none⟩ = false := blk_frozen ((HB1.out.block _ (Array.getElem?_eq_some_iff.1 (KP.out _ _ _ _ HR1.out.2.2.2)).1).trans (KP.out _ _ _ _ HR1.out.2.2.2)) 0)))
      have hv := HVE.out
      subst hv
      have r2 := (HB1.out.block _ (Array.getElem?_eq_some_iff.1 (KP.out _ _ _ _ HR1.out.1)).1).trans (KP.out _ _ _ _ HR1.out.1)
      have r3 := (HB1.out.block _ (Array.getElem?_eq_some_iff.1 (KP.out _ _ _ _ HR1.out.2.1)).1).trans (KP.out _ _ _ _ HR1.out.2.1)
      have r4 := (HB1.out.block _ (Array.getElem?_eq_some_iff.1 (KP.out _ _ _ _ HR1.out.2.2.1)).1).trans (KP.out _ _ _ _ HR1.out.2.2.1)
      have r5 := (HB1.out.block _ (Array.getElem?_eq_some_iff.1 (KP.out _ _ _ _ HR1.out.2.2.2)).1).trans (KP.out _ _ _ _ HR1.out.2.2.2)
      refine ⟨?_, rfl, y, pre, rfl, HPR.out, hge, ⟨?_, ?_, ?_, ?_⟩, ?_⟩
      · exact ((((show KeepsOthers W' w2 from ⟨HB1.out.size, fun k o hk _ => (HB1.out.block k (Array.getElem?_eq_some_iff.1 hk).1).trans hk⟩).trans (KeepsOthers.setCell _ _ _)).trans (KeepsOthers.setCell _ _ _)).trans (KeepsOthers.setCell _ _ _)).trans (KeepsOthers.setCell _ _ _)
      · refine (Below.heap_setCell _ _ _ _ (by show w.heap.size + 2 ≠ w.heap.size + 5; omega)).trans ?_
        refine (Below.heap_setCell _ _ _ _ (by show w.heap.size + 2 ≠ w.heap.size + 4; omega)).trans ?_
        refine (Below.heap_setCell _ _ _ _ (by show w.heap.size + 2 ≠ w.heap.size + 3; omega)).trans ?_
        exact blk_put r2 0 _ rfl
      · refine (Below.heap_setCell _ _ _ _ (by show w.heap.size + 3 ≠ w.heap.size + 5; omega)).trans ?_
        refine (Below.heap_setCell _ _ _ _ (by show w.heap.size + 3 ≠ w.heap.size + 4; omega)).trans ?_
        exact blk_put ((Below.heap_setCell _ _ _ _ (by show w.heap.size + 3 ≠ w.heap.size + 2; omega)).trans r3) 0 _ rfl
      · refine (Below.heap_setCell _ _ _ _ (by show w.heap.size + 4 ≠ w.heap.size + 5; omega)).trans ?_
        exact blk_put ((Below.heap_setCell _ _ _ _ (by show w.heap.size + 4 ≠ w.heap.size + 3; omega)).trans ((Below.heap_setCell _ _ _ _ (by show w.heap.size + 4 ≠ w.heap.size + 2; omega)).trans r4)) 0 _ rfl
      · exact blk_put ((Below.heap_setCell _ _ _ _ (by show w.heap.size + 5 ≠ w.heap.size + 4; omega)).trans ((Below.heap_setCell _ _ _ _ (by show w.heap.size + 5 ≠ w.heap.size + 3; omega)).trans ((Below.heap_setCell _ _ _ _ (by show w.heap.size + 5 ≠ w.heap.size + 2; omega)).trans r5))) 0 _ rfl
      · exact ((((Fr.of_below (F := fun k => k = w.heap.size + 2 ∨ k = w.heap.size + 3 ∨ k = w.heap.size + 4 ∨ k = w.heap.size + 5) (below_step HF.out HB1.out)).set (.inl (.inl rfl)) _).set (.inl (.inr (.inl rfl))) _).set (.inl (.inr (.inr (.inl rfl)))) _).set (.inl (.inr (.inr (.inr rfl)))) _
    · have hd : decide (0 ≤ v) = false := decide_eq_false hge
      gi_wp2_with (refine ⟨trivial, ?_⟩; gi_at_call 74; refine (CallsIn.inRound l (callsIn_wide.2 HCL.out)).mono ?_; rintro e w1 ⟨rfl, hb⟩; have HB1 := Aside0.mk hb; clear hb e0)
      refine ⟨⟨HB1.out.size, fun k o hk _ => (HB1.out.block k (Array.getElem?_eq_some_iff.1 hk).1).trans hk⟩, ⟨HB1.out.size, fun k hk _ => HB1.out.block k (by have := HF.out.size; omega)⟩, fun z hz => ?_, below_step HF.out HB1.out⟩
      rcases List.mem_append.1 hz with q | q
      · exact HPR.out z q
      · rw [List.mem_singleton.1 q, HVE.out]; omega
  case done =>
    rintro D xs W' hD rfl ⟨hall, hfr⟩ hK
    refine HN.out D W' (fun y => hall y (by simp)) (HWB.out.trans ⟨hfr.os, hfr.tape, hfr.output, hfr.size, fun k hk => hfr.block k (by have := HWB.out.size; omega)⟩) (below_step HBL.out hfr) ⟨⟨D, by have := HWB.out.size; omega, rfl, hK, fun D' h => by have := HML.out D' h; omega⟩, HMK1.out.keep fun D' _ h _ => (hfr.block _ (Array.getElem?_eq_some_iff.1 h).1).trans h⟩
  case stop =>
    rintro D cd pre W' hD hpre ⟨rfl, y, p, rfl, hp, hy, hres, hfr⟩ hK
    have l5 := (Array.getElem?_eq_some_iff.1 HR1.out.2.2.2).1
    have hq2 := HRR.out D W' y (fun z hz => hp z (pre_lt hpre z hz)) hy (HWB.out.trans ⟨hfr.os, hfr.tape, hfr.output, hfr.size, fun k hk => hfr.block k (by have := HWB.out.size; omega) (by omega)⟩) hres
      ⟨⟨D, by have := HWB.out.size; omega, rfl, hK, fun D' h => by have := HML.out D' h; omega⟩, HMK1.out.keep fun D' _ h _ => (hfr.block _ (Array.getElem?_eq_some_iff.1 h).1 (fun q => by
        have key : ∀ (k : Nat) (cs : Array Value) (t : TypeId) (f : Nat × Nat), wl.heap[k]? = some (.cells cs t f) → D' ≠ k := fun k cs t f h' e => by subst e; rw [h] at h'; cases h'
        rcases q with q | q | q | q
        · exact key _ _ _ _ HR1.out.1 q
        · exact key _ _ _ _ HR1.out.2.1 q
        · exact key _ _ _ _ HR1.out.2.2.1 q
        · exact key _ _ _ _ HR1.out.2.2.2 q)).trans h⟩
    gi_wp2
    exact hq2
end
end Go.Proofs.Ytlihfiajbhpokaa.Ldo
