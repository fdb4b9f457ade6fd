/- Printed by this session's wip/drive.py over the translation; some functions by hand. -/
import Derived.Test.YtlihfiajbhpokaaOrcx0
import Derived.Test.YtlihfiajbhpokaaOrcx5
import Derived.Test.YtlihfiajbhpokaaOrcx6
import Derived.Test.YtlihfiajbhpokaaOrcx10
import Derived.Test.YtlihfiajbhpokaaOrcx11
namespace Go.Proofs.Ytlihfiajbhpokaa.Orc
open Go.RowKit Go.Proofs.YtlihfiajbhpokaaW.PrintWords Go.Proofs.YtlihfiajbhpokaaW.PrintLast Go.Proofs.YtlihfiajbhpokaaW.PrintMore
attribute [local go_sem] max2_int min2_int max_two min_two max_three min_three max_four min_four   -- for this text's walks alone
set_option linter.unusedVariables false
set_option linter.unusedSimpArgs false

/-! ### jobberlaw12_OrderBytes: function 7 (by hand) -/
/-! ### SL: what a call's own memory holds, part by part, each with the blocks that it lies in -/
/-- From w to w' only the blocks of F have turned, and new ones have come. -/
structure Fr (F : Nat → Prop) (w w' : World) : Prop where
  os : w'.os = w.os
  tape : w'.tape = w.tape
  output : w'.output = w.output
  size : w.heap.size ≤ w'.heap.size
  block : ∀ k, k < w.heap.size → ¬ F k → w'.heap[k]? = w.heap[k]?
theorem Fr.refl (F : Nat → Prop) (w : World) : Fr F w w := ⟨rfl, rfl, rfl, Nat.le_refl _, fun _ _ _ => rfl⟩
theorem Fr.trans {F F' : Nat → Prop} {w w1 w2 : World} (h : Fr F w w1) (k : Fr F' w1 w2) (hF : ∀ i, F' i → F i ∨ w.heap.size ≤ i) : Fr F w w2 :=
  ⟨k.os.trans h.os, k.tape.trans h.tape, k.output.trans h.output, Nat.le_trans h.size k.size, fun i hi hn => (k.block i (Nat.lt_of_lt_of_le hi h.size) (fun hf => (hF i hf).elim hn (fun hh => absurd hi (Nat.not_lt.2 hh)))).trans (h.block i hi hn)⟩
theorem Fr.of_below {F : Nat → Prop} {w w' : World} (h : Below w.heap.size w w') : Fr F w w' := ⟨h.os, h.tape, h.output, h.size, fun k hk _ => h.block k hk⟩
theorem Fr.below {w w' : World} (h : Fr (fun _ => False) w w') : Below w.heap.size w w' := ⟨h.os, h.tape, h.output, h.size, fun k hk => h.block k hk (fun f => f)⟩
theorem Fr.mono {F F' : Nat → Prop} {w w' : World} (h : Fr F w w') (hF : ∀ k, F k → F' k) : Fr F' w w' := ⟨h.os, h.tape, h.output, h.size, fun k hk hn => h.block k hk (fun hf => hn (hF k hf))⟩
theorem Fr.set {F : Nat → Prop} {w w1 : World} (h : Fr F w w1) {p : Addr} (hg : F p.block ∨ w.heap.size ≤ p.block) (u : Value) : Fr F w (w1.setCell p u) :=
  ⟨h.os, h.tape, h.output, by simpa [World.setCell] using h.size, fun k hk hn => (Below.heap_setCell w1 p u k (fun e => by rcases hg with hg | hg; exact hn (e ▸ hg); omega)).trans (h.block k hk hn)⟩
/-- A part of memory: it holds of a world and of the blocks that it lies in. -/
abbrev Part := World → (Nat → Prop) → Prop
structure Loc (A : Part) : Prop where
  step : ∀ {w w' : World} {F : Nat → Prop}, A w F → w.heap.size ≤ w'.heap.size → (∀ k, F k → k < w.heap.size → w'.heap[k]? = w.heap[k]?) → A w' F
  bound : ∀ {w : World} {F : Nat → Prop}, A w F → A w (fun k => F k ∧ k < w.heap.size)
  mono : ∀ {w : World} {F F' : Nat → Prop}, A w F → (∀ k, F k → F' k) → A w F'
def Stars : List Part → (Nat → Prop) → World → Prop
  | [], _, _ => True
  | A :: l, G, w => ∃ F : Nat → Prop, (∀ k, F k → G k) ∧ Loc A ∧ A w F ∧ Stars l (fun k => G k ∧ ¬ F k) w
theorem Stars.mono : ∀ {l : List Part} {G G' : Nat → Prop} {w : World}, Stars l G w → (∀ k, G k → G' k) → Stars l G' w
  | [], _, _, _, _, _ => trivial
  | _ :: _, _, _, _, ⟨F, h1, h2, h3, h4⟩, h => ⟨F, fun k hk => h k (h1 k hk), h2, h3, Stars.mono h4 (fun k hk => ⟨h k hk.1, hk.2⟩)⟩
theorem Stars.step : ∀ {l : List Part} {G : Nat → Prop} {w w' : World}, Stars l G w → w.heap.size ≤ w'.heap.size → (∀ k, G k → k < w.heap.size → w'.heap[k]? = w.heap[k]?) → Stars l G w'
  | [], _, _, _, _, _, _ => trivial
  | _ :: _, _, _, _, ⟨F, h1, h2, h3, h4⟩, hs, h => ⟨F, h1, h2, h2.step h3 hs (fun k hk hl => h k (h1 k hk) hl), Stars.step h4 hs (fun k hk hl => h k hk.1 hl)⟩
theorem Stars.bound : ∀ {l : List Part} {G : Nat → Prop} {w : World}, Stars l G w → Stars l (fun k => G k ∧ k < w.heap.size) w
  | [], _, _, _ => trivial
  | _ :: _, _, _, ⟨F, h1, h2, h3, h4⟩ => ⟨fun k => F k ∧ k < _, fun k hk => ⟨h1 k hk.1, hk.2⟩, h2, h2.bound h3, Stars.mono (Stars.bound h4) (fun k hk => ⟨⟨hk.1.1, hk.2⟩, fun hf => hk.1.2 hf.1⟩)⟩
theorem Stars.swap {A B : Part} {l : List Part} {G : Nat → Prop} {w : World} : Stars (A :: B :: l) G w → Stars (B :: A :: l) G w := by
  rintro ⟨F, h1, h2, h3, F', k1, k2, k3, k4⟩
  exact ⟨F', fun k hk => (k1 k hk).1, k2, k3, F, fun k hk => ⟨h1 k hk, fun hf => (k1 k hf).2 hk⟩, h2, h3, k4.mono (fun k hk => ⟨⟨hk.1.1, hk.2⟩, hk.1.2⟩)⟩
theorem Stars.front : ∀ (i : Nat) {l : List Part} {A : Part} {G : Nat → Prop} {w : World}, Stars l G w → l[i]? = some A → Stars (A :: l.eraseIdx i) G w
  | 0, _ :: _, _, _, _, h, e => by cases e; exact h
  | i + 1, B :: l, A, G, w, ⟨F, h1, h2, h3, h4⟩, e => by
    have := Stars.front i h4 (by simpa using e)
    exact Stars.swap ⟨F, h1, h2, h3, this⟩
theorem Stars.loc : ∀ {l : List Part}, Loc (fun w F => Stars l F w)
  | [] => ⟨fun _ _ _ => trivial, fun _ => trivial, fun _ _ => trivial⟩
  | _ :: _ => ⟨fun h hs hh => Stars.step h hs hh, fun h => Stars.bound h, fun h hh => Stars.mono h hh⟩
/-- Behind W, in a call that may turn the blocks of F0: the parts of l, apart from one another. -/
structure St (W : World) (F0 : Nat → Prop) (w : World) (l : List Part) : Prop where
  fr : Fr F0 W w
  st : Stars l (fun k => F0 k ∨ W.heap.size ≤ k) w
section
variable {W w w' : World} {F0 : Nat → Prop} {l : List Part} {A B : Part}
theorem St.start (W : World) (F0 : Nat → Prop) : St W F0 W [] := ⟨Fr.refl _ _, trivial⟩
theorem St.start1 (hl : Loc A) (h : A W F0) : St W F0 W [A] := ⟨Fr.refl _ _, F0, fun _ hk => .inl hk, hl, h, trivial⟩
theorem St.call (h : St W F0 w l) (hb : Below w.heap.size w w') : St W F0 w' l := ⟨h.fr.trans (Fr.of_below (F := fun _ => False) hb) (fun _ hk => hk.elim), h.st.step hb.size (fun k _ hl => hb.block k hl)⟩
theorem St.drew (h : St W F0 w l) (n : Nat) : St W F0 (w.drewN n) l := h.call (pw_below_drewN (Below.refl _ _) n)
theorem St.drew1 (h : St W F0 w l) : St W F0 w.drew l := h.call (below_drew (Below.refl _ _))
/-- A call that makes memory of its own. -/
theorem St.new (h : St W F0 w l) (hb : Below w.heap.size w w') (hl : Loc A) (ha : A w' (fun k => w.heap.size ≤ k)) : St W F0 w' (A :: l) := by
  have h' := h.call hb
  refine ⟨h'.fr, fun k => w.heap.size ≤ k, fun k hk => .inr (Nat.le_trans h.fr.size hk), hl, ha, ?_⟩
  have hs := h.st.bound.step hb.size (fun k hk hl => hb.block k hl)
  exact hs.mono (fun k hk => ⟨hk.1, by omega⟩)
theorem St.front (h : St W F0 w l) (i : Nat) (e : l[i]? = some A) : St W F0 w (A :: l.eraseIdx i) := ⟨h.fr, h.st.front i e⟩
theorem St.perm2 (h : St W F0 w (A :: B :: l)) : St W F0 w (B :: A :: l) := ⟨h.fr, h.st.swap⟩
theorem St.drop (h : St W F0 w (A :: l)) : St W F0 w l := by
  obtain ⟨h0, F, h1, h2, h3, h4⟩ := h
  exact ⟨h0, h4.mono (fun k hk => hk.1)⟩
theorem St.imp {A' : Part} (h : St W F0 w (A :: l)) (hl : Loc A') (hi : ∀ F, A w F → A' w F) : St W F0 w (A' :: l) := by
  obtain ⟨h0, F, h1, h2, h3, h4⟩ := h
  exact ⟨h0, F, h1, hl, hi F h3, h4⟩
theorem St.get (h : St W F0 w l) (i : Nat) (e : l[i]? = some A) : ∃ F, A w F := by
  obtain ⟨h0, F, h1, h2, h3, h4⟩ := h.front i e
  exact ⟨F, h3⟩
/-- The first part is turned, by a call that turns nothing else. -/
theorem St.upd (h : St W F0 w (A :: l)) : ∃ F, A w F ∧ (∀ k, F k → k < w.heap.size ∧ (F0 k ∨ W.heap.size ≤ k)) ∧ ∀ (w' : World) (A' : Part) (F' : Nat → Prop), Fr F w w' → (∀ k, F' k → F k ∨ w.heap.size ≤ k) → Loc A' → A' w' F' → St W F0 w' (A' :: l) := by
  obtain ⟨h0, hst⟩ := h
  obtain ⟨F, h1, h2, h3, h4⟩ := hst.bound
  refine ⟨F, h3, fun k hk => ⟨(h1 k hk).2, (h1 k hk).1⟩, fun w' A' F' hf hF' hl ha => ?_⟩
  refine ⟨h0.trans hf (fun k hk => (h1 k hk).1), F', fun k hk => ?_, hl, ha, ?_⟩
  · rcases hF' k hk with h | h
    · exact (h1 k h).1
    · exact .inr (Nat.le_trans h0.size h)
  · exact (h4.step hf.size (fun k hk hl => hf.block k hl hk.2)).mono (fun k hk => ⟨hk.1.1, fun hh => by rcases hF' k hh with h | h; exact hk.2 h; have := hk.1.2; omega⟩)
theorem St.end_ (h : St W F0 w (A :: l)) : Fr F0 W w ∧ ∃ F', (∀ k, F' k → F0 k ∨ W.heap.size ≤ k) ∧ A w F' := by
  obtain ⟨h0, F, h1, h2, h3, h4⟩ := h
  exact ⟨h0, F, h1, h3⟩
theorem St.below (h : St W (fun _ => False) w l) : Below W.heap.size W w := h.fr.below
/-- Two parts as one. -/
theorem St.merge (h : St W F0 w (A :: B :: l)) : St W F0 w ((fun w F => Stars [A, B] F w) :: l) := by
  obtain ⟨h0, F, h1, h2, h3, F', k1, k2, k3, k4⟩ := h
  exact ⟨h0, fun k => F k ∨ F' k, fun k hk => hk.elim (h1 k) (fun h => (k1 k h).1), Stars.loc, ⟨F, fun k hk => .inl hk, h2, h3, F', fun k hk => ⟨.inr hk, (k1 k hk).2⟩, k2, k3, trivial⟩, k4.mono (fun k hk => ⟨hk.1.1, fun hh => hh.elim hk.1.2 hk.2⟩)⟩
theorem St.split (h : St W F0 w ((fun w F => Stars [A, B] F w) :: l)) : St W F0 w (A :: B :: l) := by
  obtain ⟨h0, G, h1, h2, ⟨F, k1, k2, k3, F', j1, j2, j3, _⟩, h4⟩ := h
  exact ⟨h0, F, fun k hk => h1 k (k1 k hk), k2, k3, F', fun k hk => ⟨h1 k (j1 k hk).1, (j1 k hk).2⟩, j2, j3, h4.mono (fun k hk => ⟨⟨hk.1, fun hf => hk.2 (k1 k hf)⟩, fun hf => hk.2 (j1 k hf).1⟩)⟩
end
/-- One block of cells. -/
def Pt (g : Nat) (cs : Array Value) (t : TypeId) : Part := fun w F => F g ∧ w.heap[g]? = some (.cells cs t (0, 0))
theorem Pt.loc {g : Nat} {cs : Array Value} {t : TypeId} : Loc (Pt g cs t) :=
  ⟨fun h _ hh => ⟨h.1, (hh g h.1 (blk_lt h.2)).trans h.2⟩, fun h => ⟨⟨h.1, blk_lt h.2⟩, h.2⟩, fun h hh => ⟨hh g h.1, h.2⟩⟩
/-- A row of elements of the call's own. -/
def Rw {α : Type} (d : Kd α) (e : Nat) (v : Value) (xs : List α) : Part := fun w F => d.R e w 0 F v xs
theorem Rw.loc {α : Type} {d : Kd α} {e : Nat} {v : Value} {xs : List α} : Loc (Rw d e v xs) :=
  ⟨fun h _ hh => Kd.R_step h hh, fun h => Kd.R_mono (Kd.R_bound h) (fun _ hk => ⟨hk.1, hk.2.2.1⟩), fun h hh => Kd.R_mono h hh⟩
/-- Whatever holds as long as the blocks of F stay. -/
def Sem (P : World → Prop) : Part := fun w F => ∀ w' : World, w.heap.size ≤ w'.heap.size → (∀ k, F k → k < w.heap.size → w'.heap[k]? = w.heap[k]?) → P w'
theorem Sem.loc {P : World → Prop} : Loc (Sem P) :=
  ⟨fun h hs hh w' hs' h' => h w' (Nat.le_trans hs hs') (fun k hk hl => (h' k hk (Nat.lt_of_lt_of_le hl hs)).trans (hh k hk hl)), fun h w' hs h' => h w' hs (fun k hk hl => h' k ⟨hk, hl⟩ hl), fun h hh w' hs h' => h w' hs (fun k hk hl => h' k (hh k hk) hl)⟩
theorem Sem.now {P : World → Prop} {w : World} {F : Nat → Prop} (h : Sem P w F) : P w := h w (Nat.le_refl _) (fun _ _ _ => rfl)
section
variable {W w w' : World} {F0 : Nat → Prop} {l : List Part} {g g' : Nat} {cs cs' : Array Value} {t t' : TypeId}
theorem St.box (h : St W F0 w l) (e : g = w.heap.size) (hb : Below w.heap.size w w') (hg : w'.heap[g]? = some (.cells cs t (0, 0))) : St W F0 w' (Pt g cs t :: l) := h.new hb Pt.loc ⟨Nat.le_of_eq e.symm, hg⟩
theorem St.row {α : Type} {d : Kd α} {e : Nat} {v : Value} {xs : List α} {ok : Nat → Prop} (h : St W F0 w l) (hb : Below w.heap.size w w') (hr : d.R e w' w.heap.size ok v xs) : St W F0 w' (Rw d e v xs :: l) := h.new hb Rw.loc (Kd.R_lower (Kd.R_mono (Kd.R_bound hr) (fun _ hk => hk.2.1)) (Nat.zero_le _))
theorem St.put (h : St W F0 w (Pt g cs t :: l)) (i : Nat) (u : Value) (e : cs.setIfInBounds i u = cs') : St W F0 (w.setCell ⟨g, i, none⟩ u) (Pt g cs' t :: l) := by
  obtain ⟨F, hA, hF, hu⟩ := h.upd
  refine hu _ _ F (Fr.set (Fr.refl _ _) (.inl hA.1) u) (fun k hk => .inl hk) Pt.loc ⟨hA.1, blk_put hA.2 i u e⟩
theorem St.blk (h : St W F0 w l) (i : Nat) (e : l[i]? = some (Pt g cs t)) : w.heap[g]? = some (.cells cs t (0, 0)) := by
  obtain ⟨F, h1⟩ := h.get i e
  exact h1.2
theorem St.rd {α : Type} {d : Kd α} {q : Nat} {v : Value} {xs : List α} (h : St W F0 w l) (i : Nat) (e : l[i]? = some (Rw d q v xs)) : ∃ ok, d.R q w 0 ok v xs := h.get i e
theorem St.ne (h : St W F0 w l) (i j : Nat) (hi : l[i]? = some (Pt g cs t)) (hj : l[j]? = some (Pt g' cs' t')) (hij : i ≠ j) : g ≠ g' := by
  obtain ⟨h0, F, h1, h2, h3, h4⟩ := h.front i hi
  have hj' : (l.eraseIdx i)[if j < i then j else j - 1]? = some (Pt g' cs' t') := by
    rw [List.getElem?_eraseIdx]
    by_cases c : j < i
    · rw [if_pos c, if_pos c]; exact hj
    · rw [if_neg c, if_neg (by omega), show j - 1 + 1 = j by omega]; exact hj
  obtain ⟨F', k1, k2, k3, k4⟩ := h4.front _ hj'
  rintro rfl
  exact (k1 g k3.1).2 h3.1
end
theorem Calls.named {P : Program} {f : FuncId} {args : Array Value} {w : World} {R : Ending → World → Prop} (h : ∀ w', w' = w → Calls P f args w' R) : Calls P f args w R := h _ rfl
theorem wl_named {P : Program} {ops : Array Oper} {Q : Exit → Act → World → Prop} {l : List Oper} {a : Act} {w : World} (h : ∀ w', w' = w → wpList P ops Q l a w') : wpList P ops Q l a w := h _ rfl
theorem wp_named {P : Program} {c : Code} {Q : Exit → Act → World → Prop} {a : Act} {w : World} (h : ∀ w', w' = w → c.wp P Q a w') : c.wp P Q a w := h _ rfl
theorem St.alloc {W w : World} {F0 : Nat → Prop} {l : List Part} {cs : Array Value} {t : TypeId} (h : St W F0 w l) : St W F0 (w.alloc (.cells cs t)) (Pt w.heap.size cs t :: l) := h.box rfl (below_alloc (Below.refl _ _) _) (blk_new w _)
theorem Stars.append : ∀ {l l' : List Part} {G G' : Nat → Prop} {w : World}, Stars l G w → Stars l' G' w → (∀ k, G k → ¬ G' k) → Stars (l ++ l') (fun k => G k ∨ G' k) w
  | [], _, _, _, _, _, h', _ => h'.mono (fun _ hk => .inr hk)
  | _ :: _, _, _, _, _, ⟨F, h1, h2, h3, h4⟩, h', hd => ⟨F, fun k hk => .inl (h1 k hk), h2, h3, (Stars.append h4 h' (fun k hk => hd k hk.1)).mono (fun k hk => hk.elim (fun h => ⟨.inl h.1, h.2⟩) (fun h => ⟨.inr h, fun hf => hd k (h1 k hf) h⟩))⟩
theorem Stars.take : ∀ (n : Nat) {l : List Part} {G : Nat → Prop} {w : World}, Stars l G w → Stars (l.take n) G w
  | 0, _, _, _, _ => trivial
  | _ + 1, [], _, _, _ => trivial
  | n + 1, _ :: _, _, _, ⟨F, h1, h2, h3, h4⟩ => ⟨F, h1, h2, h3, Stars.take n h4⟩
section
variable {W w w' : World} {F0 : Nat → Prop} {l l' : List Part} {A B : Part}
theorem St.take (h : St W F0 w l) (n : Nat) : St W F0 w (l.take n) := ⟨h.fr, h.st.take n⟩
/-- Behind a call that makes the parts of l', and turns nothing. -/
theorem St.join0 (h : St W F0 w l) (k : St w (fun _ => False) w' l') : St W F0 w' (l' ++ l) := by
  have hb := k.below
  refine ⟨(h.call hb).fr, ?_⟩
  have h1 := k.st.mono (G' := fun i => w.heap.size ≤ i) (fun i hi => hi.elim (fun f => f.elim) (fun x => x))
  have h2 := h.st.bound.step hb.size (fun i _ hl => hb.block i hl)
  exact (Stars.append h1 h2 (fun i hi hi' => by have := hi'.2; omega)).mono (fun i hi => hi.elim (fun h3 => .inr (Nat.le_trans h.fr.size h3)) (fun h3 => h3.1))
/-- Behind a call that turns the first part alone. -/
theorem St.join (h : St W F0 w (A :: l)) : ∃ F, A w F ∧ (∀ k, F k → k < w.heap.size) ∧ ∀ (w' : World) (l' : List Part), St w F w' l' → St W F0 w' (l' ++ l) := by
  obtain ⟨h0, hst⟩ := h
  obtain ⟨F, h1, h2, h3, h4⟩ := hst.bound
  refine ⟨F, h3, fun k hk => (h1 k hk).2, fun w' l' k => ?_⟩
  refine ⟨h0.trans k.fr (fun i hi => (h1 i hi).1), ?_⟩
  have h5 := h4.step k.fr.size (fun i hi hl => k.fr.block i hl hi.2)
  exact (Stars.append k.st h5 (fun i hi hi' => hi.elim hi'.2 (fun hh => by have := hi'.1.2; omega))).mono (fun i hi => hi.elim (fun hh => hh.elim (fun hf => (h1 i hf).1) (fun hs => .inr (Nat.le_trans h0.size hs))) (fun hh => hh.1.1))
theorem St.mono0 (h : St W F0 w l) {F1 : Nat → Prop} (hF : ∀ k, F0 k → F1 k) : St W F1 w l := ⟨h.fr.mono hF, h.st.mono (fun k hk => hk.imp (hF k) (fun x => x))⟩
end
/-- A row that is read, wherever it lies. -/
def Vw {α : Type} (d : Kd α) (A : Option Addr) (n : Nat) (xs : List α) : Part := fun w F => Kd.F d w F A n xs
theorem Vw.loc {α : Type} {d : Kd α} {A : Option Addr} {n : Nat} {xs : List α} : Loc (Vw d A n xs) := ⟨fun h _ hh => Kd.F_step h hh, fun h => Kd.F_bound h, fun h hh => Kd.F_mono h hh⟩
theorem St.vw {W w : World} {F0 : Nat → Prop} {l : List Part} {α : Type} {d : Kd α} {A : Option Addr} {n : Nat} {xs : List α} (h : St W F0 w l) (i : Nat) (e : l[i]? = some (Vw d A n xs)) : d.C w A n xs := by
  obtain ⟨F, h1⟩ := h.get i e
  exact Kd.F_now h1
theorem results_tct {P : Program} {fn : Func} {p u v : Tmp} {ty : TypeId} (h : fn.results = #[.tmp u, .cell p ty, .tmp v]) (tmps : Array Value) (w : World) (g : Nat) (t : TypeId) (cs : Array Value) (fr : Nat × Nat) (d : TypeDesc)
    (hp : tmps.getD p undef = .pointer (some ⟨g, 0, none⟩)) (hg : w.heap[g]? = some (.cells cs t fr))
    (hu : P.underlying ty = some d) (hd : (match d with | .struct _ | .array _ _ => true | _ => false) = true) (hi : (P.info? ty).map (·.size) = some cs.size) :
    (results fn tmps).run P w = .ok (.tuple #[tmps.getD u undef, .agg cs, tmps.getD v undef]) w := by
  have hp' : tmps[p]?.getD undef = .pointer (some ⟨g, 0, none⟩) := by simpa using hp
  simp [results, h, hp', asAddr, run_loadVar_row w g t ty cs fr d hg hu hd hi]
/-- A call that reads a row of the call's own, and hands back what shares memory with it. -/
theorem St.shared {W w : World} {F0 : Nat → Prop} {l : List Part} {α : Type} {d : Kd α} {e : Nat} {v : Value} {xs : List α} (h : St W F0 w (Rw d e v xs :: l)) : ∃ ok, d.R e w 0 ok v xs ∧ ∀ (w' : World) (B : Part), Below w.heap.size w w' → Loc B → B w' (fun k => ok k ∨ w.heap.size ≤ k) → St W F0 w' (B :: l) := by
  obtain ⟨F, hA, _, hu⟩ := h.upd
  exact ⟨F, hA, fun w' B hb hl hB => hu w' B _ (Fr.of_below hb) (fun k hk => hk) hl hB⟩
theorem St.sharedV {W w : World} {F0 : Nat → Prop} {l : List Part} {α : Type} {d : Kd α} {A : Option Addr} {n : Nat} {xs : List α} (h : St W F0 w (Vw d A n xs :: l)) : ∃ ok, d.F w ok A n xs ∧ ∀ (w' : World) (B : Part), Below w.heap.size w w' → Loc B → B w' (fun k => ok k ∨ w.heap.size ≤ k) → St W F0 w' (B :: l) := by
  obtain ⟨F, hA, _, hu⟩ := h.upd
  exact ⟨F, hA, fun w' B hb hl hB => hu w' B _ (Fr.of_below hb) (fun k hk => hk) hl hB⟩
/-- A row of the call's own, whose elements may share what they lead to. -/
def Nw {α : Type} (d : Kd α) (e : Nat) (v : Value) (xs : List α) : Part := fun w F => Kd.N d e w 0 F v xs
theorem Nw.loc {α : Type} {d : Kd α} {e : Nat} {v : Value} {xs : List α} : Loc (Nw d e v xs) := ⟨fun h _ hh => Kd.N_step h hh, fun h => Kd.N_bound h, fun h hh => Kd.N_mono h hh⟩
theorem Fr.of_grown {F : Nat → Prop} {w w' : World} {row : Option Nat} (h : w.grownBy w' row) (hr : ∀ k, row = some k → F k) : Fr F w w' := ⟨h.os, h.tape, h.output, h.size, fun k hk hn => h.block k hk (fun e => hn (hr k e.symm))⟩
section
variable {W w : World} {F0 : Nat → Prop} {l : List Part} {α : Type} {d : Kd α} {e n : Nat} {v : Value} {A : Option Addr} {xs ys : List α}
theorem St.rw_nw (h : St W F0 w (Rw d e v xs :: l)) : St W F0 w (Nw d e v xs :: l) := h.imp Nw.loc (fun _ hh => Kd.R_N hh)
theorem St.nw_vw {c : Nat} (h : St W F0 w (Nw d e (.slice A n c) xs :: l)) : St W F0 w (Vw d A n xs :: l) := h.imp Vw.loc (fun _ hh => Kd.N_F hh)
theorem St.rw_vw {c : Nat} (h : St W F0 w (Rw d e (.slice A n c) xs :: l)) : St W F0 w (Vw d A n xs :: l) := h.imp Vw.loc (fun _ hh => Kd.N_F (Kd.R_N hh))
theorem St.nrd (h : St W F0 w l) (i : Nat) {c : Nat} (q : l[i]? = some (Nw d e (.slice A n c) xs)) : n = xs.length ∧ n ≤ c ∧ d.C w A xs.length xs := by
  obtain ⟨F, h1⟩ := h.get i q
  exact Kd.N_reads' h1
/-- append(v, ys...): what the law for rows asks, and what it leaves. -/
theorem St.append_rows (h : St W F0 w (Nw d e v xs :: Vw d A n ys :: l)) : ∃ ok okp : Nat → Prop, Kd.N d e w 0 ok v xs ∧ Kd.F d w okp A n ys ∧ (∀ k, okp k → ok k ∧ some k ≠ v.ownBlock) ∧ (∀ k, w.heap.size ≤ k → ok k) ∧
    ∀ v1 w1, Kd.N d e w1 0 ok v1 (xs ++ ys) → w.grownBy w1 v.ownBlock → St W F0 w1 (Nw d e v1 (xs ++ ys) :: l) := by
  obtain ⟨h0, hst⟩ := h
  obtain ⟨F1, a1, _, a3, F2, b1, _, b3, hl⟩ := hst.bound
  refine ⟨fun k => F1 k ∨ F2 k ∨ w.heap.size ≤ k, F2, Kd.N_mono a3 (fun k hk => .inl hk), b3, fun k hk => ⟨.inr (.inl hk), fun q => (b1 k hk).2 (a3.1 k q.symm)⟩, fun k hk => .inr (.inr hk), fun v1 w1 hN hg => ?_⟩
  have hf : Fr F1 w w1 := Fr.of_grown hg (fun k hk => a3.1 k hk)
  refine ⟨h0.trans hf (fun k hk => (a1 k hk).1), _, fun k hk => ?_, Nw.loc, hN, ?_⟩
  · rcases hk with hk | hk | hk
    · exact (a1 k hk).1
    · exact (b1 k hk).1.1
    · exact .inr (Nat.le_trans h0.size hk)
  · exact (hl.step hf.size (fun k hk hlt => hf.block k hlt hk.1.2)).mono (fun k hk => ⟨hk.1.1.1, fun q => q.elim hk.1.2 (fun q => q.elim hk.2 (fun q => by have := hk.1.1.2; omega))⟩)
/-- append(v, p) of one element whose cells lie in a block just made (it is the first part). -/
theorem St.append_one (h : St W F0 w (Nw d e v xs :: l)) {p : α} {cs : List Value} {okq : Nat → Prop} (hp : Kd.FK d w okq p cs) (hq : ∀ k, ¬ okq k) : ∃ ok okp : Nat → Prop, Kd.N d e w 0 ok v xs ∧ Kd.FK d w okp p cs ∧ (∀ k, okp k → ok k ∧ some k ≠ v.ownBlock) ∧ (∀ k, w.heap.size ≤ k → ok k) ∧
    ∀ v1 w1, Kd.N d e w1 0 ok v1 (xs ++ [p]) → w.grownBy w1 v.ownBlock → St W F0 w1 (Nw d e v1 (xs ++ [p]) :: l) := by
  obtain ⟨h0, hst⟩ := h
  obtain ⟨F1, a1, _, a3, hl⟩ := hst.bound
  refine ⟨fun k => F1 k ∨ w.heap.size ≤ k, okq, Kd.N_mono a3 (fun k hk => .inl hk), hp, fun k hk => (hq k hk).elim, fun k hk => .inr hk, fun v1 w1 hN hg => ?_⟩
  have hf : Fr F1 w w1 := Fr.of_grown hg (fun k hk => a3.1 k hk)
  refine ⟨h0.trans hf (fun k hk => (a1 k hk).1), _, fun k hk => ?_, Nw.loc, hN, ?_⟩
  · rcases hk with hk | hk
    · exact (a1 k hk).1
    · exact .inr (Nat.le_trans h0.size hk)
  · exact (hl.step hf.size (fun k hk hlt => hf.block k hlt hk.2)).mono (fun k hk => ⟨hk.1.1, fun q => q.elim hk.2 (fun q => by have := hk.1.2; omega)⟩)
end
section
variable {P : Program}
theorem cut_h' (t e : TypeId) (k : IntKind) (z : Nat) (ht : P.underlying t = some (.slice e)) (hs : (P.info? e).map (·.size) = some z) (A : Option Addr) (n c : Nat) (h : Int) (h0 : 0 ≤ h) (hc : h ≤ c) (W : World) :
    (Instr.slice t (.slice A n c) none (some (.int k h)) none).run P W = .ok (.slice A h.toNat c) W := by
  cases hq : P.info? e with
  | none => simp [hq] at hs
  | some i =>
    have hi : i.size = z := by simpa [hq] using hs
    have hel : P.elem t = e := by simp [Program.elem, ht]
    have hu : P.underlying t = some (.slice (P.elem t)) := by rw [hel]; exact ht
    have ha : (A.map fun x => x.add 0) = A := by cases A <;> simp [Addr.add]
    rw [run_slice_h W t A n c hu k h h0 hc, hel]
    simp [sizeOf, typeInfo, hq, hi, sliced, Result.andThen, ha]
theorem cut_l' (t e : TypeId) (k : IntKind) (z : Nat) (ht : P.underlying t = some (.slice e)) (hs : (P.info? e).map (·.size) = some z) (A : Option Addr) (n c : Nat) (l : Int) (h0 : 0 ≤ l) (hc : l ≤ n) (W : World) :
    (Instr.slice t (.slice A n c) (some (.int k l)) none none).run P W = .ok (.slice (if c = l.toNat then A else A.map (·.add (l.toNat * z))) (n - l.toNat) (c - l.toNat)) W := by
  cases hq : P.info? e with
  | none => simp [hq] at hs
  | some i =>
    have hi : i.size = z := by simpa [hq] using hs
    have hel : P.elem t = e := by simp [Program.elem, ht]
    have hu : P.underlying t = some (.slice (P.elem t)) := by rw [hel]; exact ht
    rw [run_slice_l W t A n c hu k l h0 hc, hel]
    simp [sizeOf, typeInfo, hq, hi, sliced, Result.andThen]
end
theorem Stars.get {l : List Part} {G : Nat → Prop} {w : World} {A : Part} (h : Stars l G w) (i : Nat) (e : l[i]? = some A) : ∃ F, A w F := by
  obtain ⟨F, _, _, h3, _⟩ := h.front i e
  exact ⟨F, h3⟩
theorem Stars.rd {α : Type} {d : Kd α} {q : Nat} {v : Value} {xs : List α} {l : List Part} {G : Nat → Prop} {w : World} (h : Stars l G w) (i : Nat) (e : l[i]? = some (Rw d q v xs)) : ∃ ok, d.R q w 0 ok v xs := h.get i e
/-- Behind a call that turns the first part alone: the others stay readable wherever only that part turns. -/
theorem St.joinR {W w : World} {F0 : Nat → Prop} {l : List Part} {A : Part} (h : St W F0 w (A :: l)) : ∃ F, A w F ∧ (∀ k, F k → k < w.heap.size) ∧ (∀ w', Fr F w w' → ∃ G, Stars l G w') ∧ ∀ (w' : World) (l' : List Part), St w F w' l' → St W F0 w' (l' ++ l) := by
  obtain ⟨h0, hst⟩ := h
  obtain ⟨F, h1, h2, h3, h4⟩ := hst.bound
  refine ⟨F, h3, fun k hk => (h1 k hk).2, fun w' hf => ⟨_, h4.step hf.size (fun i hi hl => hf.block i hl hi.2)⟩, fun w' l' k => ?_⟩
  refine ⟨h0.trans k.fr (fun i hi => (h1 i hi).1), ?_⟩
  have h5 := h4.step k.fr.size (fun i hi hl => k.fr.block i hl hi.2)
  exact (Stars.append k.st h5 (fun i hi hi' => hi.elim hi'.2 (fun hh => by have := hi'.1.2; omega))).mono (fun i hi => hi.elim (fun hh => hh.elim (fun hf => (h1 i hf).1) (fun hs => .inr (Nat.le_trans h0.size hs))) (fun hh => hh.1.1))
theorem St.old_ne {W w : World} {l : List Part} {g k : Nat} {cs : Array Value} {t : TypeId} (h : St W (fun _ => False) w l) (i : Nat) (e : l[i]? = some (Pt g cs t)) (hk : k < W.heap.size) : k ≠ g := by
  obtain ⟨_, F, h1, _, h3, _⟩ := h.front i e
  rintro rfl
  exact (h1 _ h3.1).elim (fun f => f) (fun hh => by omega)
/-! ### The readers: what is left, and whether it is bad -/
abbrev RS := List Int × Bool
/-- A reader of type T at block g; what is left came in by W0. -/
def RdP (W0 : World) (T : TypeId) (g : Nat) (s : RS) : Part := fun w F => ∃ A c, s.1.length ≤ c ∧ Kd.C (Kd.int .u8) W0 A s.1.length s.1 ∧ W0.heap.size ≤ g ∧ Pt g #[.slice A s.1.length c, .bool s.2] T w F
section
variable {W0 W w : World} {T : TypeId} {g : Nat} {s : RS} {F0 : Nat → Prop} {l : List Part}
theorem RdP.loc : Loc (RdP W0 T g s) :=
  ⟨fun ⟨A, c, h1, h2, h3, h4⟩ hs hh => ⟨A, c, h1, h2, h3, Pt.loc.step h4 hs hh⟩, fun ⟨A, c, h1, h2, h3, h4⟩ => ⟨A, c, h1, h2, h3, Pt.loc.bound h4⟩, fun ⟨A, c, h1, h2, h3, h4⟩ hh => ⟨A, c, h1, h2, h3, Pt.loc.mono h4 hh⟩⟩
theorem St.rdOpen (h : St W F0 w (RdP W0 T g s :: l)) : ∃ A c, s.1.length ≤ c ∧ Kd.C (Kd.int .u8) W0 A s.1.length s.1 ∧ W0.heap.size ≤ g ∧ St W F0 w (Pt g #[.slice A s.1.length c, .bool s.2] T :: l) := by
  obtain ⟨h0, F, h1, h2, ⟨A, c, k1, k2, k3, k4⟩, h4⟩ := h
  exact ⟨A, c, k1, k2, k3, h0, F, h1, Pt.loc, k4, h4⟩
theorem St.rdShut (s : RS) {A : Option Addr} {n c : Nat} {b : Bool} (hn : n = s.1.length) (hb : b = s.2) (hc : s.1.length ≤ c) (hC : Kd.C (Kd.int .u8) W0 A s.1.length s.1) (hg : W0.heap.size ≤ g) (h : St W F0 w (Pt g #[.slice A n c, .bool b] T :: l)) : St W F0 w (RdP W0 T g s :: l) := by
  subst hn hb
  exact h.imp RdP.loc (fun F hp => ⟨A, c, hc, hC, hg, hp⟩)
theorem RdP.base (h : RdP W0 T g s w F0) : W0.heap.size ≤ g := by
  obtain ⟨A, c, _, _, h3, _⟩ := h
  exact h3
end
set_option maxHeartbeats 8000000 in
set_option maxRecDepth 100000 in
theorem codec_fail (W0 W : World) (F : Nat → Prop) (g : Nat) (s : RS) (h : RdP W0 94 g s W F) :
    Calls Try.prog 59 #[.pointer (some ⟨g, 0, none⟩)] W fun e w' => e = .returned (.tuple #[]) ∧ St W F w' [RdP W0 94 g ([], true)] := by
  have hu := Try.underlying94
  have S0 := St.start1 RdP.loc h
  obtain ⟨A, c, k1, k2, k3, S1⟩ := S0.rdOpen
  have z0 : W.cell? ⟨g, 0, none⟩ = some (.slice A s.1.length c) := (blk_cell (S1.blk 0 rfl) 0).trans rfl; have fz0 : W.frozen? ⟨g, 0, none⟩ = false := blk_frozen (S1.blk 0 rfl) 0; have z1 : W.cell? ⟨g, 1, none⟩ = some (.bool s.2) := (blk_cell (S1.blk 0 rfl) 1).trans rfl; have fz1 : W.frozen? ⟨g, 1, none⟩ = false := blk_frozen (S1.blk 0 rfl) 1
  have H3 := Aside0.mk k3
  clear h S0 k1 k2 k3
  go_enter Try.func59, Try.ntmps59
  go_wp2
  go_end0
  exact ⟨rfl, St.rdShut ([], true) rfl rfl (Nat.zero_le _) (Kd.C_nil _ _) H3.out ((S1.put 0 (.slice none 0 0) rfl).put 1 (.bool true) rfl)⟩
set_option maxHeartbeats 8000000 in
set_option maxRecDepth 100000 in
theorem codec_bad (W0 W : World) (g : Nat) (s : RS) (F : Nat → Prop) (h : RdP W0 94 g s W F) :
    Calls Try.prog 31 #[.pointer (some ⟨g, 0, none⟩)] W fun e w' => e = .returned (.bool s.2) ∧ Below W.heap.size W w' := by
  have hu := Try.underlying94
  have S0 := St.start1 RdP.loc h
  obtain ⟨A, c, k1, k2, k3, S1⟩ := S0.rdOpen
  have z0 : W.cell? ⟨g, 0, none⟩ = some (.slice A s.1.length c) := (blk_cell (S1.blk 0 rfl) 0).trans rfl; have fz0 : W.frozen? ⟨g, 0, none⟩ = false := blk_frozen (S1.blk 0 rfl) 0; have z1 : W.cell? ⟨g, 1, none⟩ = some (.bool s.2) := (blk_cell (S1.blk 0 rfl) 1).trans rfl; have fz1 : W.frozen? ⟨g, 1, none⟩ = false := blk_frozen (S1.blk 0 rfl) 1
  clear h S0 k1 k2 k3
  go_enter Try.func31, Try.ntmps31
  go_wp2
  go_ret
  exact ⟨rfl, Below.refl _ _⟩
set_option maxHeartbeats 8000000 in
set_option maxRecDepth 100000 in
theorem codec_left (W0 W : World) (g : Nat) (s : RS) (F : Nat → Prop) (h : RdP W0 94 g s W F) :
    Calls Try.prog 30 #[.pointer (some ⟨g, 0, none⟩)] W fun e w' => e = .returned (.int .i64 s.1.length) ∧ Below W.heap.size W w' := by
  have hu := Try.underlying94
  have S0 := St.start1 RdP.loc h
  obtain ⟨A, c, k1, k2, k3, S1⟩ := S0.rdOpen
  have z0 : W.cell? ⟨g, 0, none⟩ = some (.slice A s.1.length c) := (blk_cell (S1.blk 0 rfl) 0).trans rfl; have fz0 : W.frozen? ⟨g, 0, none⟩ = false := blk_frozen (S1.blk 0 rfl) 0; have z1 : W.cell? ⟨g, 1, none⟩ = some (.bool s.2) := (blk_cell (S1.blk 0 rfl) 1).trans rfl; have fz1 : W.frozen? ⟨g, 1, none⟩ = false := blk_frozen (S1.blk 0 rfl) 1
  clear h S0 k1 k2 k3
  go_enter Try.func30, Try.ntmps30
  go_wp2
  go_ret
  exact ⟨rfl, Below.refl _ _⟩
def cGo (most : Int) : List Int → Nat → Int → Option (Int × List Int)
  | [], _, _ => none
  | c :: r, i, x => if 64 < 7 * i + Lib.bitLen (c % 128).toNat then none else
      if 128 ≤ c then cGo most r (i + 1) (x + c % 128 * 2 ^ (7 * i)) else if (c = 0 ∧ 0 < i) ∨ most < x + c % 128 * 2 ^ (7 * i) then none else some (x + c % 128 * 2 ^ (7 * i), r)
def cNat (most : Int) (s : RS) : Int × RS := match cGo most s.1 0 0 with
  | none => (0, [], true)
  | some (v, r) => (v, r, s.2)
theorem bits_len (a0 : Int) (w : World) (h0 : 0 ≤ a0) (h1 : a0 ≤ 18446744073709551615) :
    Calls Try.prog 88 #[.int .u64 a0] w fun e w' => e = .returned (.int .i64 (Lib.bitLen a0.toNat : Int)) ∧ w' = w := Try.bits_Len64 a0 w h0 h1
theorem u8_not (y : Int) (h0 : 0 ≤ y) (h1 : y < 256) : bits .andNot .u8 y 128 = y % 128 := by
  have h : ∀ n : Fin 256, bits .andNot .u8 ((n : Nat) : Int) 128 = ((n : Nat) : Int) % 128 := by decide +kernel
  have := h ⟨y.toNat, by omega⟩
  rw [show ((⟨y.toNat, by omega⟩ : Fin 256) : Nat) = y.toNat from rfl, Int.toNat_of_nonneg h0] at this
  exact this
theorem u8_top (y : Int) (h0 : 0 ≤ y) (h1 : y < 256) : bits .and .u8 y 128 = if y < 128 then 0 else 128 := by
  have h : ∀ n : Fin 256, bits .and .u8 ((n : Nat) : Int) 128 = if ((n : Nat) : Int) < 128 then 0 else 128 := by decide +kernel
  have := h ⟨y.toNat, by omega⟩
  rw [show ((⟨y.toNat, by omega⟩ : Fin 256) : Nat) = y.toNat from rfl, Int.toNat_of_nonneg h0] at this
  exact this
theorem len_7 (y : Int) (h0 : 0 ≤ y) (h1 : y < 128) : Lib.bitLen y.toNat ≤ 7 := by
  have h : ∀ n : Fin 128, Lib.bitLen (n : Nat) ≤ 7 := by decide +kernel
  exact h ⟨y.toNat, by omega⟩
theorem lt_bitLen (y : Int) (h0 : 0 ≤ y) (h1 : y < 128) : y < 2 ^ Lib.bitLen y.toNat := by
  have h : ∀ n : Fin 128, (n : Nat) < 2 ^ Lib.bitLen (n : Nat) := by decide +kernel
  have := h ⟨y.toNat, by omega⟩
  have e : ((2 ^ Lib.bitLen y.toNat : Nat) : Int) = 2 ^ Lib.bitLen y.toNat := by simp
  rw [← e]
  have h2 : y.toNat < 2 ^ Lib.bitLen y.toNat := this
  omega
theorem cNat_none {most : Int} {l : List Int} {b : Bool} (h : cGo most l 0 0 = none) : cNat most (l, b) = (0, [], true) := by rw [cNat, h]
theorem cNat_some {most : Int} {l r : List Int} {b : Bool} {v : Int} (h : cGo most l 0 0 = some (v, r)) : cNat most (l, b) = (v, r, b) := by rw [cNat, h]
theorem drop_rd {l : List Int} {i : Nat} (h : i < l.length) : l.drop i = rd l (i : Int) :: l.drop (i + 1) := by
  rw [List.drop_eq_getElem_cons h]
  congr 1
  show _ = l.getD ((i : Int)).toNat 0
  rw [Int.toNat_natCast, List.getD, List.getElem?_eq_getElem h]; rfl
theorem sh_facts (gr : Int) (i : Nat) (x : Int) (h0 : 0 ≤ gr) (h1 : gr < 128) (h : ¬ 64 < 7 * i + Lib.bitLen gr.toNat) (hx0 : 0 ≤ x) (hx1 : x < 2 ^ (7 * i)) :
    IntKind.u64.wrap (gr * 2 ^ (7 * i)) = gr * 2 ^ (7 * i) ∧ bits .or .u64 x (gr * 2 ^ (7 * i)) = x + gr * 2 ^ (7 * i) ∧ 0 ≤ x + gr * 2 ^ (7 * i) ∧ x + gr * 2 ^ (7 * i) < 2 ^ (7 * (i + 1)) ∧ x + gr * 2 ^ (7 * i) < 18446744073709551616 := by
  have hl := lt_bitLen gr h0 h1
  have e7 : (2 : Int) ^ (7 * (i + 1)) = 2 ^ (7 * i) * 128 := by rw [Nat.mul_add, Int.pow_add]; rfl
  have hp : (0 : Int) < 2 ^ (7 * i) := Int.pow_pos (by decide)
  have e64 : (2 : Int) ^ (Lib.bitLen gr.toNat) * 2 ^ (7 * i) ≤ 2 ^ 64 := by
    rw [← Int.pow_add]
    have : (2 : Nat) ^ (Lib.bitLen gr.toNat + 7 * i) ≤ 2 ^ 64 := Nat.pow_le_pow_right (by decide) (by omega)
    exact_mod_cast this
  have hb : gr * 2 ^ (7 * i) + 2 ^ (7 * i) ≤ 2 ^ (Lib.bitLen gr.toNat) * 2 ^ (7 * i) := by
    have : (gr + 1) * 2 ^ (7 * i) ≤ 2 ^ (Lib.bitLen gr.toNat) * 2 ^ (7 * i) := Int.mul_le_mul_of_nonneg_right (by omega) (by omega)
    rw [Int.add_mul, Int.one_mul] at this
    exact this
  have hb2 : gr * 2 ^ (7 * i) + 2 ^ (7 * i) ≤ 128 * 2 ^ (7 * i) := by
    have : (gr + 1) * 2 ^ (7 * i) ≤ 128 * 2 ^ (7 * i) := Int.mul_le_mul_of_nonneg_right (by omega) (by omega)
    rw [Int.add_mul, Int.one_mul] at this
    exact this
  have hs0 : 0 ≤ gr * 2 ^ (7 * i) := Int.mul_nonneg h0 (by omega)
  have h64 : (2 : Int) ^ 64 = 18446744073709551616 := by decide
  refine ⟨?_, ?_, by omega, by rw [e7]; omega, by omega⟩
  · rw [IntKind.wrap_u64]; omega
  · have hc : bits .or .u64 x (gr * 2 ^ (7 * i)) = bits .or .u64 (gr * 2 ^ (7 * i)) x := by
      simp only [bits, BitVec.or_comm]
    rw [hc, Int.add_comm x]
    exact bits_join .u64 64 (by decide) (fun n g0 g1 => by rw [IntKind.wrap_u64]; omega) (7 * i) _ x hs0 (by simp) (by omega) hx0 hx1 (by omega)
theorem rd_mem {l : List Int} {i : Nat} (h : i < l.length) : rd l (i : Int) ∈ l := by
  show l.getD ((i : Int)).toNat 0 ∈ l
  rw [Int.toNat_natCast, List.getD, List.getElem?_eq_getElem h]
  exact List.getElem_mem h
set_option maxHeartbeats 8000000 in
set_option maxRecDepth 100000 in
theorem codec_nat (W0 W : World) (hB : Below W0.heap.size W0 W) (F : Nat → Prop) (g : Nat) (s : RS) (most : Int) (hby : ∀ b ∈ s.1, 0 ≤ b ∧ b < 256) (h : RdP W0 94 g s W F) (hm : 0 ≤ most ∧ most < 18446744073709551616) (hl : s.1.length < 1000000) :
    Calls Try.prog 57 #[.pointer (some ⟨g, 0, none⟩), .int .u64 most] W fun e w' => e = .returned (.int .u64 (cNat most s).1) ∧ St W F w' [RdP W0 94 g (cNat most s).2] := by
  have hu := Try.underlying94
  have HF := Aside0.mk (codec_fail W0 W F g s h)
  have S0 := St.start1 RdP.loc h
  obtain ⟨A, c, k1, k2, k3, S1⟩ := S0.rdOpen
  obtain ⟨l, b⟩ := s
  dsimp only at *
  obtain ⟨n, hn⟩ : ∃ n, l.length = n := ⟨_, rfl⟩
  have HA := Aside0.mk (fun (i : Nat) (hi : i < l.length) => Kd.at_int k2 (i : Int) (by omega) (by omega))
  have H := Aside0.mk (And.intro k1 (And.intro k2 k3))
  have HBB := Aside0.mk hB
  have HBY := Aside0.mk hby
  have HN := Aside0.mk hn
  rw [hn] at S1 hl
  have z0 : W.cell? ⟨g, 0, none⟩ = some (.slice A n c) := (blk_cell (S1.blk 0 rfl) 0).trans rfl; have fz0 : W.frozen? ⟨g, 0, none⟩ = false := blk_frozen (S1.blk 0 rfl) 0; have z1 : W.cell? ⟨g, 1, none⟩ = some (.bool b) := (blk_cell (S1.blk 0 rfl) 1).trans rfl; have fz1 : W.frozen? ⟨g, 1, none⟩ = false := blk_frozen (S1.blk 0 rfl) 1
  clear h S0 k1 k2 k3 hB hby hn
  go_enter Try.func57, Try.ntmps57
  go_wp2
  go_loopg [4, 5, 6, 7, 15] n (fun g1 v4 v5 v6 v7 v15 wr => ∃ (i : Nat) (iz x : Int), v15 = .int .i64 iz ∧ v4 = .int .u64 x ∧ Aside0 (iz = i) ∧ 0 ≤ iz ∧ iz ≤ n ∧ Aside0 (0 ≤ x ∧ x < 2 ^ (7 * i)) ∧ i ≤ n ∧ n ≤ i + g1 ∧ wr = W ∧ Aside0 (cGo most (l.drop i) i x = cGo most l 0 0))
  case atStart => exact ⟨0, 0, 0, rfl, rfl, ⟨rfl⟩, by omega, by omega, ⟨by omega, by decide⟩, by omega, by omega, rfl, ⟨rfl⟩⟩
  case round =>
    obtain ⟨i, iz, x, rfl, rfl, HIZ, hz0, hzn, HXX, hin, hg, rfl, HO⟩ := hrel
    have hiz := HIZ.out
    obtain ⟨hx0, hx1⟩ := HXX.out
    by_cases hlt : i < n
    · have hltz : iz < (n : Int) := by omega
      obtain ⟨ad, rfl, hc⟩ := HA.out i (by rw [HN.out]; exact hlt)
      obtain ⟨y, hy⟩ : ∃ y, rd l i = y := ⟨_, rfl⟩
      rw [hy] at hc
      rw [← hiz] at hc
      replace hc := (HBB.out.cell (World.block_lt_of_cell? W0 _ hc)).trans hc
      have hyr : 0 ≤ y ∧ y < 256 := by rw [← hy]; exact HBY.out _ (rd_mem (by rw [HN.out]; exact hlt))
      obtain ⟨gr, hgr⟩ : ∃ gr, y % 128 = gr := ⟨_, rfl⟩
      have han : bits .andNot .u8 y 128 = gr := by rw [← hgr]; exact u8_not y hyr.1 hyr.2
      have hw : IntKind.u64.wrap gr = gr := by rw [IntKind.wrap_u64]; omega
      have hbl := fun w => bits_len gr w (by omega) (by omega)
      obtain ⟨bl, hbl2⟩ : ∃ bl, Lib.bitLen gr.toNat = bl := ⟨_, rfl⟩
      rw [hbl2] at hbl
      have HD := Aside0.mk (drop_rd (l := l) (i := i) (by rw [HN.out]; exact hlt))
      by_cases h64 : 64 < 7 * i + bl
      · have h64z : decide (64 < iz * 7 + (bl : Int)) = true := decide_eq_true (by omega)
        have HR : Aside0 (cGo most l 0 0 = none) := ⟨by rw [← HO.out, HD.out, hy, cGo, hgr, if_pos (by rw [hbl2]; exact h64)]⟩
        have hblr : bl ≤ 7 := by rw [← hbl2]; exact len_7 gr (by omega) (by omega)
        clear hgr hbl2 HO hiz h64 hlt hin hx0 hx1
        go_wp2_with (first
          | (go_at_call 88; (with_reducible refine (hbl _).mono ?_); rintro e w1 ⟨rfl, rfl⟩)
          | (go_at_call 59; refine HF.out.mono ?_; rintro e w2 ⟨rfl, hs⟩; have HS := Aside0.mk hs; clear hs))
        go_ret
        rw [cNat_none HR.out]
        exact ⟨rfl, HS.out⟩
      · have h64z : decide (64 < iz * 7 + (bl : Int)) = false := decide_eq_false (by omega)
        have hblr : bl ≤ 7 := by rw [← hbl2]; exact len_7 gr (by omega) (by omega)
        obtain ⟨f1, f2, f3, f4, f5⟩ := sh_facts gr i x (by omega) (by omega) (by rw [hbl2]; exact h64) hx0 hx1
        have hi7 : 7 * i ≤ 64 := by omega
        have hstep : cGo most (l.drop i) i x = if 128 ≤ y then cGo most (l.drop (i + 1)) (i + 1) (x + gr * 2 ^ (7 * i)) else if (y = 0 ∧ 0 < i) ∨ most < x + gr * 2 ^ (7 * i) then none else some (x + gr * 2 ^ (7 * i), l.drop (i + 1)) := by
          rw [HD.out, hy, cGo, hgr, if_neg (by rw [hbl2]; exact h64)]
        rw [HO.out] at hstep
        obtain ⟨x', hx'⟩ : ∃ x', x + gr * 2 ^ (7 * i) = x' := ⟨_, rfl⟩
        obtain ⟨sh, hsh⟩ : ∃ sh, gr * 2 ^ (7 * i) = sh := ⟨_, rfl⟩
        rw [hx'] at hstep f2 f3 f4 f5
        rw [hsh] at f1 f2
        have f1' : IntKind.u64.wrap (gr * 2 ^ (7 * iz).toNat) = sh := by rw [show (7 * iz).toNat = 7 * i by omega, hsh]; exact f1
        have wi : IntKind.i64.wrap (iz + 1) = iz + 1 := by rw [IntKind.wrap_i64]; omega
        have HST := Aside0.mk hstep
        have HX := Aside0.mk (And.intro f3 f4)
        have hi7z : 7 * iz ≤ 64 := by omega
        have hziz : iz ≤ 1000000 := by omega
        clear hgr hbl2 HO hstep hx' hsh f1 f3 f4 h64 hy hx0 hx1 hi7
        by_cases htop : 128 ≤ y
        · have ht := u8_top y hyr.1 hyr.2
          rw [if_neg (by omega)] at ht
          clear hiz hlt hin
          go_wp2_with (go_at_call 88; (with_reducible refine (hbl _).mono ?_); rintro e w1 ⟨rfl, rfl⟩)
          go_roundg (n - (i + 1))
          case measure => have := HIZ.out; omega
          case rel => exact ⟨i + 1, iz + 1, x', rfl, rfl, ⟨by rw [HIZ.out]; rfl⟩, by omega, by omega, HX, by have := HIZ.out; omega, by have := HIZ.out; omega, rfl, ⟨by have := HST.out; rw [if_pos htop] at this; exact this.symm⟩⟩
        · have ht := u8_top y hyr.1 hyr.2
          rw [if_pos (by omega)] at ht
          have HT := Aside0.mk htop
          clear htop
          have HAL : Aside0 (n - (i + 1) = (l.drop (i + 1)).length ∧ i + 1 ≤ l.length) := ⟨by rw [List.length_drop, HN.out], by rw [HN.out]; omega⟩
          have hcut : ∀ W : World, (Instr.slice 46 (.slice (some ad) n c) (some (.int .i64 (iz + 1))) none none).run Try.prog W = .ok (.slice (if c = i + 1 then some ad else (some ad).map (·.add ((i + 1) * 1))) (n - (i + 1)) (c - (i + 1))) W := fun W => by
            rw [cut_l' 46 5 .i64 1 Try.underlying46 (by kernel_rfl) (some ad) n c (iz + 1) (by omega) (by omega) W, show (iz + 1).toNat = i + 1 by omega]
          have HCD : Aside0 (Kd.C (Kd.int .u8) W0 (if c = i + 1 then some ad else (some ad).map (·.add ((i + 1) * 1))) (l.drop (i + 1)).length (l.drop (i + 1))) := ⟨Kd.C_drop H.out.2.1 HAL.out.2 H.out.1⟩
          obtain ⟨A', hA'⟩ : ∃ A', (if c = i + 1 then some ad else (some ad).map (·.add ((i + 1) * 1))) = A' := ⟨_, rfl⟩
          rw [hA'] at hcut HCD
          clear hA'
          have bad : (y = 0 ∧ 0 < i) ∨ most < x' → Aside0 (cGo most l 0 0 = none) := fun hb => ⟨by have := HST.out; rw [if_neg HT.out, if_pos hb] at this; exact this⟩
          have good : ¬ ((y = 0 ∧ 0 < i) ∨ most < x') → Aside0 (cGo most l 0 0 = some (x', l.drop (i + 1))) := fun hb => ⟨by have := HST.out; rw [if_neg HT.out, if_neg hb] at this; exact this⟩
          by_cases hb : (y = 0 ∧ 0 < i) ∨ most < x'
          · have HR := bad hb
            clear bad good
            by_cases c0 : y = 0 <;> by_cases ci : 0 < i <;> by_cases cm : most < x'
            all_goals first | (exfalso; omega) | skip
            all_goals
              (first | have c0b : (y == 0) = true := by (rw [c0]; rfl) | have c0b : (y == 0) = false := by (rw [beq_eq_false_iff_ne]; exact c0))
              (first | have cib : decide (0 < iz) = true := decide_eq_true (by omega) | have cib : decide (0 < iz) = false := decide_eq_false (by omega))
              (first | have cmb : decide (most < x') = true := decide_eq_true cm | have cmb : decide (most < x') = false := decide_eq_false cm)
              clear c0 ci cm hb hiz hlt hin
              go_wp2_with (first
                   | (go_at_call 88; (with_reducible refine (hbl _).mono ?_); rintro e w1 ⟨rfl, rfl⟩)
                   | (go_at_call 59; refine HF.out.mono ?_; rintro e w2 ⟨rfl, hs⟩; have HS := Aside0.mk hs; clear hs))
              go_ret
              rw [cNat_none HR.out]
              exact ⟨rfl, HS.out⟩
          · have HR := good hb
            clear bad good
            by_cases c0 : y = 0 <;> by_cases ci : 0 < i <;> by_cases cm : most < x'
            all_goals first | (exfalso; omega) | skip
            all_goals
              (first | have c0b : (y == 0) = true := by (rw [c0]; rfl) | have c0b : (y == 0) = false := by (rw [beq_eq_false_iff_ne]; exact c0))
              (first | have cib : decide (0 < iz) = true := decide_eq_true (by omega) | have cib : decide (0 < iz) = false := decide_eq_false (by omega))
              (first | have cmb : decide (most < x') = true := decide_eq_true cm | have cmb : decide (most < x') = false := decide_eq_false cm)
              clear c0 ci cm hb hiz hlt hin
              go_wp2_with (go_at_call 88; (with_reducible refine (hbl _).mono ?_); rintro e w1 ⟨rfl, rfl⟩)
              go_ret
              rw [cNat_some HR.out]
              exact ⟨rfl, St.rdShut (l.drop (i + 1), b) HAL.out.1 rfl (by have := HAL.out; have := H.out.1; have := HN.out; simp only [List.length_drop]; omega) HCD.out H.out.2.2 (S1.put 0 _ rfl)⟩
    · have hltz : decide (iz < (n : Int)) = false := decide_eq_false (by omega)
      have HR : Aside0 (cGo most l 0 0 = none) := ⟨by rw [← HO.out, List.drop_eq_nil_of_le (by have := HN.out; omega)]; rfl⟩
      clear HO hiz hlt hin hx0 hx1
      go_wp2_with (go_at_call 59; refine HF.out.mono ?_; rintro e w2 ⟨rfl, hs⟩; have HS := Aside0.mk hs; clear hs)
      go_ret
      rw [cNat_none HR.out]
      exact ⟨rfl, HS.out⟩
def cIv (n : Int) : Int := if n % 2 = 0 then n / 2 else -(n / 2) - 1
def cInt (s : RS) : Int × RS := (cIv (cNat 18446744073709551615 s).1, (cNat 18446744073709551615 s).2)
theorem len_1 (y : Int) (h0 : 0 ≤ y) (h1 : y < 128) : 1 < y ↔ 2 ≤ Lib.bitLen y.toNat := by
  have h : ∀ n : Fin 128, 1 < (n : Nat) ↔ 2 ≤ Lib.bitLen (n : Nat) := by decide +kernel
  have := h ⟨y.toNat, by omega⟩
  have e : (1 : Int) < y ↔ 1 < y.toNat := by omega
  rw [e]; exact this
theorem cGo_spec (most : Int) : ∀ (l : List Int) (i : Nat) (x : Int) (v : Int) (r : List Int), 0 ≤ x → cGo most l i x = some (v, r) → 0 ≤ v ∧ v ≤ most ∧ ∃ p, l = p ++ r
  | [], i, x, v, r, _, h => by cases h
  | c :: l, i, x, v, r, hx, h => by
    rw [cGo] at h
    have hp : (0 : Int) ≤ 2 ^ (7 * i) := Int.le_of_lt (Int.pow_pos (by decide))
    have hq : 0 ≤ c % 128 * 2 ^ (7 * i) := Int.mul_nonneg (by omega) hp
    split at h
    · cases h
    · split at h
      · obtain ⟨a, b, p, e⟩ := cGo_spec most l _ _ v r (by omega) h
        exact ⟨a, b, c :: p, by rw [e]; rfl⟩
      · split at h
        · cases h
        · rename_i hn
          injection h with h
          injection h with h1 h2
          subst h1 h2
          exact ⟨by omega, by omega, [c], rfl⟩
theorem cNat_spec (most : Int) (s : RS) (hm : 0 ≤ most) : 0 ≤ (cNat most s).1 ∧ (cNat most s).1 ≤ most ∧ (∃ p, s.1 = p ++ (cNat most s).2.1) := by
  obtain ⟨l, b⟩ := s
  cases h : cGo most l 0 0 with
  | none => rw [cNat_none h]; exact ⟨Int.le_refl _, hm, l, by simp⟩
  | some z =>
    obtain ⟨v, r⟩ := z
    rw [cNat_some h]
    exact cGo_spec most l 0 0 v r (Int.le_refl _) h
theorem xor_iv (n : Int) (h0 : 0 ≤ n) (h1 : n < 18446744073709551616) : bits BinOp.xor IntKind.i64 (wrap64 (n / 2)) (wrap64 (-wrap64 (bits BinOp.and IntKind.u64 n 1))) = cIv n := by
  have e1 : bits .and .u64 n 1 = n % 2 := bits_mask .u64 64 (by decide) (fun n g0 g1 => by rw [IntKind.wrap_u64]; omega) 1 (by decide) n h0 h1
  have e2 : wrap64 (n / 2) = n / 2 := by unfold wrap64; omega
  rw [e1, e2]
  unfold cIv
  obtain ⟨a, ha⟩ : ∃ a : Nat, n / 2 = a := ⟨(n / 2).toNat, by omega⟩
  have hlt : a < 2 ^ 63 := by omega
  have hof : (BitVec.ofInt 64 (a : Int)).toNat = a := by rw [BitVec.ofInt_natCast, BitVec.toNat_ofNat]; exact Nat.mod_eq_of_lt (by omega)
  by_cases h : n % 2 = 0
  · rw [if_pos h, h, ha, show wrap64 (-wrap64 0) = 0 by unfold wrap64; omega]
    show IntKind.i64.wrap (((BitVec.ofInt 64 (a : Int)) ^^^ (BitVec.ofInt 64 0)).toNat : Int) = a
    rw [show BitVec.ofInt 64 0 = 0#64 by decide, BitVec.xor_zero, hof, IntKind.wrap_i64]; omega
  · rw [if_neg h, show n % 2 = 1 by omega, ha, show wrap64 (-wrap64 1) = -1 by unfold wrap64; omega]
    show IntKind.i64.wrap (((BitVec.ofInt 64 (a : Int)) ^^^ (BitVec.ofInt 64 (-1))).toNat : Int) = -a - 1
    rw [show BitVec.ofInt 64 (-1) = BitVec.allOnes 64 by decide, BitVec.xor_allOnes, BitVec.toNat_not, hof, IntKind.wrap_i64]; omega
set_option maxHeartbeats 8000000 in
set_option maxRecDepth 100000 in
theorem codec_int (W0 W : World) (hB : Below W0.heap.size W0 W) (F : Nat → Prop) (g : Nat) (s : RS) (hby : ∀ b ∈ s.1, 0 ≤ b ∧ b < 256) (h : RdP W0 94 g s W F) (hl : s.1.length < 1000000) :
    Calls Try.prog 58 #[.pointer (some ⟨g, 0, none⟩)] W fun e w' => e = .returned (.int .i64 (cInt s).1) ∧ St W F w' [RdP W0 94 g (cInt s).2] := by
  have HC := Aside0.mk (codec_nat W0 W hB F g s 18446744073709551615 hby h (by decide) hl)
  obtain ⟨n, hn⟩ : ∃ n, (cNat 18446744073709551615 s).1 = n := ⟨_, rfl⟩
  have HN := Aside0.mk hn
  rw [hn] at HC
  clear h hB hby hn hl
  go_enter Try.func58, Try.ntmps58
  go_wp2_with (go_at_call 57; refine HC.out.mono ?_; rintro e w1 ⟨rfl, hs⟩; have HS := Aside0.mk hs; clear hs)
  go_ret
  exact ⟨by show Ending.returned (.int .i64 _) = _; rw [xor_iv n (by rw [← HN.out]; exact (cNat_spec _ s (by decide)).1) (by rw [← HN.out]; have := (cNat_spec 18446744073709551615 s (by decide)).2.1; omega), ← HN.out]; rfl, HS.out⟩
theorem cNat_pair {most : Int} {s : RS} : cNat most s = ((cNat most s).1, (cNat most s).2) := rfl
def Byt (s : RS) : Prop := (∀ b ∈ s.1, 0 ≤ b ∧ b < 256) ∧ s.1.length < 1000000
theorem Byt.nat {s : RS} (h : Byt s) {most : Int} (hm : 0 ≤ most) : Byt (cNat most s).2 := by
  obtain ⟨p, e⟩ := (cNat_spec most s hm).2.2
  exact ⟨fun b hb => h.1 b (by rw [e]; exact List.mem_append_right _ hb), by have := h.2; rw [e, List.length_append] at this; omega⟩
theorem Byt.int {s : RS} (h : Byt s) : Byt (cInt s).2 := Byt.nat h (by decide)
/-- Below a world that all blocks of F have come behind. -/
theorem St.old {W0 W w : World} {F : Nat → Prop} {l : List Part} (hB : Below W0.heap.size W0 W) (hF : ∀ k, F k → W0.heap.size ≤ k) (h : St W F w l) : Below W0.heap.size W0 w :=
  ⟨h.fr.os.trans hB.os, h.fr.tape.trans hB.tape, h.fr.output.trans hB.output, Nat.le_trans hB.size h.fr.size, fun k hk => (h.fr.block k (Nat.lt_of_lt_of_le hk hB.size) (fun hf => by have := hF k hf; omega)).trans (hB.block k hk)⟩
/-! ### Orders read -/
abbrev M64 : Int := 18446744073709551615
def rOne (s : RS) : SO × RS :=
  (⟨(cNat M64 s).1, (cInt (cNat M64 s).2).1, (cInt (cInt (cNat M64 s).2).2).1, (cInt (cInt (cInt (cNat M64 s).2).2).2).1, (cInt (cInt (cInt (cInt (cNat M64 s).2).2).2).2).1, (cNat M64 (cInt (cInt (cInt (cInt (cNat M64 s).2).2).2).2).2).1⟩,
   (cNat M64 (cInt (cInt (cInt (cInt (cNat M64 s).2).2).2).2).2).2)
theorem Byt.one {s : RS} (h : Byt s) : Byt (rOne s).2 := Byt.nat (Byt.int (Byt.int (Byt.int (Byt.int (Byt.nat h (by decide)))))) (by decide)
def rMany : Nat → RS → List SO → List SO × RS
  | 0, s, acc => (acc, s)
  | n + 1, s, acc => rMany n (rOne s).2 (acc ++ [(rOne s).1])
def rAll (s : RS) : List SO × RS := rMany (cNat 64 s).1.toNat (cNat 64 s).2 []
theorem cInt_eq {s s' : RS} {a : Int} (h : cInt s = (a, s')) : (cInt s).1 = a ∧ (cInt s).2 = s' := by rw [h]; exact ⟨rfl, rfl⟩
set_option maxHeartbeats 8000000 in
set_option maxRecDepth 100000 in
theorem order_nat (W0 W : World) (hB : Below W0.heap.size W0 W) (F : Nat → Prop) (g gB : Nat) (s : RS) (hby : Byt s) (h : RdP W0 94 g s W F) (hz : W.cell? ⟨gB, 0, none⟩ = some (.pointer (some ⟨g, 0, none⟩))) :
    Calls Try.prog 56 #[.pointer (some ⟨gB, 0, none⟩)] W fun e w' => e = .returned (.int .u64 (cNat M64 s).1) ∧ St W F w' [RdP W0 94 g (cNat M64 s).2] := by
  have HC := Aside0.mk (codec_nat W0 W hB F g s 18446744073709551615 hby.1 h (by decide) hby.2)
  clear h hB hby
  go_enter Try.func56, Try.ntmps56
  go_wp2_with (go_at_call 57; refine HC.out.mono ?_; rintro e w1 ⟨rfl, hs⟩; have HS := Aside0.mk hs; clear hs)
  go_ret
  exact ⟨rfl, HS.out⟩
theorem infoO : (Try.prog.info? 33).map (fun i => (i.zero, i.size, i.bytes)) = some (some (.agg #[.int .u64 0, .int .i64 0, .int .i64 0, .int .i64 0, .int .i64 0, .int .u64 0]), 6, 48) := by kernel_rfl
def readOk (s : RS) (r : Bool) : Bool := !(rAll s).2.2 && r
def readS (s : RS) (r : Bool) : RS := if readOk s r = true then (rAll s).2 else ([], true)
def readL (s : RS) (r : Bool) : List SO := if readOk s r = true then (rAll s).1 else []
set_option maxHeartbeats 8000000 in
set_option maxRecDepth 100000 in
theorem order_read (W0 W : World) (hB : Below W0.heap.size W0 W) (F : Nat → Prop) (hF : ∀ k, F k → W0.heap.size ≤ k) (g : Nat) (s : RS) (hby : Byt s) (h : RdP W0 94 g s W F) (r : Bool) (hr : order_Book.f (rAll s).1 = some r) :
    Calls Try.prog 28 #[.pointer (some ⟨g, 0, none⟩)] W fun e w' => ∃ v, e = .returned (.tuple #[v, .bool (readOk s r)]) ∧ St W F w' [RdP W0 94 g (readS s r), Nw KO 33 v (readL s r)] := by
  have hu := Try.underlying33
  have S0 := St.start1 RdP.loc h
  have HB := Aside0.mk hB
  have HF := Aside0.mk hF
  have HBY := Aside0.mk hby
  have HR := Aside0.mk hr
  have hns := cNat_spec 64 s (by decide)
  obtain ⟨nz, hnz⟩ : ∃ nz, (cNat 64 s).1 = nz := ⟨_, rfl⟩
  obtain ⟨sA, hsA⟩ : ∃ x, (cNat 64 s).2 = x := ⟨_, rfl⟩
  have KA := Aside0.mk (fun (w : World) (F1 : Nat → Prop) (hb : Below W0.heap.size W0 w) (hA : RdP W0 94 g s w F1) => codec_nat W0 w hb F1 g s 64 hby.1 hA (by decide) hby.2)
  have HBA : Aside0 (Byt sA) := ⟨by rw [← hsA]; exact Byt.nat hby (by decide)⟩
  obtain ⟨N, hN⟩ : ∃ N : Nat, nz.toNat = N := ⟨_, rfl⟩
  have hnN : nz = (N : Int) := by rw [hnz] at hns; omega
  have hN64 : N ≤ 64 := by rw [hnz] at hns; omega
  have HALL : Aside0 (rMany N sA [] = rAll s) := ⟨by rw [rAll, hnz, hsA, hN]⟩
  rw [hnz, hsA] at KA
  subst hnN
  clear h hB hF hby hr hns hnz hsA hN
  go_enter Try.func28, Try.ntmps28
  go_wp2_with (first
    | ((with_reducible refine gate_dst (N := 1) rfl ?_); refine box_event ?hg (N := 1) ?hd (cs := #[.pointer (some ⟨g, 0, none⟩)]) (t := 47) ?hr ?_; (case hd => rfl); (case hg => rfl); (case hr => first | (go_simp; done) | (go_simp; rfl)); intro gB hg_ w1 hbB hb; have S1 := S0.box hg_ hb hbB; clear S0 hg_ hbB hb; have zB : w1.cell? ⟨gB, 0, none⟩ = some (.pointer (some ⟨g, 0, none⟩)) := (blk_cell (S1.blk 0 rfl) 0).trans rfl)
    | (go_at_call 57; obtain ⟨F1, hA1, _, up1⟩ := (S1.front 1 rfl).join; refine (KA.out w1 F1 (St.old HB.out HF.out S1) hA1).mono ?_; rintro e w2 ⟨rfl, hs⟩; have S2 : St W F w2 [RdP W0 94 g sA, Pt gB #[.pointer (some ⟨g, 0, none⟩)] 47] := up1 w2 _ hs; clear S1 hA1 up1 hs zB))
  have S3 := Aside0.mk (S2.new (A := Nw KO 33 (.slice none 0 0) []) (Below.refl _ _) Nw.loc (Kd.N_nil _ _ _ _ _))
  clear S2
  go_loopg [2, 8] N (fun g1 v2 v8 wr => ∃ (j : Nat) (jz : Int) (acc : List SO) (s' : RS), v8 = .int .u64 jz ∧ Aside0 (jz = j) ∧ 0 ≤ jz ∧ jz ≤ N ∧ N ≤ j + g1 ∧ j ≤ N ∧ Aside0 (acc.length = j) ∧ Aside0 (Byt s') ∧ Aside0 (rMany (N - j) s' acc = rAll s) ∧ Aside0 (St W F wr [Nw KO 33 v2 acc, RdP W0 94 g s', Pt gB #[.pointer (some ⟨g, 0, none⟩)] 47]))
  case atStart => exact ⟨0, 0, [], sA, rfl, ⟨rfl⟩, by omega, by omega, by omega, by omega, ⟨rfl⟩, HBA, HALL, S3⟩
  case round =>
    clear S3 HALL HBA
    obtain ⟨j, jz, acc, s', rfl, HJ, hj0, hjN, hg, hjN', HAC, HBY', HO, HS⟩ := hrel
    by_cases hlt : j < N
    · have hltz : jz < (N : Int) := by rw [HJ.out]; omega
      have hby := HBY'.out
      have hone : rOne s' = rOne s' := rfl
      have hmany : rMany (N - j) s' acc = rMany (N - (j + 1)) (rOne s').2 (acc ++ [(rOne s').1]) := by rw [show N - j = (N - (j + 1)) + 1 by omega]; rfl
      rw [HO.out] at hmany
      obtain ⟨x, hx⟩ : ∃ x, (rOne s').1 = x := ⟨_, rfl⟩
      obtain ⟨sZ, hsZ⟩ : ∃ x, (rOne s').2 = x := ⟨_, rfl⟩
      have HBZ : Aside0 (Byt sZ) := ⟨by rw [← hsZ]; exact Byt.one hby⟩
      rw [hx, hsZ] at hmany
      simp only [rOne] at hx hsZ
      obtain ⟨a1, ha1⟩ : ∃ x, (cNat M64 s').1 = x := ⟨_, rfl⟩
      obtain ⟨s1, hs1⟩ : ∃ x, (cNat M64 s').2 = x := ⟨_, rfl⟩
      have hby1 : Byt s1 := by rw [← hs1]; exact Byt.nat hby (by decide)
      have K1 := Aside0.mk (fun (w : World) (F1 : Nat → Prop) (hb : Below W0.heap.size W0 w) (hA : RdP W0 94 g s' w F1) (hz : w.cell? ⟨gB, 0, none⟩ = some (.pointer (some ⟨g, 0, none⟩))) => order_nat W0 w hb F1 g gB s' hby hA hz)
      rw [ha1, hs1] at K1
      rw [hs1] at hsZ hx
      simp only [ha1] at hx
      obtain ⟨a2, ha2⟩ : ∃ x, (cInt s1).1 = x := ⟨_, rfl⟩
      obtain ⟨s2, hs2⟩ : ∃ x, (cInt s1).2 = x := ⟨_, rfl⟩
      have hby2 : Byt s2 := by rw [← hs2]; exact Byt.int hby1
      have K2 := Aside0.mk (fun (w : World) (F1 : Nat → Prop) (hb : Below W0.heap.size W0 w) (hA : RdP W0 94 g s1 w F1) => codec_int W0 w hb F1 g s1 hby1.1 hA hby1.2)
      rw [ha2, hs2] at K2
      rw [hs2] at hsZ hx
      simp only [ha2] at hx
      obtain ⟨a3, ha3⟩ : ∃ x, (cInt s2).1 = x := ⟨_, rfl⟩
      obtain ⟨s3, hs3⟩ : ∃ x, (cInt s2).2 = x := ⟨_, rfl⟩
      have hby3 : Byt s3 := by rw [← hs3]; exact Byt.int hby2
      have K3 := Aside0.mk (fun (w : World) (F1 : Nat → Prop) (hb : Below W0.heap.size W0 w) (hA : RdP W0 94 g s2 w F1) => codec_int W0 w hb F1 g s2 hby2.1 hA hby2.2)
      rw [ha3, hs3] at K3
      rw [hs3] at hsZ hx
      simp only [ha3] at hx
      obtain ⟨a4, ha4⟩ : ∃ x, (cInt s3).1 = x := ⟨_, rfl⟩
      obtain ⟨s4, hs4⟩ : ∃ x, (cInt s3).2 = x := ⟨_, rfl⟩
      have hby4 : Byt s4 := by rw [← hs4]; exact Byt.int hby3
      have K4 := Aside0.mk (fun (w : World) (F1 : Nat → Prop) (hb : Below W0.heap.size W0 w) (hA : RdP W0 94 g s3 w F1) => codec_int W0 w hb F1 g s3 hby3.1 hA hby3.2)
      rw [ha4, hs4] at K4
      rw [hs4] at hsZ hx
      simp only [ha4] at hx
      obtain ⟨a5, ha5⟩ : ∃ x, (cInt s4).1 = x := ⟨_, rfl⟩
      obtain ⟨s5, hs5⟩ : ∃ x, (cInt s4).2 = x := ⟨_, rfl⟩
      have hby5 : Byt s5 := by rw [← hs5]; exact Byt.int hby4
      have K5 := Aside0.mk (fun (w : World) (F1 : Nat → Prop) (hb : Below W0.heap.size W0 w) (hA : RdP W0 94 g s4 w F1) => codec_int W0 w hb F1 g s4 hby4.1 hA hby4.2)
      rw [ha5, hs5] at K5
      rw [hs5] at hsZ hx
      simp only [ha5] at hx
      obtain ⟨a6, ha6⟩ : ∃ x, (cNat M64 s5).1 = x := ⟨_, rfl⟩
      obtain ⟨s6, hs6⟩ : ∃ x, (cNat M64 s5).2 = x := ⟨_, rfl⟩
      have hby6 : Byt s6 := by rw [← hs6]; exact Byt.nat hby5 (by decide)
      have K6 := Aside0.mk (fun (w : World) (F1 : Nat → Prop) (hb : Below W0.heap.size W0 w) (hA : RdP W0 94 g s5 w F1) (hz : w.cell? ⟨gB, 0, none⟩ = some (.pointer (some ⟨g, 0, none⟩))) => order_nat W0 w hb F1 g gB s5 hby5 hA hz)
      rw [ha6, hs6] at K6
      simp only [ha6] at hx
      rw [hs6] at hsZ
      subst hsZ
      subst hx
      have HM := Aside0.mk hmany
      have zB : wr.cell? ⟨gB, 0, none⟩ = some (.pointer (some ⟨g, 0, none⟩)) := (blk_cell (HS.out.blk 2 rfl) 0).trans rfl
      clear hmany hby hone ha1 hs1 hby1 ha2 hs2 hby2 ha3 hs3 hby3 ha4 hs4 hby4 ha5 hs5 hby5 ha6 hs6 hby6
      go_wp2_with fail
      go_region_held3 (fun w' => w'.cell? ⟨gB, 0, none⟩ = some (.pointer (some ⟨g, 0, none⟩))) (first | exact Y7 | exact Y6 | exact Y5 | exact Y4 | exact Y3 | exact Y2 | exact Y1 | go_keep) (first
        | (go_at_call 56; refine Calls.named ?_; intro v1 hv; have T1 : St W F v1 [Nw KO 33 u2 acc, RdP W0 94 g s', Pt gB #[.pointer (some ⟨g, 0, none⟩)] 47] := (HS.out).call (by rw [hv]; with_reducible first | exact Below.refl _ _ | exact below_drew1 (Below.refl _ _) | exact below_drew1 (below_drew1 (Below.refl _ _))); clear hv; obtain ⟨F1, hA, _, up⟩ := (T1.front 1 rfl).join; (with_reducible refine (K1.out v1 F1 (St.old HB.out HF.out T1) hA ((blk_cell (T1.blk 2 rfl) 0).trans rfl)).mono ?_); rintro e y1 ⟨rfl, hs⟩; have S1 : St W F y1 [RdP W0 94 g s1, Nw KO 33 u2 acc, Pt gB #[.pointer (some ⟨g, 0, none⟩)] 47] := up y1 _ hs; have Y1 : y1.cell? ⟨gB, 0, none⟩ = some (.pointer (some ⟨g, 0, none⟩)) := (blk_cell (S1.blk 2 rfl) 0).trans rfl; clear T1 hA up hs)
        | (go_at_call 58; refine Calls.named ?_; intro v2 hv; have T2 : St W F v2 [RdP W0 94 g s1, Nw KO 33 u2 acc, Pt gB #[.pointer (some ⟨g, 0, none⟩)] 47] := (S1).call (by rw [hv]; with_reducible first | exact Below.refl _ _ | exact below_drew1 (Below.refl _ _) | exact below_drew1 (below_drew1 (Below.refl _ _))); clear hv; obtain ⟨F2, hA, _, up⟩ := T2.join; (with_reducible refine (K2.out v2 F2 (St.old HB.out HF.out T2) hA).mono ?_); rintro e y2 ⟨rfl, hs⟩; have S2 : St W F y2 [RdP W0 94 g s2, Nw KO 33 u2 acc, Pt gB #[.pointer (some ⟨g, 0, none⟩)] 47] := up y2 _ hs; have Y2 : y2.cell? ⟨gB, 0, none⟩ = some (.pointer (some ⟨g, 0, none⟩)) := (blk_cell (S2.blk 2 rfl) 0).trans rfl; clear T2 hA up hs)
        | (go_at_call 58; refine Calls.named ?_; intro v3 hv; have T3 : St W F v3 [RdP W0 94 g s2, Nw KO 33 u2 acc, Pt gB #[.pointer (some ⟨g, 0, none⟩)] 47] := (S2).call (by rw [hv]; with_reducible first | exact Below.refl _ _ | exact below_drew1 (Below.refl _ _) | exact below_drew1 (below_drew1 (Below.refl _ _))); clear hv; obtain ⟨F3, hA, _, up⟩ := T3.join; (with_reducible refine (K3.out v3 F3 (St.old HB.out HF.out T3) hA).mono ?_); rintro e y3 ⟨rfl, hs⟩; have S3 : St W F y3 [RdP W0 94 g s3, Nw KO 33 u2 acc, Pt gB #[.pointer (some ⟨g, 0, none⟩)] 47] := up y3 _ hs; have Y3 : y3.cell? ⟨gB, 0, none⟩ = some (.pointer (some ⟨g, 0, none⟩)) := (blk_cell (S3.blk 2 rfl) 0).trans rfl; clear T3 hA up hs)
        | (go_at_call 58; refine Calls.named ?_; intro v4 hv; have T4 : St W F v4 [RdP W0 94 g s3, Nw KO 33 u2 acc, Pt gB #[.pointer (some ⟨g, 0, none⟩)] 47] := (S3).call (by rw [hv]; with_reducible first | exact Below.refl _ _ | exact below_drew1 (Below.refl _ _) | exact below_drew1 (below_drew1 (Below.refl _ _))); clear hv; obtain ⟨F4, hA, _, up⟩ := T4.join; (with_reducible refine (K4.out v4 F4 (St.old HB.out HF.out T4) hA).mono ?_); rintro e y4 ⟨rfl, hs⟩; have S4 : St W F y4 [RdP W0 94 g s4, Nw KO 33 u2 acc, Pt gB #[.pointer (some ⟨g, 0, none⟩)] 47] := up y4 _ hs; have Y4 : y4.cell? ⟨gB, 0, none⟩ = some (.pointer (some ⟨g, 0, none⟩)) := (blk_cell (S4.blk 2 rfl) 0).trans rfl; clear T4 hA up hs)
        | (go_at_call 58; refine Calls.named ?_; intro v5 hv; have T5 : St W F v5 [RdP W0 94 g s4, Nw KO 33 u2 acc, Pt gB #[.pointer (some ⟨g, 0, none⟩)] 47] := (S4).call (by rw [hv]; with_reducible first | exact Below.refl _ _ | exact below_drew1 (Below.refl _ _) | exact below_drew1 (below_drew1 (Below.refl _ _))); clear hv; obtain ⟨F5, hA, _, up⟩ := T5.join; (with_reducible refine (K5.out v5 F5 (St.old HB.out HF.out T5) hA).mono ?_); rintro e y5 ⟨rfl, hs⟩; have S5 : St W F y5 [RdP W0 94 g s5, Nw KO 33 u2 acc, Pt gB #[.pointer (some ⟨g, 0, none⟩)] 47] := up y5 _ hs; have Y5 : y5.cell? ⟨gB, 0, none⟩ = some (.pointer (some ⟨g, 0, none⟩)) := (blk_cell (S5.blk 2 rfl) 0).trans rfl; clear T5 hA up hs)
        | (go_at_call 56; refine Calls.named ?_; intro v6 hv; have T6 : St W F v6 [RdP W0 94 g s5, Nw KO 33 u2 acc, Pt gB #[.pointer (some ⟨g, 0, none⟩)] 47] := (S5).call (by rw [hv]; with_reducible first | exact Below.refl _ _ | exact below_drew1 (Below.refl _ _) | exact below_drew1 (below_drew1 (Below.refl _ _))); clear hv; obtain ⟨F6, hA, _, up⟩ := T6.join; (with_reducible refine (K6.out v6 F6 (St.old HB.out HF.out T6) hA ((blk_cell (T6.blk 2 rfl) 0).trans rfl)).mono ?_); rintro e y6 ⟨rfl, hs⟩; have S6 : St W F y6 [RdP W0 94 g s6, Nw KO 33 u2 acc, Pt gB #[.pointer (some ⟨g, 0, none⟩)] 47] := up y6 _ hs; have Y6 : y6.cell? ⟨gB, 0, none⟩ = some (.pointer (some ⟨g, 0, none⟩)) := (blk_cell (S6.blk 2 rfl) 0).trans rfl; clear T6 hA up hs; have n6 : gB ≠ y6.heap.size := Nat.ne_of_lt (blk_lt (S6.blk 2 rfl)); have n6' := Ne.symm n6)
        | (obtain ⟨ok, okp, p1, p2, p3, p4, p5⟩ := (S6.front 1 rfl).append_one (p := (⟨a1, a2, a3, a4, a5, a6⟩ : SO)) (k33_mkF y6 (fun _ => False) (⟨a1, a2, a3, a4, a5, a6⟩ : SO)) (fun _ h => h); refine Kd.N_append_step KO (W := y6) (w0 := y6) 0 (by rfl) (.tmp 10) (.tmp 24) 22 33 (.agg #[.int .u64 0, .int .i64 0, .int .i64 0, .int .i64 0, .int .i64 0, .int .u64 0]) 48 rfl Try.underlying22 infoO rfl (by decide) (by decide) u2 acc (⟨a1, a2, a3, a4, a5, a6⟩ : SO) [.int .u64 a1, .int .i64 a2, .int .i64 a3, .int .i64 a4, .int .i64 a5, .int .u64 a6] ok okp rfl rfl p2 p3 p4 p1 (Below.refl _ _) (Nat.zero_le _) (by have := HAC.out; omega) ?_; intro v7 y7 hN _ hg _; have S7 : St W F y7 [Nw KO 33 v7 (acc ++ [(⟨a1, a2, a3, a4, a5, a6⟩ : SO)]), RdP W0 94 g s6, Pt gB #[.pointer (some ⟨g, 0, none⟩)] 47] := p5 _ _ hN hg; have Y7 : y7.cell? ⟨gB, 0, none⟩ = some (.pointer (some ⟨g, 0, none⟩)) := (blk_cell (S7.blk 2 rfl) 0).trans rfl; clear p1 p2 p3 p4 p5 hN hg)
        | (obtain ⟨ok, okp, p1, p2, p3, p4, p5⟩ := (S6.drew1.front 1 rfl).append_one (p := (⟨a1, a2, a3, a4, a5, a6⟩ : SO)) (k33_mkF y6.drew (fun _ => False) (⟨a1, a2, a3, a4, a5, a6⟩ : SO)) (fun _ h => h); refine Kd.N_append_step KO (W := y6.drew) (w0 := y6.drew) 0 (by rfl) (.tmp 10) (.tmp 24) 22 33 (.agg #[.int .u64 0, .int .i64 0, .int .i64 0, .int .i64 0, .int .i64 0, .int .u64 0]) 48 rfl Try.underlying22 infoO rfl (by decide) (by decide) u2 acc (⟨a1, a2, a3, a4, a5, a6⟩ : SO) [.int .u64 a1, .int .i64 a2, .int .i64 a3, .int .i64 a4, .int .i64 a5, .int .u64 a6] ok okp rfl rfl p2 p3 p4 p1 (Below.refl _ _) (Nat.zero_le _) (by have := HAC.out; omega) ?_; intro v7 y7 hN _ hg _; have S7 : St W F y7 [Nw KO 33 v7 (acc ++ [(⟨a1, a2, a3, a4, a5, a6⟩ : SO)]), RdP W0 94 g s6, Pt gB #[.pointer (some ⟨g, 0, none⟩)] 47] := p5 _ _ hN hg; have Y7 : y7.cell? ⟨gB, 0, none⟩ = some (.pointer (some ⟨g, 0, none⟩)) := (blk_cell (S7.blk 2 rfl) 0).trans rfl; clear p1 p2 p3 p4 p5 hN hg))
      have wi : IntKind.u64.wrap (jz + 1) = jz + 1 := by rw [IntKind.wrap_u64]; omega
      go_wp2
      go_roundg (N - (j + 1))
      case measure => omega
      case rel => exact ⟨j + 1, jz + 1, acc ++ [⟨a1, a2, a3, a4, a5, a6⟩], s6, rfl, ⟨by rw [HJ.out]; rfl⟩, by omega, by have := HJ.out; omega, by omega, by omega, ⟨by rw [List.length_append, HAC.out]; rfl⟩, HBZ, ⟨HM.out.symm⟩, ⟨S7⟩⟩
    · have hltz : ¬ jz < (N : Int) := by rw [HJ.out]; omega
      have hall := HO.out
      rw [show N - j = 0 by omega] at hall
      have HE : Aside0 (rAll s = (acc, s')) := ⟨hall.symm⟩
      clear hall HO hlt
      rw [HE.out] at HR
      obtain ⟨F0, h0⟩ := HS.out.get 0 rfl
      obtain ⟨A2, c2, rfl⟩ := Kd.N_slice h0
      have HLE : Aside0 (acc.length = acc.length) := ⟨rfl⟩
      clear h0
      have zB : wr.cell? ⟨gB, 0, none⟩ = some (.pointer (some ⟨g, 0, none⟩)) := (blk_cell (HS.out.blk 2 rfl) 0).trans rfl
      obtain ⟨sl, sb⟩ := s'
      cases sb with
      | true =>
        have HOK : Aside0 (readOk s r = false) := ⟨by rw [readOk, HE.out]; rfl⟩
        go_wp2_with (first
          | (go_at_call 31; obtain ⟨F1, hA⟩ := HS.out.get 1 rfl; refine (codec_bad W0 wr g _ F1 hA).mono ?_; rintro e w3 ⟨rfl, hb⟩; have S3 := HS.out.call hb; have zB : w3.cell? ⟨gB, 0, none⟩ = some (.pointer (some ⟨g, 0, none⟩)) := (blk_cell (S3.blk 2 rfl) 0).trans rfl; clear hA hb)
          | (go_at_call 59; obtain ⟨F1, hA, _, up⟩ := (S3.front 1 rfl).join; refine (codec_fail W0 _ F1 g _ hA).mono ?_; rintro e w5 ⟨rfl, hs⟩; have S5 := (up w5 _ hs).take 1; clear hA up hs))
        go_ret2
        exact ⟨_, by rw [HOK.out]; rfl, by rw [readS, readL, HOK.out]; exact (S5.new (A := Nw KO 33 (.slice none 0 0) []) (Below.refl _ _) Nw.loc (Kd.N_nil _ _ _ _ _)).perm2⟩
      | false =>
        cases r with
        | false =>
          have HOK : Aside0 (readOk s false = false) := ⟨by rw [readOk, HE.out]; rfl⟩
          go_wp2_with (first
            | (go_at_call 31; obtain ⟨F1, hA⟩ := HS.out.get 1 rfl; refine (codec_bad W0 wr g _ F1 hA).mono ?_; rintro e w3 ⟨rfl, hb⟩; have S3 := HS.out.call hb; have zB : w3.cell? ⟨gB, 0, none⟩ = some (.pointer (some ⟨g, 0, none⟩)) := (blk_cell (S3.blk 2 rfl) 0).trans rfl; clear hA hb)
            | (go_at_call 15; refine (order_Book.calls A2 c2 acc false w3 (S3.nrd 0 rfl).2.2 (S3.nrd 0 rfl).2.1 HR.out).mono ?_; rintro e w4 ⟨rfl, hb⟩; have S4 := S3.call hb; have zB : w4.cell? ⟨gB, 0, none⟩ = some (.pointer (some ⟨g, 0, none⟩)) := (blk_cell (S4.blk 2 rfl) 0).trans rfl; clear S3 hb)
            | (go_at_call 59; obtain ⟨F1, hA, _, up⟩ := (S4.front 1 rfl).join; refine (codec_fail W0 _ F1 g _ hA).mono ?_; rintro e w5 ⟨rfl, hs⟩; have S5 := (up w5 _ hs).take 1; clear hA up hs))
          go_ret2
          exact ⟨_, by rw [HOK.out]; rfl, by rw [readS, readL, HOK.out]; exact (S5.new (A := Nw KO 33 (.slice none 0 0) []) (Below.refl _ _) Nw.loc (Kd.N_nil _ _ _ _ _)).perm2⟩
        | true =>
          have HOK : Aside0 (readOk s true = true) := ⟨by rw [readOk, HE.out]; rfl⟩
          go_wp2_with (first
            | (go_at_call 31; obtain ⟨F1, hA⟩ := HS.out.get 1 rfl; refine (codec_bad W0 wr g _ F1 hA).mono ?_; rintro e w3 ⟨rfl, hb⟩; have S3 := HS.out.call hb; have zB : w3.cell? ⟨gB, 0, none⟩ = some (.pointer (some ⟨g, 0, none⟩)) := (blk_cell (S3.blk 2 rfl) 0).trans rfl; clear hA hb)
            | (go_at_call 15; refine (order_Book.calls A2 c2 acc true w3 (S3.nrd 0 rfl).2.2 (S3.nrd 0 rfl).2.1 HR.out).mono ?_; rintro e w4 ⟨rfl, hb⟩; have S4 := S3.call hb; have zB : w4.cell? ⟨gB, 0, none⟩ = some (.pointer (some ⟨g, 0, none⟩)) := (blk_cell (S4.blk 2 rfl) 0).trans rfl; clear S3 hb))
          go_ret2
          exact ⟨_, by rw [HOK.out]; rfl, by rw [readS, readL, HOK.out, HE.out]; exact (S4.front 1 rfl).take 2⟩
theorem St.join2 {W w : World} {F0 : Nat → Prop} {A : Part} {l : List Part} (h : St W F0 w (A :: l)) : ∃ F, A w F ∧ (∀ k, F k → F0 k ∨ W.heap.size ≤ k) ∧ ∀ (w' : World) (l' : List Part), St w F w' l' → St W F0 w' (l' ++ l) := by
  obtain ⟨h0, hst⟩ := h
  obtain ⟨F, h1, h2, h3, h4⟩ := hst.bound
  refine ⟨F, h3, fun k hk => (h1 k hk).1, fun w' l' k => ?_⟩
  refine ⟨h0.trans k.fr (fun i hi => (h1 i hi).1), ?_⟩
  have h5 := h4.step k.fr.size (fun i hi hl => k.fr.block i hl hi.2)
  exact (Stars.append k.st h5 (fun i hi hi' => hi.elim hi'.2 (fun hh => by have := hi'.1.2; omega))).mono (fun i hi => hi.elim (fun hh => hh.elim (fun hf => (h1 i hf).1) (fun hs => .inr (Nat.le_trans h0.size hs))) (fun hh => hh.1.1))
set_option maxHeartbeats 8000000 in
set_option maxRecDepth 100000 in
theorem codec_open (W : World) (A : Option Addr) (c : Nat) (l : List Int) (hC : Kd.C (Kd.int .u8) W A l.length l) (hc : l.length ≤ c) :
    Calls Try.prog 27 #[.slice A l.length c] W fun e w' => ∃ g, e = .returned (.pointer (some ⟨g, 0, none⟩)) ∧ St W (fun _ => False) w' [RdP W 94 g (l, false)] := by
  have hu := Try.underlying94
  have S0 := St.start W (fun _ => False)
  have H := Aside0.mk (And.intro hc hC)
  obtain ⟨n, hn⟩ : ∃ n, l.length = n := ⟨_, rfl⟩
  rw [hn]
  have HN := Aside0.mk hn
  clear hC hc hn
  go_enter Try.func27, Try.ntmps27
  go_wp2_with ((with_reducible refine gate_dst (N := 5) rfl ?_); refine box_event ?hg (N := 5) ?hd (cs := #[.slice A n c, .bool false]) (t := 94) ?hr ?_; (case hd => rfl); (case hg => rfl); (case hr => first | (go_simp; done) | (go_simp; rfl)); intro g hg_ w1 hbB hb; have S1 := S0.box hg_ hb hbB; clear S0 hg_ hbB hb)
  go_ret
  exact ⟨g, rfl, St.rdShut (l, false) HN.out.symm rfl H.out.1 H.out.2 (Nat.le_of_not_lt fun hk => S1.old_ne 0 rfl hk rfl) S1⟩
/-! ### The writer: its block, and its row of bytes -/
abbrev KB := Kd.int .u8
def WrP (g : Nat) (bs : List Int) : Part := fun w F => F g ∧ ∃ A c, w.heap[g]? = some (.cells #[.slice A bs.length c] 99 (0, 0)) ∧ Kd.N KB 5 w 0 (fun k => F k ∧ k ≠ g) (.slice A bs.length c) bs
theorem WrP.loc {g : Nat} {bs : List Int} : Loc (WrP g bs) :=
  ⟨fun ⟨fg, A, c, hb, hN⟩ hs hh => ⟨fg, A, c, (hh g fg (blk_lt hb)).trans hb, Kd.N_step hN (fun k hk hl => hh k hk.1 hl)⟩,
   fun ⟨fg, A, c, hb, hN⟩ => ⟨⟨fg, blk_lt hb⟩, A, c, hb, Kd.N_mono (Kd.N_bound hN) (fun k hk => ⟨⟨hk.1.1, hk.2⟩, hk.1.2⟩)⟩,
   fun ⟨fg, A, c, hb, hN⟩ hh => ⟨hh g fg, A, c, hb, Kd.N_mono hN (fun k hk => ⟨hh k hk.1, hk.2⟩)⟩⟩
theorem St.wrOpen {W w : World} {F0 : Nat → Prop} {l : List Part} {g : Nat} {bs : List Int} (h : St W F0 w (WrP g bs :: l)) : ∃ A c, St W F0 w (Pt g #[.slice A bs.length c] 99 :: Nw KB 5 (.slice A bs.length c) bs :: l) := by
  obtain ⟨h0, F, h1, h2, ⟨fg, A, c, hb, hN⟩, h4⟩ := h
  exact ⟨A, c, h0, fun k => k = g, fun k hk => hk ▸ h1 g fg, Pt.loc, ⟨rfl, hb⟩, fun k => F k ∧ k ≠ g, fun k hk => ⟨h1 k hk.1, hk.2⟩, Nw.loc, hN, h4.mono (fun k hk => ⟨⟨hk.1, fun e => hk.2 (e ▸ fg)⟩, fun e => hk.2 e.1⟩)⟩
theorem St.wrShut {W w : World} {F0 : Nat → Prop} {l : List Part} {g : Nat} {bs : List Int} {A : Option Addr} {n c : Nat} (hn : n = bs.length) (h : St W F0 w (Pt g #[.slice A n c] 99 :: Nw KB 5 (.slice A n c) bs :: l)) : St W F0 w (WrP g bs :: l) := by
  subst hn
  obtain ⟨h0, F, h1, _, ⟨fg, hb⟩, F2, k1, _, hN, h4⟩ := h
  refine ⟨h0, fun k => F k ∨ F2 k, fun k hk => hk.elim (h1 k) (fun h => (k1 k h).1), WrP.loc, ⟨.inl fg, A, c, hb, Kd.N_mono hN (fun k hk => ⟨.inr hk, fun e => (k1 k hk).2 (e ▸ fg)⟩)⟩, h4.mono (fun k hk => ⟨hk.1.1, fun e => e.elim hk.1.2 hk.2⟩)⟩
theorem infoB : (Try.prog.info? 5).map (fun i => (i.zero, i.size, i.bytes)) = some (some (.int .u8 0), 1, 1) := by kernel_rfl
def natB : Nat → Int → List Int
  | 0, _ => []
  | k + 1, n => if n < 128 then [n] else (n % 128 + 128) :: natB k (n / 128)
theorem natB_len : ∀ (k : Nat) (n : Int), (natB k n).length ≤ k
  | 0, _ => Nat.le_refl _
  | k + 1, n => by
    rw [natB]; split
    · simp
    · simp only [List.length_cons]; have := natB_len k (n / 128); omega
theorem u8_or (y : Int) (h0 : 0 ≤ y) (h1 : y < 256) : bits .or .u8 y 128 = y % 128 + 128 := by
  have h : ∀ n : Fin 256, bits .or .u8 ((n : Nat) : Int) 128 = ((n : Nat) : Int) % 128 + 128 := by decide +kernel
  have := h ⟨y.toNat, by omega⟩
  rw [show ((⟨y.toNat, by omega⟩ : Fin 256) : Nat) = y.toNat from rfl, Int.toNat_of_nonneg h0] at this
  exact this
set_option maxHeartbeats 8000000 in
set_option maxRecDepth 100000 in
theorem writer_nat (W : World) (F : Nat → Prop) (g : Nat) (bs : List Int) (n : Int) (h : WrP g bs W F) (hn : 0 ≤ n ∧ n < 18446744073709551616) (hl : bs.length < 1000000) :
    Calls Try.prog 90 #[.pointer (some ⟨g, 0, none⟩), .int .u64 n] W fun e w' => e = .returned (.tuple #[]) ∧ St W F w' [WrP g (bs ++ natB 10 n)] := by
  have hu := Try.underlying99
  have S0 := Aside0.mk (St.start1 WrP.loc h)
  clear h
  go_enter Try.func90, Try.ntmps90
  go_wp2
  go_loopg [1] 10 (fun g1 v1 wr => ∃ (m : Int) (k : Nat) (ys : List Int), v1 = .int .u64 m ∧ 0 ≤ m ∧ Aside0 (m < 128 ^ (k + 1)) ∧ m < 18446744073709551616 ∧ k ≤ 9 ∧ k ≤ g1 ∧ Aside0 (ys ++ natB (k + 1) m = bs ++ natB 10 n) ∧ Aside0 (ys.length + k < 1000050) ∧ Aside0 (St W F wr [WrP g ys]))
  case atStart => exact ⟨n, 9, bs, rfl, hn.1, ⟨by omega⟩, hn.2, by omega, by omega, ⟨rfl⟩, ⟨by omega⟩, S0⟩
  case round =>
    obtain ⟨m, k, ys, rfl, hm0, HM, hm1, hk, hg, HO, HL, HS⟩ := hrel
    obtain ⟨A, c, S1⟩ := HS.out.wrOpen
    obtain ⟨na, hna⟩ : ∃ x, ys.length = x := ⟨_, rfl⟩
    rw [hna] at S1
    have HNA := Aside0.mk hna
    clear hna HS
    have z0 : wr.cell? ⟨g, 0, none⟩ = some (.slice A na c) := (blk_cell (S1.blk 0 rfl) 0).trans rfl; have fz0 : wr.frozen? ⟨g, 0, none⟩ = false := blk_frozen (S1.blk 0 rfl) 0
    obtain ⟨lo, hlo⟩ : ∃ x, m % 256 = x := ⟨_, rfl⟩
    have hlr : 0 ≤ lo ∧ lo < 256 := by omega
    have hlw : IntKind.u8.wrap m = lo := by rw [IntKind.wrap_u8, hlo]
    by_cases c1 : 128 ≤ m
    · obtain ⟨y, hy⟩ : ∃ y, lo % 128 + 128 = y := ⟨_, rfl⟩
      have hor : bits .or .u8 lo 128 = y := by rw [← hy]; exact u8_or lo hlr.1 hlr.2
      have HY : Aside0 (y = m % 128 + 128) := ⟨by omega⟩
      obtain ⟨k, rfl⟩ : ∃ k', k = k' + 1 := ⟨k - 1, by
        rcases Nat.eq_zero_or_pos k with q | q
        · subst q; have := HM.out; omega
        · omega⟩
      have hsh : m / 2 = m / 2 := rfl
      have HO2 : Aside0 ((ys ++ [y]) ++ natB (k + 1) (m / 128) = bs ++ natB 10 n) := ⟨by
        have e : natB (k + 1 + 1) m = (m % 128 + 128) :: natB (k + 1) (m / 128) := by
          show (if m < 128 then [m] else (m % 128 + 128) :: natB (k + 1) (m / 128)) = _
          rw [if_neg (by omega)]
        rw [← HO.out, e, HY.out, List.append_assoc]; rfl⟩
      have HM2 : Aside0 (m / 128 < 128 ^ (k + 1)) := ⟨by have := HM.out; rw [Int.pow_succ] at this; omega⟩
      have c1b : decide (128 ≤ m) = true := decide_eq_true c1
      have h128 : m / 128 < 18446744073709551616 := by omega
      clear hlo hy hsh hlr
      go_wp2_with ((with_reducible refine gate_builtin (b := .append) (xs := #[.tmp 12, .tmp 16]) rfl ?_); at_builtin; obtain ⟨ok, okp, p1, p2, p3, p4, p5⟩ := (S1.front 1 rfl).append_one (p := y) (cs := [.int .u8 y]) (okq := fun _ => False) (fun _ _ => rfl) (fun _ h => h); refine Kd.N_append KB (W := wr) (w0 := wr) 0 rfl (.tmp 12) (.tmp 16) 46 5 (.int .u8 0) 1 rfl Try.underlying46 infoB rfl (by decide) (by decide) (.slice A na c) ys y [.int .u8 y] ok okp rfl rfl p2 p3 p4 p1 (Below.refl _ _) (Nat.zero_le _) (by have := HL.out; omega) ?_; intro v8 w8 hN _ hg8 _; obtain ⟨A8, c8, e8⟩ := Kd.N_slice hN; obtain ⟨n8, hn8⟩ : ∃ x, (ys ++ [y]).length = x := ⟨_, rfl⟩; rw [hn8] at e8; subst e8; have HN8 := Aside0.mk hn8; have S8 : St W F w8 [Nw KB 5 (.slice A8 n8 c8) (ys ++ [y]), Pt g #[.slice A na c] 99] := p5 _ _ hN hg8; clear p1 p2 p3 p4 p5 hN hg8 z0 fz0 hn8; have z0 : w8.cell? ⟨g, 0, none⟩ = some (.slice A na c) := (blk_cell (S8.blk 1 rfl) 0).trans rfl; have fz0 : w8.frozen? ⟨g, 0, none⟩ = false := blk_frozen (S8.blk 1 rfl) 0)
      go_roundg k
      case measure => omega
      case rel => exact ⟨m / 128, k, ys ++ [y], rfl, by omega, HM2, h128, by omega, by omega, HO2, ⟨by have := HL.out; rw [List.length_append, List.length_singleton]; omega⟩, ⟨St.wrShut HN8.out.symm ((S8.front 1 rfl).put 0 (.slice A8 n8 c8) rfl)⟩⟩
    · have c1b : decide (128 ≤ m) = false := decide_eq_false c1
      have hlm : lo = m := by omega
      subst hlm
      have HO2 : Aside0 (ys ++ [lo] = bs ++ natB 10 n) := ⟨by rw [← HO.out, natB, if_pos (by omega)]⟩
      clear hlo hlr
      go_wp2_with ((with_reducible refine gate_builtin (b := .append) (xs := #[.tmp 24, .tmp 27]) rfl ?_); at_builtin; obtain ⟨ok, okp, p1, p2, p3, p4, p5⟩ := (S1.front 1 rfl).append_one (p := lo) (cs := [.int .u8 lo]) (okq := fun _ => False) (fun _ _ => rfl) (fun _ h => h); refine Kd.N_append KB (W := wr) (w0 := wr) 0 rfl (.tmp 24) (.tmp 27) 46 5 (.int .u8 0) 1 rfl Try.underlying46 infoB rfl (by decide) (by decide) (.slice A na c) ys lo [.int .u8 lo] ok okp rfl rfl p2 p3 p4 p1 (Below.refl _ _) (Nat.zero_le _) (by have := HL.out; omega) ?_; intro v8 w8 hN _ hg8 _; obtain ⟨A8, c8, e8⟩ := Kd.N_slice hN; obtain ⟨n8, hn8⟩ : ∃ x, (ys ++ [lo]).length = x := ⟨_, rfl⟩; rw [hn8] at e8; subst e8; have HN8 := Aside0.mk hn8; have S8 : St W F w8 [Nw KB 5 (.slice A8 n8 c8) (ys ++ [lo]), Pt g #[.slice A na c] 99] := p5 _ _ hN hg8; clear p1 p2 p3 p4 p5 hN hg8 z0 fz0 hn8; have z0 : w8.cell? ⟨g, 0, none⟩ = some (.slice A na c) := (blk_cell (S8.blk 1 rfl) 0).trans rfl; have fz0 : w8.frozen? ⟨g, 0, none⟩ = false := blk_frozen (S8.blk 1 rfl) 0)
      go_end0
      refine ⟨rfl, ?_⟩
      rw [← HO2.out]
      exact St.wrShut HN8.out.symm ((S8.front 1 rfl).put 0 (.slice A8 n8 c8) rfl)
set_option maxHeartbeats 8000000 in
set_option maxRecDepth 100000 in
theorem writer_Nat (W : World) (F : Nat → Prop) (g : Nat) (bs : List Int) (n : Int) (ad : Addr) (hz : W.cell? ad = some (.int .u64 n)) (h : WrP g bs W F) (hn : 0 ≤ n ∧ n < 18446744073709551616) (hl : bs.length < 1000000) :
    Calls Try.prog 63 #[.pointer (some ⟨g, 0, none⟩), .slice (some ad) 1 1] W fun e w' => e = .returned (.tuple #[]) ∧ St W F w' [WrP g (bs ++ natB 10 n)] := by
  have HC := Aside0.mk (writer_nat W F g bs n h hn hl)
  have hz0 : W.cell? (ad.add 0) = some (.int .u64 n) := by rw [Addr.add_zero']; exact hz
  clear h hl
  go_enter Try.func63, Try.ntmps63
  go_wp2
  refine wp_loop_rounds 2 ?_
  rw [rounds_succ]
  go_wp2_with (go_at_call 90; refine HC.out.mono ?_; rintro e w1 ⟨rfl, hs⟩; have HS := Aside0.mk hs; clear hs)
  rw [rounds_succ]
  go_wp2
  go_end0
  exact ⟨rfl, HS.out⟩
def zig (n : Int) : Int := if 0 ≤ n then 2 * n else -2 * n - 1
theorem zig_range {n : Int} (h0 : -9223372036854775808 ≤ n) (h1 : n ≤ 9223372036854775807) : 0 ≤ zig n ∧ zig n < 18446744073709551616 := by unfold zig; split <;> omega
theorem xor_zig (n : Int) (h0 : -9223372036854775808 ≤ n) (h1 : n ≤ 9223372036854775807) : bits BinOp.xor IntKind.u64 (IntKind.u64.wrap (IntKind.u64.wrap n * 2)) (IntKind.u64.wrap (n / 9223372036854775808)) = zig n := by
  unfold zig
  by_cases c : 0 ≤ n
  · rw [if_pos c]
    obtain ⟨a, ha⟩ : ∃ a : Nat, 2 * n = a := ⟨(2 * n).toNat, by omega⟩
    have e1 : IntKind.u64.wrap (IntKind.u64.wrap n * 2) = (a : Int) := by rw [IntKind.wrap_u64, IntKind.wrap_u64]; omega
    have e2 : IntKind.u64.wrap (n / 9223372036854775808) = 0 := by rw [IntKind.wrap_u64]; omega
    rw [e1, e2, ha]
    show IntKind.u64.wrap (((BitVec.ofInt 64 (a : Int)) ^^^ (BitVec.ofInt 64 0)).toNat : Int) = a
    rw [show BitVec.ofInt 64 0 = 0#64 by decide, BitVec.xor_zero, BitVec.ofInt_natCast, BitVec.toNat_ofNat, IntKind.wrap_u64]; omega
  · rw [if_neg c]
    obtain ⟨a, ha⟩ : ∃ a : Nat, 2 * n + 18446744073709551616 = a := ⟨(2 * n + 18446744073709551616).toNat, by omega⟩
    have e1 : IntKind.u64.wrap (IntKind.u64.wrap n * 2) = (a : Int) := by rw [IntKind.wrap_u64, IntKind.wrap_u64]; omega
    have e2 : IntKind.u64.wrap (n / 9223372036854775808) = 18446744073709551615 := by rw [IntKind.wrap_u64]; omega
    rw [e1, e2]
    show IntKind.u64.wrap (((BitVec.ofInt 64 (a : Int)) ^^^ (BitVec.ofInt 64 18446744073709551615)).toNat : Int) = -2 * n - 1
    rw [show BitVec.ofInt 64 18446744073709551615 = BitVec.allOnes 64 by decide, BitVec.xor_allOnes, BitVec.toNat_not, BitVec.ofInt_natCast, BitVec.toNat_ofNat, IntKind.wrap_u64]
    have : a < 2 ^ 64 := by omega
    rw [Nat.mod_eq_of_lt this]; omega
def zigB : List Int → List Int
  | [] => []
  | n :: l => natB 10 (zig n) ++ zigB l
set_option maxHeartbeats 8000000 in
set_option maxRecDepth 100000 in
theorem writer_Int (W : World) (F : Nat → Prop) (g : Nat) (bs : List Int) (xs : List Int) (ad : Addr) (c : Nat) (hz : ∀ w', Fr F W w' → ∀ i (hi : i < xs.length), w'.cell? (ad.add i) = some (.int .i64 xs[i])) (h : WrP g bs W F) (hr : ∀ n ∈ xs, -9223372036854775808 ≤ n ∧ n ≤ 9223372036854775807) (hl : bs.length + 10 * xs.length < 1000000) :
    Calls Try.prog 64 #[.pointer (some ⟨g, 0, none⟩), .slice (some ad) xs.length c] W fun e w' => e = .returned (.tuple #[]) ∧ St W F w' [WrP g (bs ++ zigB xs)] := by
  have S0 := Aside0.mk (St.start1 WrP.loc h)
  have HZ := Aside0.mk hz
  have HR := Aside0.mk hr
  obtain ⟨m, hm⟩ : ∃ m, xs.length = m := ⟨_, rfl⟩
  have HM := Aside0.mk hm
  rw [hm] at hl
  rw [hm]
  clear h hz hr hm
  go_enter Try.func64, Try.ntmps64
  go_wp2
  go_loopg [5, 8] m (fun g1 v5 v8 wr => ∃ (i : Nat) (iz : Int) (ys : List Int), v8 = .int .i64 iz ∧ Aside0 (iz = i) ∧ 0 ≤ iz ∧ iz ≤ m ∧ m ≤ i + g1 ∧ i ≤ m ∧ Aside0 (ys ++ zigB (xs.drop i) = bs ++ zigB xs) ∧ Aside0 (ys.length + 10 * (m - i) < 1000000) ∧ Aside0 (St W F wr [WrP g ys]))
  case atStart => exact ⟨0, 0, bs, rfl, ⟨rfl⟩, by omega, by omega, by omega, by omega, ⟨rfl⟩, ⟨hl⟩, S0⟩
  case round =>
    obtain ⟨i, iz, ys, rfl, HI, h0, h1, hg, him, HO, HL, HS⟩ := hrel
    by_cases hlt : i < m
    · have hltz : iz < (m : Int) := by have := HI.out; omega
      have hx : i < xs.length := by rw [HM.out]; exact hlt
      obtain ⟨n, hn⟩ : ∃ n, xs[i] = n := ⟨_, rfl⟩
      have hzi := HZ.out wr HS.out.fr i hx
      have hiz : iz.toNat = i := by have := HI.out; omega
      rw [hn, ← hiz] at hzi
      have hnr := HR.out n (by rw [← hn]; exact List.getElem_mem hx)
      have HNR := Aside0.mk hnr
      have HO2 : Aside0 ((ys ++ natB 10 (zig n)) ++ zigB (xs.drop (i + 1)) = bs ++ zigB xs) := ⟨by rw [← HO.out, List.drop_eq_getElem_cons hx, hn, zigB, List.append_assoc]⟩
      obtain ⟨zn, hzn⟩ : ∃ z, zig n = z := ⟨_, rfl⟩
      have hxz := xor_zig n hnr.1 hnr.2
      have HZR := Aside0.mk (zig_range hnr.1 hnr.2)
      rw [hzn] at hxz HO2 HZR
      have wi : IntKind.i64.wrap (iz + 1) = iz + 1 := by have := HI.out; rw [IntKind.wrap_i64]; omega
      clear hx hn hiz hnr hzn
      go_wp2_with (go_at_call 63; have S2 : St W F (wr.alloc (.cells #[.int .u64 zn] 31)) [Pt wr.heap.size #[.int .u64 zn] 31, WrP g ys] := HS.out.alloc; obtain ⟨F2, hA, _, up⟩ := (S2.front 1 rfl).join; refine (writer_Nat _ F2 g ys zn ⟨wr.heap.size, 0, none⟩ ((blk_cell (S2.blk 0 rfl) 0).trans rfl) hA HZR.out (by have := HL.out; omega)).mono ?_; rintro e w3 ⟨rfl, hs⟩; have S3 : St W F w3 [WrP g (ys ++ natB 10 zn)] := (up w3 _ hs).take 1; clear hA up hs S2)
      go_roundg (m - (i + 1))
      case measure => omega
      case rel => exact ⟨i + 1, iz + 1, ys ++ natB 10 zn, rfl, ⟨by rw [HI.out]; rfl⟩, by omega, by have := HI.out; omega, by omega, by omega, HO2, ⟨by have := HL.out; have := natB_len 10 zn; rw [List.length_append]; omega⟩, ⟨S3⟩⟩
    · have hltz : ¬ iz < (m : Int) := by have := HI.out; omega
      have hO := HO.out
      rw [List.drop_eq_nil_of_le (by have := HM.out; omega), zigB, List.append_nil] at hO
      have HO2 := Aside0.mk hO
      clear hO
      go_wp2
      go_end0
      exact ⟨rfl, by rw [← HO2.out]; exact HS.out⟩
set_option maxHeartbeats 8000000 in
set_option maxRecDepth 100000 in
theorem writer_bytes (W : World) (F : Nat → Prop) (g : Nat) (bs : List Int) (h : WrP g bs W F) (hl : bs.length < 1000000) :
    Calls Try.prog 65 #[.pointer (some ⟨g, 0, none⟩)] W fun e w' => ∃ v, e = .returned v ∧ Kd.R KB 5 w' W.heap.size (fun _ => True) v bs ∧ Below W.heap.size W w' := by
  have hu := Try.underlying99
  obtain ⟨A, c, S1⟩ := (St.start1 WrP.loc h).wrOpen
  obtain ⟨n, hn⟩ : ∃ x, bs.length = x := ⟨_, rfl⟩
  rw [hn] at S1 hl
  have HN := Aside0.mk hn
  have HC := Aside0.mk (S1.nrd 1 rfl)
  have z0 : W.cell? ⟨g, 0, none⟩ = some (.slice A n c) := (blk_cell (S1.blk 0 rfl) 0).trans rfl; have fz0 : W.frozen? ⟨g, 0, none⟩ = false := blk_frozen (S1.blk 0 rfl) 0
  clear h hn
  go_enter Try.func65, Try.ntmps65
  go_wp2_with ((with_reducible refine gate_dst (N := 9) rfl ?_); refine Kd.R_append_rows KB (Rr := KB.K W) (w0 := W) W.heap.size (by rfl) (.const (.slice none 0 0)) (.tmp 8) 46 5 (.int .u8 0) 1 rfl Try.underlying46 infoB rfl (by decide) (by decide) (.slice none 0 0) [] bs A n c (fun _ => True) (fun _ => False) rfl rfl (Kd.R_nil _ _ _ _ _) ?hc ?hk (fun _ hk => hk.elim) (fun _ _ => trivial) (Below.refl _ _) (Nat.le_refl _) ?hl ?_; (case hc => exact HN.out ▸ HC.out.2.2); (case hk => intro x cs h; exact h); (case hl => simp; omega); intro v7 w7 hr7 hb7 _ _)
  go_ret
  exact ⟨_, rfl, by simpa using hr7, hb7⟩
def okO (x : SO) : Bool := decide (0 ≤ x.f0 ∧ x.f0 < 18446744073709551616 ∧ (-9223372036854775808 ≤ x.f1 ∧ x.f1 ≤ 9223372036854775807) ∧ (-9223372036854775808 ≤ x.f2 ∧ x.f2 ≤ 9223372036854775807) ∧ (-9223372036854775808 ≤ x.f3 ∧ x.f3 ≤ 9223372036854775807) ∧ (-9223372036854775808 ≤ x.f4 ∧ x.f4 ≤ 9223372036854775807) ∧ 0 ≤ x.f5 ∧ x.f5 < 18446744073709551616)
def oneB (x : SO) : List Int := natB 10 x.f0 ++ zigB [x.f1, x.f2, x.f3, x.f4] ++ natB 10 x.f5
def bodyB : List SO → List Int
  | [] => []
  | x :: l => oneB x ++ bodyB l
def bytesO (l : List SO) : List Int := natB 10 l.length ++ bodyB l
theorem zigB_len (l : List Int) : (zigB l).length ≤ 10 * l.length := by
  induction l with
  | nil => exact Nat.le_refl _
  | cons n l ih => rw [zigB, List.length_append, List.length_cons]; have := natB_len 10 (zig n); omega
theorem oneB_len (x : SO) : (oneB x).length ≤ 60 := by
  rw [oneB, List.length_append, List.length_append]
  have a := natB_len 10 x.f0; have b := natB_len 10 x.f5; have c := zigB_len [x.f1, x.f2, x.f3, x.f4]
  simp only [List.length_cons, List.length_nil] at c; omega
theorem bodyB_len (l : List SO) : (bodyB l).length ≤ 60 * l.length := by
  induction l with
  | nil => exact Nat.le_refl _
  | cons x l ih => rw [bodyB, List.length_append, List.length_cons]; have := oneB_len x; omega
theorem four_cells {w : World} {F : Nat → Prop} {l : List Part} {g : Nat} {x1 x2 x3 x4 : Int} {T : TypeId} (hst : ∀ w', Fr F w w' → ∃ G, Stars (Pt g #[.int .i64 x1, .int .i64 x2, .int .i64 x3, .int .i64 x4] T :: l) G w') {w' : World} (hf : Fr F w w') (i : Nat) (hi : i < [x1, x2, x3, x4].length) : w'.cell? ((⟨g, 0, none⟩ : Addr).add i) = some (.int .i64 [x1, x2, x3, x4][i]) := by
  obtain ⟨G, hG⟩ := hst w' hf
  obtain ⟨F', h'⟩ := hG.get 0 rfl
  simp only [List.length_cons, List.length_nil] at hi
  have : i = 0 ∨ i = 1 ∨ i = 2 ∨ i = 3 := by omega
  rcases this with rfl | rfl | rfl | rfl
  · exact (blk_cell h'.2 0).trans rfl
  · exact (blk_cell h'.2 1).trans rfl
  · exact (blk_cell h'.2 2).trans rfl
  · exact (blk_cell h'.2 3).trans rfl
set_option maxHeartbeats 8000000 in
set_option maxRecDepth 100000 in
theorem order_bytes (W : World) (A0 : Option Addr) (c0 : Nat) (l : List SO) (hC : KO.C W A0 l.length l) (hlen : l.length ≤ 100) (hok : l.all okO = true) :
    Calls Try.prog 32 #[.slice A0 l.length c0] W fun e w' => ∃ v, e = .returned v ∧ Kd.R KB 5 w' W.heap.size (fun _ => True) v (bytesO l) ∧ Below W.heap.size W w' := by
  have hu := Try.underlying99
  have hu2 := Try.underlying33
  have HC := Aside0.mk hC
  have HOK := Aside0.mk hok
  obtain ⟨n, hn⟩ : ∃ x, l.length = x := ⟨_, rfl⟩
  rw [hn]
  rw [hn] at hlen
  have HN := Aside0.mk hn
  have hwn : IntKind.u64.wrap (n : Int) = (n : Int) := by rw [IntKind.wrap_u64]; omega
  have S0 := St.start W (fun _ => False)
  clear hC hok hn
  go_enter Try.func32, Try.ntmps32
  go_wp2_with (first
    | ((with_reducible refine gate_dst (N := 3) rfl ?_); refine box_event ?hg (N := 3) ?hd (cs := #[.slice none 0 0]) (t := 99) ?hr ?_; (case hd => rfl); (case hg => rfl); (case hr => first | (go_simp; done) | (go_simp; rfl)); intro g hg_ w1 hbB hb; have S1 := S0.box hg_ hb hbB; clear S0 hg_ hbB hb)
    | (go_at_call 63; have S2 : St W (fun _ => False) w1 [WrP g []] := St.wrShut rfl ((S1.new (A := Nw KB 5 (.slice none 0 0) []) (Below.refl _ _) Nw.loc (Kd.N_nil _ _ _ _ _)).perm2); have S3 : St W (fun _ => False) (w1.alloc (.cells #[.int .u64 n] 31)) [Pt w1.heap.size #[.int .u64 n] 31, WrP g []] := S2.alloc; obtain ⟨F2, hA, _, up⟩ := (S3.front 1 rfl).join; refine (writer_Nat _ F2 g [] n ⟨w1.heap.size, 0, none⟩ ((blk_cell (S3.blk 0 rfl) 0).trans rfl) hA ⟨by omega, by omega⟩ (by simp)).mono ?_; rintro e w3 ⟨rfl, hs⟩; have S4 : St W (fun _ => False) w3 [WrP g (natB 10 n)] := (up w3 _ hs).take 1; clear hA up hs S1 S2 S3))
  have HS4 := Aside0.mk S4
  clear S4
  go_loopg [5, 13] n (fun g1 v5 v13 wr => ∃ (i : Nat) (iz : Int) (ys : List Int), v13 = .int .i64 iz ∧ Aside0 (iz = i) ∧ 0 ≤ iz ∧ iz ≤ n ∧ n ≤ i + g1 ∧ i ≤ n ∧ Aside0 (ys ++ bodyB (l.drop i) = bytesO l) ∧ Aside0 (ys.length + 60 * (n - i) ≤ 10000) ∧ Aside0 (St W (fun _ => False) wr [WrP g ys]))
  case atStart => exact ⟨0, 0, natB 10 n, rfl, ⟨rfl⟩, by omega, by omega, by omega, by omega, ⟨by rw [bytesO, HN.out]; rfl⟩, ⟨by have := natB_len 10 n; omega⟩, HS4⟩
  case round =>
    clear HS4
    obtain ⟨i, iz, ys, rfl, HI, h0, h1, hg, him, HO, HL, HS⟩ := hrel
    by_cases hlt : i < n
    · have hltz : iz < (n : Int) := by have := HI.out; omega
      have hx : i < l.length := by rw [HN.out]; exact hlt
      obtain ⟨ad, rfl, q0, q1, q2, q3, q4, q5⟩ := at_T33 HC.out iz h0 (by rw [HN.out]; exact hltz)
      have hrd : rd_T33 l iz = l[i] := by
        have : iz.toNat = i := by have := HI.out; omega
        show l.getD iz.toNat _ = _
        rw [this, List.getD, List.getElem?_eq_getElem hx]; rfl
      have hokx := List.all_eq_true.1 HOK.out l[i] (List.getElem_mem hx)
      have HO2 : Aside0 ((ys ++ oneB l[i]) ++ bodyB (l.drop (i + 1)) = bytesO l) := ⟨by rw [← HO.out, List.drop_eq_getElem_cons hx, bodyB, List.append_assoc]⟩
      rw [hrd] at q0 q1 q2 q3 q4 q5
      obtain ⟨x, hxx⟩ : ∃ x, l[i] = x := ⟨_, rfl⟩
      rw [hxx] at q0 q1 q2 q3 q4 q5 hokx HO2
      obtain ⟨x0, x1, x2, x3, x4, x5⟩ := x
      have HB := Aside0.mk HS.out.below
      replace q0 := (HB.out.cell (World.block_lt_of_cell? W _ q0)).trans q0
      replace q1 := (HB.out.cell (World.block_lt_of_cell? W _ q1)).trans q1
      replace q2 := (HB.out.cell (World.block_lt_of_cell? W _ q2)).trans q2
      replace q3 := (HB.out.cell (World.block_lt_of_cell? W _ q3)).trans q3
      replace q4 := (HB.out.cell (World.block_lt_of_cell? W _ q4)).trans q4
      replace q5 := (HB.out.cell (World.block_lt_of_cell? W _ q5)).trans q5
      have HXR := Aside0.mk (of_decide_eq_true hokx)
      dsimp only at q0 q1 q2 q3 q4 q5 HXR
      have S0 := HS.out
      have wi : IntKind.i64.wrap (iz + 1) = iz + 1 := by have := HI.out; rw [IntKind.wrap_i64]; omega
      clear hrd hokx hxx hx
      go_wp2_with (first
        | ((with_reducible refine gate_dst (N := 5) rfl ?_); refine box_event ?hg (N := 5) ?hd (cs := #[.int .u64 0, .int .i64 0, .int .i64 0, .int .i64 0, .int .i64 0, .int .u64 0]) (t := 33) ?hr ?_; (case hd => rfl); (case hg => rfl); (case hr => first | (go_simp; done) | (go_simp; rfl)); intro gO hg_ w1 hbB hb; have S1 := S0.box hg_ hb hbB; clear S0 hg_ hbB hb; have z0 : w1.cell? ⟨gO, 0, none⟩ = some (.int .u64 0) := (blk_cell (S1.blk 0 rfl) 0).trans rfl; have fz0 : w1.frozen? ⟨gO, 0, none⟩ = false := blk_frozen (S1.blk 0 rfl) 0; have z1 : w1.cell? ⟨gO, 1, none⟩ = some (.int .i64 0) := (blk_cell (S1.blk 0 rfl) 1).trans rfl; have fz1 : w1.frozen? ⟨gO, 1, none⟩ = false := blk_frozen (S1.blk 0 rfl) 1; have z2 : w1.cell? ⟨gO, 2, none⟩ = some (.int .i64 0) := (blk_cell (S1.blk 0 rfl) 2).trans rfl; have fz2 : w1.frozen? ⟨gO, 2, none⟩ = false := blk_frozen (S1.blk 0 rfl) 2; have z3 : w1.cell? ⟨gO, 3, none⟩ = some (.int .i64 0) := (blk_cell (S1.blk 0 rfl) 3).trans rfl; have fz3 : w1.frozen? ⟨gO, 3, none⟩ = false := blk_frozen (S1.blk 0 rfl) 3; have z4 : w1.cell? ⟨gO, 4, none⟩ = some (.int .i64 0) := (blk_cell (S1.blk 0 rfl) 4).trans rfl; have fz4 : w1.frozen? ⟨gO, 4, none⟩ = false := blk_frozen (S1.blk 0 rfl) 4; have z5 : w1.cell? ⟨gO, 5, none⟩ = some (.int .u64 0) := (blk_cell (S1.blk 0 rfl) 5).trans rfl; have fz5 : w1.frozen? ⟨gO, 5, none⟩ = false := blk_frozen (S1.blk 0 rfl) 5)
        | (go_at_call 63; refine Calls.named ?_; intro v1 hv; have T2 : St W (fun _ => False) v1 [Pt w1.heap.size #[.int .u64 x0] 31, Pt gO #[.int .u64 x0, .int .i64 x1, .int .i64 x2, .int .i64 x3, .int .i64 x4, .int .u64 x5] 33, WrP g ys] := (by have q := St.alloc (cs := #[.int .u64 x0]) (t := 31) ((((((S1.put 0 (.int .u64 x0) rfl).put 1 (.int .i64 x1) rfl).put 2 (.int .i64 x2) rfl).put 3 (.int .i64 x3) rfl).put 4 (.int .i64 x4) rfl).put 5 (.int .u64 x5) rfl); rw [show ((((((w1.setCell ⟨gO, 0, none⟩ (.int .u64 x0)).setCell ⟨gO, 1, none⟩ (.int .i64 x1)).setCell ⟨gO, 2, none⟩ (.int .i64 x2)).setCell ⟨gO, 3, none⟩ (.int .i64 x3)).setCell ⟨gO, 4, none⟩ (.int .i64 x4)).setCell ⟨gO, 5, none⟩ (.int .u64 x5)).heap.size = w1.heap.size by simp] at q; rw [hv]; exact q); clear hv; obtain ⟨F2, hA, _, up⟩ := (T2.front 2 rfl).join; refine (writer_Nat _ F2 g ys x0 ⟨w1.heap.size, 0, none⟩ ((blk_cell (T2.blk 0 rfl) 0).trans rfl) hA ⟨HXR.out.1, HXR.out.2.1⟩ (by have := HL.out; omega)).mono ?_; rintro e y1 ⟨rfl, hs⟩; have S3 : St W (fun _ => False) y1 [WrP g (ys ++ natB 10 x0), Pt w1.heap.size #[.int .u64 x0] 31, Pt gO #[.int .u64 x0, .int .i64 x1, .int .i64 x2, .int .i64 x3, .int .i64 x4, .int .u64 x5] 33] := up y1 _ hs; clear hA up hs S1 T2 z0 z1 z2 z3 z4 z5 fz0 fz1 fz2 fz3 fz4 fz5; have z0 : y1.cell? ⟨gO, 0, none⟩ = some (.int .u64 x0) := (blk_cell (S3.blk 2 rfl) 0).trans rfl; have z1 : y1.cell? ⟨gO, 1, none⟩ = some (.int .i64 x1) := (blk_cell (S3.blk 2 rfl) 1).trans rfl; have z2 : y1.cell? ⟨gO, 2, none⟩ = some (.int .i64 x2) := (blk_cell (S3.blk 2 rfl) 2).trans rfl; have z3 : y1.cell? ⟨gO, 3, none⟩ = some (.int .i64 x3) := (blk_cell (S3.blk 2 rfl) 3).trans rfl; have z4 : y1.cell? ⟨gO, 4, none⟩ = some (.int .i64 x4) := (blk_cell (S3.blk 2 rfl) 4).trans rfl; have z5 : y1.cell? ⟨gO, 5, none⟩ = some (.int .u64 x5) := (blk_cell (S3.blk 2 rfl) 5).trans rfl)
        | (go_at_call 64; have T3 : St W (fun _ => False) (y1.alloc (.cells #[.int .i64 x1, .int .i64 x2, .int .i64 x3, .int .i64 x4] 2)) [Pt y1.heap.size #[.int .i64 x1, .int .i64 x2, .int .i64 x3, .int .i64 x4] 2, WrP g (ys ++ natB 10 x0), Pt w1.heap.size #[.int .u64 x0] 31, Pt gO #[.int .u64 x0, .int .i64 x1, .int .i64 x2, .int .i64 x3, .int .i64 x4, .int .u64 x5] 33] := S3.alloc; obtain ⟨F3, hA, _, hst, up⟩ := (T3.front 1 rfl).joinR; refine (writer_Int _ F3 g (ys ++ natB 10 x0) [x1, x2, x3, x4] ⟨y1.heap.size, 0, none⟩ 4 (fun w' hf i hi => four_cells hst hf i hi) hA (by have := HXR.out; intro z hz; simp only [List.mem_cons, List.not_mem_nil, or_false] at hz; rcases hz with rfl | rfl | rfl | rfl; exact this.2.2.1; exact this.2.2.2.1; exact this.2.2.2.2.1; exact this.2.2.2.2.2.1) (by have := HL.out; have := natB_len 10 x0; simp only [List.length_append, List.length_cons, List.length_nil]; omega)).mono ?_; rintro e y2 ⟨rfl, hs⟩; have S5 : St W (fun _ => False) y2 [WrP g (ys ++ natB 10 x0 ++ zigB [x1, x2, x3, x4]), Pt y1.heap.size #[.int .i64 x1, .int .i64 x2, .int .i64 x3, .int .i64 x4] 2, Pt w1.heap.size #[.int .u64 x0] 31, Pt gO #[.int .u64 x0, .int .i64 x1, .int .i64 x2, .int .i64 x3, .int .i64 x4, .int .u64 x5] 33] := up y2 _ hs; clear hA up hs hst S3 T3 z0 z1 z2 z3 z4 z5; have z0 : y2.cell? ⟨gO, 0, none⟩ = some (.int .u64 x0) := (blk_cell (S5.blk 3 rfl) 0).trans rfl; have z1 : y2.cell? ⟨gO, 1, none⟩ = some (.int .i64 x1) := (blk_cell (S5.blk 3 rfl) 1).trans rfl; have z2 : y2.cell? ⟨gO, 2, none⟩ = some (.int .i64 x2) := (blk_cell (S5.blk 3 rfl) 2).trans rfl; have z3 : y2.cell? ⟨gO, 3, none⟩ = some (.int .i64 x3) := (blk_cell (S5.blk 3 rfl) 3).trans rfl; have z4 : y2.cell? ⟨gO, 4, none⟩ = some (.int .i64 x4) := (blk_cell (S5.blk 3 rfl) 4).trans rfl; have z5 : y2.cell? ⟨gO, 5, none⟩ = some (.int .u64 x5) := (blk_cell (S5.blk 3 rfl) 5).trans rfl)
        | (go_at_call 63; have T5 : St W (fun _ => False) (y2.alloc (.cells #[.int .u64 x5] 31)) [Pt y2.heap.size #[.int .u64 x5] 31, WrP g (ys ++ natB 10 x0 ++ zigB [x1, x2, x3, x4]), Pt y1.heap.size #[.int .i64 x1, .int .i64 x2, .int .i64 x3, .int .i64 x4] 2, Pt w1.heap.size #[.int .u64 x0] 31, Pt gO #[.int .u64 x0, .int .i64 x1, .int .i64 x2, .int .i64 x3, .int .i64 x4, .int .u64 x5] 33] := S5.alloc; obtain ⟨F5, hA, _, up⟩ := (T5.front 1 rfl).join; refine (writer_Nat _ F5 g (ys ++ natB 10 x0 ++ zigB [x1, x2, x3, x4]) x5 ⟨y2.heap.size, 0, none⟩ ((blk_cell (T5.blk 0 rfl) 0).trans rfl) hA ⟨HXR.out.2.2.2.2.2.2.1, HXR.out.2.2.2.2.2.2.2⟩ (by have := HL.out; have := natB_len 10 x0; have := zigB_len [x1, x2, x3, x4]; simp only [List.length_append, List.length_cons, List.length_nil] at *; omega)).mono ?_; rintro e y3 ⟨rfl, hs⟩; have S6 : St W (fun _ => False) y3 [WrP g (ys ++ natB 10 x0 ++ zigB [x1, x2, x3, x4] ++ natB 10 x5)] := (up y3 _ hs).take 1; clear hA up hs S5 T5 z0 z1 z2 z3 z4 z5))
      go_roundg (n - (i + 1))
      case measure => omega
      case rel => exact ⟨i + 1, iz + 1, ys ++ natB 10 x0 ++ zigB [x1, x2, x3, x4] ++ natB 10 x5, rfl, ⟨by rw [HI.out]; rfl⟩, by omega, by have := HI.out; omega, by omega, by omega, ⟨by rw [← HO2.out, oneB]; simp⟩, ⟨by have := HL.out; have := natB_len 10 x0; have := natB_len 10 x5; have := zigB_len [x1, x2, x3, x4]; simp only [List.length_append, List.length_cons, List.length_nil] at *; omega⟩, ⟨S6⟩⟩
    · have hltz : ¬ iz < (n : Int) := by have := HI.out; omega
      have hO := HO.out
      rw [List.drop_eq_nil_of_le (by have := HN.out; omega), bodyB, List.append_nil] at hO
      have HO2 := Aside0.mk hO
      clear hO
      obtain ⟨FZ, hZ⟩ := HS.out.get 0 rfl
      have S0 := HS.out
      have HW := Aside0.mk (writer_bytes wr FZ g ys hZ (by have := HL.out; omega))
      clear hZ
      go_wp2_with (go_at_call 65; refine HW.out.mono ?_; rintro e w3 ⟨v, rfl, hR, hb⟩; have HR3 := Aside0.mk hR; have HB3 := Aside0.mk (S0.below.trans (hb.mono S0.below.size)); clear hR hb)
      go_ret
      exact ⟨_, rfl, by rw [← HO2.out]; exact Kd.R_lower HR3.out S0.below.size, HB3.out⟩
abbrev SR := S41
abbrev KR := k41
def jobberlaw12_OrderBytes.f (k : Nat) (l0 : List SO) (l1 : List Int) : Option Bool :=
  if (l0.length : Int) > 100 then some true else if (l1.length : Int) > 100 then some true else
  if (l0.all okO && l1.all fun b => decide (0 ≤ b) && decide (b < 256)) = true then
    (jobberlaw12_Plain.f k l0).bind fun pl => (jobberref12_Bytes.f k pl).bind fun rb => if rb = bytesO l0 then
      (jobberref12_Book.f k pl).bind fun q => (order_Book.f (rAll (bytesO l0 ++ l1, false)).1).bind fun p =>
        if q = false then (if readOk (bytesO l0 ++ l1, false) p = false then some true else none)
        else if readOk (bytesO l0 ++ l1, false) p = true then (if (readS (bytesO l0 ++ l1, false) p).1.length = l1.length then (jobberlaw12_Same.f k (readL (bytesO l0 ++ l1, false) p) pl).bind fun t => if t = true then some true else none else none) else none
    else none
  else none
theorem natB_byte : ∀ (k : Nat) (n : Int), 0 ≤ n → n < 128 ^ k → ∀ b ∈ natB k n, 0 ≤ b ∧ b < 256
  | 0, n, _, _, b, h => by cases h
  | k + 1, n, h0, h1, b, h => by
    rw [natB] at h
    split at h
    · rw [List.mem_singleton.1 h]; omega
    · rcases List.mem_cons.1 h with q | q
      · rw [q]; omega
      · exact natB_byte k (n / 128) (by omega) (by rw [Int.pow_succ] at h1; omega) b q
theorem natB_byte' {n : Int} (h0 : 0 ≤ n) (h1 : n < 18446744073709551616) : ∀ b ∈ natB 10 n, 0 ≤ b ∧ b < 256 := natB_byte 10 n h0 (by rw [show (128 : Int) ^ 10 = 1180591620717411303424 by decide]; omega)
theorem bytesO_byte {l : List SO} (hl : l.length ≤ 100) (h : l.all okO = true) : ∀ b ∈ bytesO l, 0 ≤ b ∧ b < 256 := by
  have zb : ∀ n : Int, -9223372036854775808 ≤ n → n ≤ 9223372036854775807 → ∀ b ∈ natB 10 (zig n), 0 ≤ b ∧ b < 256 := fun n a c => natB_byte' (zig_range a c).1 (zig_range a c).2
  have body : ∀ l : List SO, l.all okO = true → ∀ b ∈ bodyB l, 0 ≤ b ∧ b < 256 := by
    intro l
    induction l with
    | nil => intro _ b hb; cases hb
    | cons x l ih =>
      intro h b hb
      rw [List.all_cons, Bool.and_eq_true] at h
      have hx := of_decide_eq_true h.1
      rw [bodyB] at hb
      rcases List.mem_append.1 hb with q | q
      · rw [oneB] at q
        rcases List.mem_append.1 q with q | q
        · rcases List.mem_append.1 q with q | q
          · exact natB_byte' hx.1 hx.2.1 b q
          · simp only [zigB, List.append_nil, List.mem_append] at q
            rcases q with q | q | q | q
            · exact zb _ hx.2.2.1.1 hx.2.2.1.2 b q
            · exact zb _ hx.2.2.2.1.1 hx.2.2.2.1.2 b q
            · exact zb _ hx.2.2.2.2.1.1 hx.2.2.2.2.1.2 b q
            · exact zb _ hx.2.2.2.2.2.1.1 hx.2.2.2.2.2.1.2 b q
        · exact natB_byte' hx.2.2.2.2.2.2.1 hx.2.2.2.2.2.2.2 b q
      · exact ih h.2 b q
  intro b hb
  rw [bytesO] at hb
  rcases List.mem_append.1 hb with q | q
  · exact natB_byte' (by omega) (by omega) b q
  · exact body l h b q
theorem bytesO_len {l : List SO} (hl : l.length ≤ 100) : (bytesO l).length ≤ 6010 := by
  rw [bytesO, List.length_append]; have a := natB_len 10 l.length; have b := bodyB_len l; omega
set_option maxHeartbeats 8000000 in
set_option maxRecDepth 100000 in
theorem jobberlaw12_OrderBytes.calls (k : Nat) (A0 : Option Addr) (c0 : Nat) (l0 : List SO) (A1 : Option Addr) (c1 : Nat) (l1 : List Int) (r : Bool) (w : World) (hr0 : Kd.C KO w A0 l0.length l0) (hc0 : l0.length ≤ c0) (hr1 : Kd.C (Kd.int .u8) w A1 l1.length l1) (hc1 : l1.length ≤ c1) (h : jobberlaw12_OrderBytes.f k l0 l1 = some r) :
    Calls Try.prog 7 #[.slice A0 l0.length c0, .slice A1 l1.length c1] w fun e w' => e = .returned (.bool r) ∧ Below w.heap.size w w' := by
  have mixed : Try.prog.follows .mixedOrders = true := by kernel_rfl
  unfold jobberlaw12_OrderBytes.f at h
  by_cases d1 : (l0.length : Int) > 100
  · rw [if_pos d1] at h
    obtain rfl := Option.some.inj h
    have d1b : decide (100 < (l0.length : Int)) = true := decide_eq_true d1
    clear h d1 hr0 hc0 hr1 hc1
    go_enter Try.func7, Try.ntmps7
    go_wp2_with (go_at_call 10; refine (jobberlaw12_lives.calls true _ rfl).mono ?_; rintro e w1 ⟨rfl, hb⟩; have HB1 := Aside0.mk hb; clear hb)
    go_ret
    exact ⟨rfl, HB1.out⟩
  rw [if_neg d1] at h
  have d1b : decide (100 < (l0.length : Int)) = false := decide_eq_false d1
  by_cases d2 : (l1.length : Int) > 100
  · rw [if_pos d2] at h
    obtain rfl := Option.some.inj h
    have d2b : decide (100 < (l1.length : Int)) = true := decide_eq_true d2
    clear h d1 d2 hr0 hc0 hr1 hc1
    go_enter Try.func7, Try.ntmps7
    go_wp2_with (go_at_call 10; refine (jobberlaw12_lives.calls true _ rfl).mono ?_; rintro e w1 ⟨rfl, hb⟩; have HB1 := Aside0.mk hb; clear hb)
    go_ret
    exact ⟨rfl, HB1.out⟩
  rw [if_neg d2] at h
  have d2b : decide (100 < (l1.length : Int)) = false := decide_eq_false d2
  by_cases d3 : (l0.all okO && l1.all fun b => decide (0 ≤ b) && decide (b < 256)) = true
  · rw [if_pos d3] at h
    rw [Bool.and_eq_true] at d3
    obtain ⟨pl, hpl, h⟩ := Option.bind_eq_some_iff.mp h
    obtain ⟨rb, hrb, h⟩ := Option.bind_eq_some_iff.mp h
    by_cases d4 : rb = bytesO l0
    · rw [if_pos d4] at h
      subst d4
      obtain ⟨q, hq, h⟩ := Option.bind_eq_some_iff.mp h
      obtain ⟨p, hp, h⟩ := Option.bind_eq_some_iff.mp h
      have hlen : l0.length ≤ 100 := by omega
      have hby : Byt (bytesO l0 ++ l1, false) := ⟨fun b hb => (List.mem_append.1 hb).elim (fun hh => bytesO_byte hlen d3.1 b hh) (fun hh => by have := List.all_eq_true.1 d3.2 b hh; simpa using this), by have := bytesO_len hlen; show (bytesO l0 ++ l1).length < 1000000; rw [List.length_append]; omega⟩
      have HOB := Aside0.mk (order_bytes w A0 c0 l0 hr0 hlen d3.1)
      have HBL := Aside0.mk (bytesO_len hlen)
      have HL1 : Aside0 (l1.length ≤ 100) := ⟨by omega⟩
      obtain ⟨B, hB⟩ : ∃ B, bytesO l0 = B := ⟨_, rfl⟩
      rw [hB] at h hby HOB HBL hp hrb
      have HC := Aside0.mk (And.intro hr0 hc0)
      have HC1 := Aside0.mk (And.intro hr1 hc1)
      have HPL := Aside0.mk hpl
      have HRB := Aside0.mk hrb
      have HQ := Aside0.mk hq
      have KRD := Aside0.mk (fun (w6 w7 : World) (hb : Below w6.heap.size w6 w7) (F1 : Nat → Prop) (hF : ∀ i, F1 i → w6.heap.size ≤ i) (g : Nat) (hA : RdP w6 94 g (B ++ l1, false) w7 F1) => order_read w6 w7 hb F1 hF g (B ++ l1, false) hby hA p hp)
      obtain ⟨ok, hok⟩ : ∃ ok, readOk (B ++ l1, false) p = ok := ⟨_, rfl⟩
      have hsE0 : ok = false → readS (B ++ l1, false) p = ([], true) ∧ readL (B ++ l1, false) p = [] := fun e => by
        have e2 : ¬ readOk (B ++ l1, false) p = true := by rw [hok, e]; decide
        exact ⟨if_neg e2, if_neg e2⟩
      obtain ⟨sE, hsE⟩ : ∃ x, readS (B ++ l1, false) p = x := ⟨_, rfl⟩
      obtain ⟨lE, hlE⟩ : ∃ x, readL (B ++ l1, false) p = x := ⟨_, rfl⟩
      rw [hok, hsE, hlE] at KRD h
      rw [hsE, hlE] at hsE0
      obtain ⟨n0, hn0⟩ : ∃ n, l0.length = n := ⟨_, rfl⟩
      obtain ⟨n1, hn1⟩ : ∃ n, l1.length = n := ⟨_, rfl⟩
      obtain ⟨np, hnp⟩ : ∃ n, pl.length = n := ⟨_, rfl⟩
      obtain ⟨nB, hnB⟩ : ∃ n, B.length = n := ⟨_, rfl⟩
      rw [hn0] at d1b HOB ⊢
      rw [hn1] at d2b ⊢
      have KPL : Aside0 (∀ w' : World, Below w.heap.size w w' → Calls Try.prog 12 #[.slice A0 n0 c0] w' fun e w'' => ∃ v, e = .returned v ∧ Kd.R KR 41 w'' w'.heap.size (fun _ => True) v pl ∧ Below w'.heap.size w' w'') := ⟨fun w' hb => hn0 ▸ jobberlaw12_Plain.calls k A0 c0 l0 pl w' (Kd.C_below hr0 hb) hc0 hpl⟩
      have KRB : Aside0 (∀ (A : Option Addr) (c : Nat) (w' : World), Kd.C KR w' A pl.length pl → np ≤ c → Calls Try.prog 33 #[.slice A np c] w' fun e w'' => ∃ v, e = .returned v ∧ Kd.R KB 5 w'' w'.heap.size (fun _ => True) v B ∧ Below w'.heap.size w' w'') := ⟨fun A c w' hC hc => hnp ▸ jobberref12_Bytes.calls k A c pl B w' hC (Nat.le_trans (Nat.le_of_eq hnp) hc) hrb⟩
      have KBK : Aside0 (∀ (A : Option Addr) (c : Nat) (w' : World), Kd.C KR w' A pl.length pl → np ≤ c → Calls Try.prog 16 #[.slice A np c] w' fun e w'' => e = .returned (.bool q) ∧ Below w'.heap.size w' w'') := ⟨fun A c w' hC hc => hnp ▸ jobberref12_Book.calls k A c pl q w' hC (Nat.le_trans (Nat.le_of_eq hnp) hc) hq⟩
      have HN0 := Aside0.mk hn0
      have HN1 := Aside0.mk hn1
      have HNP := Aside0.mk hnp
      have HNB := Aside0.mk hnB
      have H := Aside0.mk h
      have HE0 := Aside0.mk hsE0
      have hk5 : Aside0 (∀ W2, KB.K W2 = KB.K W2) := ⟨fun _ => rfl⟩
      have S0 := St.start w (fun _ => False)
      clear h d1 d2 d3 hr0 hc0 hr1 hc1 hpl hrb hq hp hby hlen hB hok hsE hlE hn0 hn1 hnp hnB hsE0
      go_enter Try.func7, Try.ntmps7
      go_wp2_with (go_at_call 32; refine HOB.out.mono ?_; rintro e w2 ⟨v, rfl, hR, hb⟩; obtain ⟨Ab, cb, eb⟩ := Kd.R_slice hR; rw [HNB.out] at eb; subst eb; have S2 := S0.row hb hR; have HRb := Aside0.mk (Kd.R_reads' hR).2; have HB2 := Aside0.mk hb; clear hR hb S0)
      have hcvF : ∀ w' : World, Below w2.heap.size w2 w' → (convert 46 9 (.slice Ab nB cb)).run Try.prog w' = .ok (.string (strOfNums B)) w' := fun w' hb => HNB.out ▸ Kd.C_string (P := Try.prog) (c := cb) Try.underlying46 Try.underlying5 Try.underlying9 (Kd.C_below HRb.out.2 hb)
      have HCV := Aside0.mk hcvF
      have u0 := hcvF w2 (Below.refl _ _)
      have u1 := hcvF w2.drew (below_drew1 (Below.refl _ _))
      clear hcvF
      go_cut [26] (fun v26 wc => v26 = .bool false ∧ Aside0 (St w (fun _ => False) wc [Rw KB 5 (.slice Ab nB cb) B]))
      case first =>
        go_region_with (first
          | (go_at_call 12; refine Calls.named ?_; intro v2 hv; have hB2 : Below w2.heap.size w2 v2 := (by rw [hv]; with_reducible first | exact Below.refl _ _ | exact below_drew1 (Below.refl _ _) | exact below_drew1 (below_drew1 (Below.refl _ _))); clear hv; (with_reducible refine (KPL.out v2 (below_step HB2.out hB2)).mono ?_); rintro e w3 ⟨vp, rfl, hR, hb⟩; obtain ⟨Ap, cp, ep⟩ := Kd.R_slice hR; rw [HNP.out] at ep; subst ep; have S3 := (S2.call hB2).row hb hR; have HR3 := Aside0.mk (Kd.R_reads' hR).2; have HB3 := Aside0.mk (below_step hB2 hb); have u2 := HCV.out w3 HB3.out; have u3 := HCV.out w3.drew (below_drew1 HB3.out); clear hR hb u0 u1)
          | (go_at_call 33; refine Calls.named ?_; intro v3 hv; have hB3 : Below w3.heap.size w3 v3 := (by rw [hv]; with_reducible first | exact Below.refl _ _ | exact below_drew1 (Below.refl _ _) | exact below_drew1 (below_drew1 (Below.refl _ _))); clear hv; (with_reducible refine (KRB.out Ap cp v3 (Kd.C_below HR3.out.2 hB3) HR3.out.1).mono ?_); rintro e w4 ⟨vr, rfl, hR, hb⟩; obtain ⟨Ar, cr, er⟩ := Kd.R_slice hR; rw [HNB.out] at er; subst er; have S4 := (S3.call hB3).row hb hR; have HR4 := Aside0.mk (Kd.R_reads' hR).2; have HB4 := Aside0.mk (below_step HB3.out (below_step hB3 hb)); have u4 := HCV.out w4 HB4.out; have u5 := HCV.out w4.drew (below_drew1 HB4.out); have t4 := HNB.out ▸ Kd.C_string (P := Try.prog) (c := cr) Try.underlying46 Try.underlying5 Try.underlying9 HR4.out.2; have t5 := HNB.out ▸ Kd.C_string (P := Try.prog) (c := cr) Try.underlying46 Try.underlying5 Try.underlying9 (Kd.C_below HR4.out.2 (below_drew1 (Below.refl _ _))); clear hR hb u2 u3))
        all_goals (go_wp2_with fail; go_meet)
        all_goals exact ⟨rfl, ⟨(S4.front 2 rfl).take 1⟩⟩
      case rest =>
        obtain ⟨rfl, HS4⟩ := hcut
        cases q with
        | false =>
          have h := H.out
          rw [if_pos rfl] at h
          by_cases d5 : ok = false
          · rw [if_pos d5] at h
            obtain rfl := Option.some.inj h
            obtain ⟨e1, e2⟩ := HE0.out d5
            subst d5 e1 e2
            clear h
            clear u0 u1 S2
            obtain ⟨ok4, h4⟩ := HS4.out.rd 0 rfl
            have HR4 := Aside0.mk (Kd.R_reads' h4).2
            have S4 := HS4.out
            have HB4 := Aside0.mk S4.below
            clear h4
            go_wp2_with (first
              | ((with_reducible refine gate_dst (N := 27) rfl ?_); refine Kd.R_lit KB (w0 := wc) wc.heap.size 5 ?hg (N := 27) ?hd (xs := ([] : List Int)) (inner := []) (ok := fun _ => True) (okp := fun _ => False) ?hr ?hp (fun _ hk => hk.elim) trivial (Below.refl _ _) (Nat.le_refl _) (by decide) ?_; (case hd => rfl); (case hg => rfl); (case hr => first | (go_simp; done) | (go_simp; rfl)); (case hp => exact Reps.none _ _); intro v5 w5 hr5 hb5 _ _)
              | ((with_reducible refine gate_dst (N := 29) rfl ?_); refine Kd.R_append_rows KB (Rr := KB.K w5) (w0 := wc) wc.heap.size (by rfl) (.tmp 27) (.tmp 28) 46 5 (.int .u8 0) 1 rfl Try.underlying46 infoB rfl (by decide) (by decide) v5 [] B Ab nB cb (fun _ => True) (fun _ => False) rfl rfl hr5 ?hc ?hk (fun _ hk => hk.elim) (fun _ _ => trivial) hb5 hb5.size ?hl ?_; (case hc => exact HNB.out ▸ Kd.C_below HR4.out.2 hb5); (case hk => intro x cs h; exact h); (case hl => have := HBL.out; have := HNB.out; simp; omega); intro v6 w6 hr6 hb6 _ _)
              | ((with_reducible refine gate_dst (N := 31) rfl ?_); refine Kd.R_append_rows KB (Rr := KB.K w6) (w0 := wc) wc.heap.size (by rfl) (.tmp 29) (.tmp 30) 46 5 (.int .u8 0) 1 rfl Try.underlying46 infoB rfl (by decide) (by decide) v6 ([] ++ B) l1 A1 n1 c1 (fun _ => True) (fun _ => False) rfl rfl hr6 ?hc ?hk (fun _ hk => hk.elim) (fun _ _ => trivial) hb6 hb6.size ?hl ?_; (case hc => exact HN1.out ▸ Kd.C_below HC1.out.1 (below_step HB4.out hb6)); (case hk => intro x cs h; exact h); (case hl => have := HBL.out; have := HN1.out; have := HL1.out; simp only [List.nil_append]; omega); intro v7 w7 hr7 hb7 _ _; simp only [List.nil_append] at hr7; obtain ⟨A7, c7, e7⟩ := Kd.R_slice hr7; obtain ⟨n7, hn7⟩ : ∃ x, (B ++ l1).length = x := ⟨_, rfl⟩; rw [hn7] at e7; subst e7; have HN7 := Aside0.mk hn7; have HR7 := Aside0.mk (Kd.R_reads' hr7).2; have HB7 := Aside0.mk (below_step HB4.out hb7); clear hr5 hb5 hr6 hb6 hr7 hb7 hn7 S4)
              | (go_at_call 27; refine (HN7.out ▸ codec_open w7 A7 c7 (B ++ l1) HR7.out.2 (Nat.le_trans (Nat.le_of_eq HN7.out) HR7.out.1)).mono ?_; rintro e w8 ⟨g, rfl, hs⟩; have S8 : St w7 (fun _ => False) w8 [RdP w7 94 g (B ++ l1, false)] := hs; clear hs)
              | (go_at_call 28; obtain ⟨F1, hA, hF1, up⟩ := S8.join2; refine (KRD.out w7 w8 S8.below F1 (fun i hi => (hF1 i hi).elim (fun f => f.elim) (fun x => x)) g hA).mono ?_; rintro e w9 ⟨v9, rfl, hs⟩; have S9 : St w7 (fun _ => False) w9 [RdP w7 94 g ([], true), Nw KO 33 v9 []] := up w9 _ hs; clear hA hF1 up hs S8; obtain ⟨F9, h9⟩ := S9.get 1 rfl; obtain ⟨A9, c9, e9⟩ := Kd.N_slice h9; subst e9; have HB9 := Aside0.mk (below_step HB7.out S9.below); clear h9)
              | (go_at_call 12; (with_reducible refine (KPL.out w9 HB9.out).mono ?_); rintro e w10 ⟨vp, rfl, hR, hb⟩; obtain ⟨Ap, cp, ep⟩ := Kd.R_slice hR; rw [HNP.out] at ep; subst ep; have S10 := S9.row hb hR; have HR10 := Aside0.mk (Kd.R_reads' hR).2; have HB10 := Aside0.mk (below_step HB9.out hb); clear hR hb S9)
              | (go_at_call 16; (with_reducible refine (KBK.out Ap cp w10 HR10.out.2 HR10.out.1).mono ?_); rintro e w11 ⟨rfl, hb⟩; have S11 : St w7 (fun _ => False) w11 [Rw KR 41 (.slice Ap np cp) pl, RdP w7 94 g ([], true), Nw KO 33 (.slice A9 ([] : List SO).length c9) []] := S10.call hb; have HB11 := Aside0.mk (below_step HB10.out hb); clear hb S10)
              | (first | (go_at_call 31; obtain ⟨F1, h1⟩ := S11.get 1 rfl; refine (codec_bad w7 w11 g _ F1 h1).mono ?_; rintro e w13 ⟨rfl, hb⟩; have S13 := S11.call hb; clear hb h1) | (go_at_call 10; refine (jobberlaw12_lives.calls true w13 rfl).mono ?_; rintro e w14 ⟨rfl, hb⟩; have S14 := S13.call hb; clear hb)))
            have HEND := Aside0.mk (below_step HB7.out S14.below)
            go_ret
            exact ⟨rfl, HEND.out⟩
          · rw [if_neg d5] at h; cases h
        | true =>
          have h := H.out
          rw [if_neg (by decide)] at h
          by_cases d5 : ok = true
          · rw [if_pos d5] at h
            subst d5
            by_cases d6 : sE.1.length = l1.length
            · rw [if_pos d6] at h
              obtain ⟨t, ht, h⟩ := Option.bind_eq_some_iff.mp h
              by_cases d7 : t = true
              · rw [if_pos d7] at h
                subst d7
                obtain rfl := Option.some.inj h
                have KSM : Aside0 (∀ (A : Option Addr) (c : Nat) (A2 : Option Addr) (c2 : Nat) (w' : World), Kd.C KO w' A lE.length lE → lE.length ≤ c → Kd.C KR w' A2 pl.length pl → np ≤ c2 → Calls Try.prog 14 #[.slice A lE.length c, .slice A2 np c2] w' fun e w'' => e = .returned (.bool true) ∧ Below w'.heap.size w' w'') := ⟨fun A c A2 c2 w' hC hc hC2 hc2 => (HNP.out ▸ jobberlaw12_Same.calls k A c lE A2 c2 pl true w' hC hc hC2 (Nat.le_trans (Nat.le_of_eq HNP.out) hc2) ht).mono (by rintro e w2 ⟨he, hd⟩; exact ⟨he, hd.below⟩)⟩
                have hbl : ((sE.1.length : Int) == (n1 : Int)) = true := by rw [beq_iff_eq, d6, HN1.out]
                clear h d6
                clear u0 u1 S2
                obtain ⟨ok4, h4⟩ := HS4.out.rd 0 rfl
                have HR4 := Aside0.mk (Kd.R_reads' h4).2
                have S4 := HS4.out
                have HB4 := Aside0.mk S4.below
                clear h4
                go_wp2_with (first
                  | ((with_reducible refine gate_dst (N := 27) rfl ?_); refine Kd.R_lit KB (w0 := wc) wc.heap.size 5 ?hg (N := 27) ?hd (xs := ([] : List Int)) (inner := []) (ok := fun _ => True) (okp := fun _ => False) ?hr ?hp (fun _ hk => hk.elim) trivial (Below.refl _ _) (Nat.le_refl _) (by decide) ?_; (case hd => rfl); (case hg => rfl); (case hr => first | (go_simp; done) | (go_simp; rfl)); (case hp => exact Reps.none _ _); intro v5 w5 hr5 hb5 _ _)
                  | ((with_reducible refine gate_dst (N := 29) rfl ?_); refine Kd.R_append_rows KB (Rr := KB.K w5) (w0 := wc) wc.heap.size (by rfl) (.tmp 27) (.tmp 28) 46 5 (.int .u8 0) 1 rfl Try.underlying46 infoB rfl (by decide) (by decide) v5 [] B Ab nB cb (fun _ => True) (fun _ => False) rfl rfl hr5 ?hc ?hk (fun _ hk => hk.elim) (fun _ _ => trivial) hb5 hb5.size ?hl ?_; (case hc => exact HNB.out ▸ Kd.C_below HR4.out.2 hb5); (case hk => intro x cs h; exact h); (case hl => have := HBL.out; have := HNB.out; simp; omega); intro v6 w6 hr6 hb6 _ _)
                  | ((with_reducible refine gate_dst (N := 31) rfl ?_); refine Kd.R_append_rows KB (Rr := KB.K w6) (w0 := wc) wc.heap.size (by rfl) (.tmp 29) (.tmp 30) 46 5 (.int .u8 0) 1 rfl Try.underlying46 infoB rfl (by decide) (by decide) v6 ([] ++ B) l1 A1 n1 c1 (fun _ => True) (fun _ => False) rfl rfl hr6 ?hc ?hk (fun _ hk => hk.elim) (fun _ _ => trivial) hb6 hb6.size ?hl ?_; (case hc => exact HN1.out ▸ Kd.C_below HC1.out.1 (below_step HB4.out hb6)); (case hk => intro x cs h; exact h); (case hl => have := HBL.out; have := HN1.out; have := HL1.out; simp only [List.nil_append]; omega); intro v7 w7 hr7 hb7 _ _; simp only [List.nil_append] at hr7; obtain ⟨A7, c7, e7⟩ := Kd.R_slice hr7; obtain ⟨n7, hn7⟩ : ∃ x, (B ++ l1).length = x := ⟨_, rfl⟩; rw [hn7] at e7; subst e7; have HN7 := Aside0.mk hn7; have HR7 := Aside0.mk (Kd.R_reads' hr7).2; have HB7 := Aside0.mk (below_step HB4.out hb7); clear hr5 hb5 hr6 hb6 hr7 hb7 hn7 S4)
                  | (go_at_call 27; refine (HN7.out ▸ codec_open w7 A7 c7 (B ++ l1) HR7.out.2 (Nat.le_trans (Nat.le_of_eq HN7.out) HR7.out.1)).mono ?_; rintro e w8 ⟨g, rfl, hs⟩; have S8 : St w7 (fun _ => False) w8 [RdP w7 94 g (B ++ l1, false)] := hs; clear hs)
                  | (go_at_call 28; obtain ⟨F1, hA, hF1, up⟩ := S8.join2; refine (KRD.out w7 w8 S8.below F1 (fun i hi => (hF1 i hi).elim (fun f => f.elim) (fun x => x)) g hA).mono ?_; rintro e w9 ⟨v9, rfl, hs⟩; have S9 : St w7 (fun _ => False) w9 [RdP w7 94 g sE, Nw KO 33 v9 lE] := up w9 _ hs; clear hA hF1 up hs S8; obtain ⟨F9, h9⟩ := S9.get 1 rfl; obtain ⟨A9, c9, e9⟩ := Kd.N_slice h9; subst e9; have HB9 := Aside0.mk (below_step HB7.out S9.below); clear h9)
                  | (go_at_call 12; (with_reducible refine (KPL.out w9 HB9.out).mono ?_); rintro e w10 ⟨vp, rfl, hR, hb⟩; obtain ⟨Ap, cp, ep⟩ := Kd.R_slice hR; rw [HNP.out] at ep; subst ep; have S10 := S9.row hb hR; have HR10 := Aside0.mk (Kd.R_reads' hR).2; have HB10 := Aside0.mk (below_step HB9.out hb); clear hR hb S9)
                  | (go_at_call 16; (with_reducible refine (KBK.out Ap cp w10 HR10.out.2 HR10.out.1).mono ?_); rintro e w11 ⟨rfl, hb⟩; have S11 : St w7 (fun _ => False) w11 [Rw KR 41 (.slice Ap np cp) pl, RdP w7 94 g sE, Nw KO 33 (.slice A9 lE.length c9) lE] := S10.call hb; have HB11 := Aside0.mk (below_step HB10.out hb); clear hb S10)
                  | (first | (go_at_call 12; (with_reducible refine (KPL.out w11 HB11.out).mono ?_); rintro e w12 ⟨vq, rfl, hR, hb⟩; obtain ⟨Aq, cq, eq⟩ := Kd.R_slice hR; rw [HNP.out] at eq; subst eq; have S12 := S11.row hb hR; have HR12 := Aside0.mk (Kd.R_reads' hR).2; clear hR hb) | (go_at_call 14; have n9 := S12.nrd 3 rfl; refine (KSM.out A9 c9 Aq cq w12 n9.2.2 n9.2.1 HR12.out.2 HR12.out.1).mono ?_; rintro e w13 ⟨rfl, hb⟩; have S13 := S12.call hb; clear hb n9) | (go_at_call 30; obtain ⟨F1, h1⟩ := S13.get 2 rfl; refine (codec_left w7 w13 g _ F1 h1).mono ?_; rintro e w15 ⟨rfl, hb⟩; have S15 := S13.call hb; clear hb h1) | (go_at_call 10; refine (jobberlaw12_lives.calls true w15 rfl).mono ?_; rintro e w14 ⟨rfl, hb⟩; have S14 := S15.call hb; clear hb)))
                have HEND := Aside0.mk (below_step HB7.out S14.below)
                go_ret
                exact ⟨rfl, HEND.out⟩
              · rw [if_neg d7] at h; cases h
            · rw [if_neg d6] at h; cases h
          · rw [if_neg d5] at h; cases h
    · rw [if_neg d4] at h; cases h
  · rw [if_neg d3] at h; cases h

end Go.Proofs.Ytlihfiajbhpokaa.Orc
