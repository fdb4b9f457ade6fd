/- Printed by this session's wip/drive.py over the translation; some functions by hand. -/
import Derived.Test.YtlihfiajbhpokaaOrbx0
import Derived.Test.YtlihfiajbhpokaaOrbx5
import Derived.Test.YtlihfiajbhpokaaOrbx6
import Derived.Test.YtlihfiajbhpokaaOrbx10
namespace Go.Proofs.Ytlihfiajbhpokaa.Orb
open Go.RowKit Go.Proofs.YtlihfiajbhpokaaW.PrintWords Go.Proofs.YtlihfiajbhpokaaW.PrintLast Go.Proofs.YtlihfiajbhpokaaW.PrintMore
attribute [local go_sem] max2_int min2_int max_two min_two max_three min_three max_four min_four   -- for this text's walks alone
set_option linter.unusedVariables false
set_option linter.unusedSimpArgs false

/-! ### jobberlaw12_OrderReads: function 6 (by hand) -/
/-! ### SL: what a call's own memory holds, part by part, each with the blocks that it lies in -/
/-- From w to w' only the blocks of F have turned, and new ones have come. -/
structure Fr (F : Nat → Prop) (w w' : World) : Prop where
  os : w'.os = w.os
  tape : w'.tape = w.tape
  output : w'.output = w.output
  size : w.heap.size ≤ w'.heap.size
  block : ∀ k, k < w.heap.size → ¬ F k → w'.heap[k]? = w.heap[k]?
theorem Fr.refl (F : Nat → Prop) (w : World) : Fr F w w := ⟨rfl, rfl, rfl, Nat.le_refl _, fun _ _ _ => rfl⟩
theorem Fr.trans {F F' : Nat → Prop} {w w1 w2 : World} (h : Fr F w w1) (k : Fr F' w1 w2) (hF : ∀ i, F' i → F i ∨ w.heap.size ≤ i) : Fr F w w2 :=
  ⟨k.os.trans h.os, k.tape.trans h.tape, k.output.trans h.output, Nat.le_trans h.size k.size, fun i hi hn => (k.block i (Nat.lt_of_lt_of_le hi h.size) (fun hf => (hF i hf).elim hn (fun hh => absurd hi (Nat.not_lt.2 hh)))).trans (h.block i hi hn)⟩
theorem Fr.of_below {F : Nat → Prop} {w w' : World} (h : Below w.heap.size w w') : Fr F w w' := ⟨h.os, h.tape, h.output, h.size, fun k hk _ => h.block k hk⟩
theorem Fr.below {w w' : World} (h : Fr (fun _ => False) w w') : Below w.heap.size w w' := ⟨h.os, h.tape, h.output, h.size, fun k hk => h.block k hk (fun f => f)⟩
theorem Fr.mono {F F' : Nat → Prop} {w w' : World} (h : Fr F w w') (hF : ∀ k, F k → F' k) : Fr F' w w' := ⟨h.os, h.tape, h.output, h.size, fun k hk hn => h.block k hk (fun hf => hn (hF k hf))⟩
theorem Fr.set {F : Nat → Prop} {w w1 : World} (h : Fr F w w1) {p : Addr} (hg : F p.block ∨ w.heap.size ≤ p.block) (u : Value) : Fr F w (w1.setCell p u) :=
  ⟨h.os, h.tape, h.output, by simpa [World.setCell] using h.size, fun k hk hn => (Below.heap_setCell w1 p u k (fun e => by rcases hg with hg | hg; exact hn (e ▸ hg); omega)).trans (h.block k hk hn)⟩
/-- A part of memory: it holds of a world and of the blocks that it lies in. -/
abbrev Part := World → (Nat → Prop) → Prop
structure Loc (A : Part) : Prop where
  step : ∀ {w w' : World} {F : Nat → Prop}, A w F → w.heap.size ≤ w'.heap.size → (∀ k, F k → k < w.heap.size → w'.heap[k]? = w.heap[k]?) → A w' F
  bound : ∀ {w : World} {F : Nat → Prop}, A w F → A w (fun k => F k ∧ k < w.heap.size)
  mono : ∀ {w : World} {F F' : Nat → Prop}, A w F → (∀ k, F k → F' k) → A w F'
def Stars : List Part → (Nat → Prop) → World → Prop
  | [], _, _ => True
  | A :: l, G, w => ∃ F : Nat → Prop, (∀ k, F k → G k) ∧ Loc A ∧ A w F ∧ Stars l (fun k => G k ∧ ¬ F k) w
theorem Stars.mono : ∀ {l : List Part} {G G' : Nat → Prop} {w : World}, Stars l G w → (∀ k, G k → G' k) → Stars l G' w
  | [], _, _, _, _, _ => trivial
  | _ :: _, _, _, _, ⟨F, h1, h2, h3, h4⟩, h => ⟨F, fun k hk => h k (h1 k hk), h2, h3, Stars.mono h4 (fun k hk => ⟨h k hk.1, hk.2⟩)⟩
theorem Stars.step : ∀ {l : List Part} {G : Nat → Prop} {w w' : World}, Stars l G w → w.heap.size ≤ w'.heap.size → (∀ k, G k → k < w.heap.size → w'.heap[k]? = w.heap[k]?) → Stars l G w'
  | [], _, _, _, _, _, _ => trivial
  | _ :: _, _, _, _, ⟨F, h1, h2, h3, h4⟩, hs, h => ⟨F, h1, h2, h2.step h3 hs (fun k hk hl => h k (h1 k hk) hl), Stars.step h4 hs (fun k hk hl => h k hk.1 hl)⟩
theorem Stars.bound : ∀ {l : List Part} {G : Nat → Prop} {w : World}, Stars l G w → Stars l (fun k => G k ∧ k < w.heap.size) w
  | [], _, _, _ => trivial
  | _ :: _, _, _, ⟨F, h1, h2, h3, h4⟩ => ⟨fun k => F k ∧ k < _, fun k hk => ⟨h1 k hk.1, hk.2⟩, h2, h2.bound h3, Stars.mono (Stars.bound h4) (fun k hk => ⟨⟨hk.1.1, hk.2⟩, fun hf => hk.1.2 hf.1⟩)⟩
theorem Stars.swap {A B : Part} {l : List Part} {G : Nat → Prop} {w : World} : Stars (A :: B :: l) G w → Stars (B :: A :: l) G w := by
  rintro ⟨F, h1, h2, h3, F', k1, k2, k3, k4⟩
  exact ⟨F', fun k hk => (k1 k hk).1, k2, k3, F, fun k hk => ⟨h1 k hk, fun hf => (k1 k hf).2 hk⟩, h2, h3, k4.mono (fun k hk => ⟨⟨hk.1.1, hk.2⟩, hk.1.2⟩)⟩
theorem Stars.front : ∀ (i : Nat) {l : List Part} {A : Part} {G : Nat → Prop} {w : World}, Stars l G w → l[i]? = some A → Stars (A :: l.eraseIdx i) G w
  | 0, _ :: _, _, _, _, h, e => by cases e; exact h
  | i + 1, B :: l, A, G, w, ⟨F, h1, h2, h3, h4⟩, e => by
    have := Stars.front i h4 (by simpa using e)
    exact Stars.swap ⟨F, h1, h2, h3, this⟩
theorem Stars.loc : ∀ {l : List Part}, Loc (fun w F => Stars l F w)
  | [] => ⟨fun _ _ _ => trivial, fun _ => trivial, fun _ _ => trivial⟩
  | _ :: _ => ⟨fun h hs hh => Stars.step h hs hh, fun h => Stars.bound h, fun h hh => Stars.mono h hh⟩
/-- Behind W, in a call that may turn the blocks of F0: the parts of l, apart from one another. -/
structure St (W : World) (F0 : Nat → Prop) (w : World) (l : List Part) : Prop where
  fr : Fr F0 W w
  st : Stars l (fun k => F0 k ∨ W.heap.size ≤ k) w
section
variable {W w w' : World} {F0 : Nat → Prop} {l : List Part} {A B : Part}
theorem St.start (W : World) (F0 : Nat → Prop) : St W F0 W [] := ⟨Fr.refl _ _, trivial⟩
theorem St.start1 (hl : Loc A) (h : A W F0) : St W F0 W [A] := ⟨Fr.refl _ _, F0, fun _ hk => .inl hk, hl, h, trivial⟩
theorem St.call (h : St W F0 w l) (hb : Below w.heap.size w w') : St W F0 w' l := ⟨h.fr.trans (Fr.of_below (F := fun _ => False) hb) (fun _ hk => hk.elim), h.st.step hb.size (fun k _ hl => hb.block k hl)⟩
theorem St.drew (h : St W F0 w l) (n : Nat) : St W F0 (w.drewN n) l := h.call (pw_below_drewN (Below.refl _ _) n)
theorem St.drew1 (h : St W F0 w l) : St W F0 w.drew l := h.call (below_drew (Below.refl _ _))
/-- A call that makes memory of its own. -/
theorem St.new (h : St W F0 w l) (hb : Below w.heap.size w w') (hl : Loc A) (ha : A w' (fun k => w.heap.size ≤ k)) : St W F0 w' (A :: l) := by
  have h' := h.call hb
  refine ⟨h'.fr, fun k => w.heap.size ≤ k, fun k hk => .inr (Nat.le_trans h.fr.size hk), hl, ha, ?_⟩
  have hs := h.st.bound.step hb.size (fun k hk hl => hb.block k hl)
  exact hs.mono (fun k hk => ⟨hk.1, by omega⟩)
theorem St.front (h : St W F0 w l) (i : Nat) (e : l[i]? = some A) : St W F0 w (A :: l.eraseIdx i) := ⟨h.fr, h.st.front i e⟩
theorem St.perm2 (h : St W F0 w (A :: B :: l)) : St W F0 w (B :: A :: l) := ⟨h.fr, h.st.swap⟩
theorem St.drop (h : St W F0 w (A :: l)) : St W F0 w l := by
  obtain ⟨h0, F, h1, h2, h3, h4⟩ := h
  exact ⟨h0, h4.mono (fun k hk => hk.1)⟩
theorem St.imp {A' : Part} (h : St W F0 w (A :: l)) (hl : Loc A') (hi : ∀ F, A w F → A' w F) : St W F0 w (A' :: l) := by
  obtain ⟨h0, F, h1, h2, h3, h4⟩ := h
  exact ⟨h0, F, h1, hl, hi F h3, h4⟩
theorem St.get (h : St W F0 w l) (i : Nat) (e : l[i]? = some A) : ∃ F, A w F := by
  obtain ⟨h0, F, h1, h2, h3, h4⟩ := h.front i e
  exact ⟨F, h3⟩
/-- The first part is turned, by a call that turns nothing else. -/
theorem St.upd (h : St W F0 w (A :: l)) : ∃ F, A w F ∧ (∀ k, F k → k < w.heap.size ∧ (F0 k ∨ W.heap.size ≤ k)) ∧ ∀ (w' : World) (A' : Part) (F' : Nat → Prop), Fr F w w' → (∀ k, F' k → F k ∨ w.heap.size ≤ k) → Loc A' → A' w' F' → St W F0 w' (A' :: l) := by
  obtain ⟨h0, hst⟩ := h
  obtain ⟨F, h1, h2, h3, h4⟩ := hst.bound
  refine ⟨F, h3, fun k hk => ⟨(h1 k hk).2, (h1 k hk).1⟩, fun w' A' F' hf hF' hl ha => ?_⟩
  refine ⟨h0.trans hf (fun k hk => (h1 k hk).1), F', fun k hk => ?_, hl, ha, ?_⟩
  · rcases hF' k hk with h | h
    · exact (h1 k h).1
    · exact .inr (Nat.le_trans h0.size h)
  · exact (h4.step hf.size (fun k hk hl => hf.block k hl hk.2)).mono (fun k hk => ⟨hk.1.1, fun hh => by rcases hF' k hh with h | h; exact hk.2 h; have := hk.1.2; omega⟩)
theorem St.end_ (h : St W F0 w (A :: l)) : Fr F0 W w ∧ ∃ F', (∀ k, F' k → F0 k ∨ W.heap.size ≤ k) ∧ A w F' := by
  obtain ⟨h0, F, h1, h2, h3, h4⟩ := h
  exact ⟨h0, F, h1, h3⟩
theorem St.below (h : St W (fun _ => False) w l) : Below W.heap.size W w := h.fr.below
/-- Two parts as one. -/
theorem St.merge (h : St W F0 w (A :: B :: l)) : St W F0 w ((fun w F => Stars [A, B] F w) :: l) := by
  obtain ⟨h0, F, h1, h2, h3, F', k1, k2, k3, k4⟩ := h
  exact ⟨h0, fun k => F k ∨ F' k, fun k hk => hk.elim (h1 k) (fun h => (k1 k h).1), Stars.loc, ⟨F, fun k hk => .inl hk, h2, h3, F', fun k hk => ⟨.inr hk, (k1 k hk).2⟩, k2, k3, trivial⟩, k4.mono (fun k hk => ⟨hk.1.1, fun hh => hh.elim hk.1.2 hk.2⟩)⟩
theorem St.split (h : St W F0 w ((fun w F => Stars [A, B] F w) :: l)) : St W F0 w (A :: B :: l) := by
  obtain ⟨h0, G, h1, h2, ⟨F, k1, k2, k3, F', j1, j2, j3, _⟩, h4⟩ := h
  exact ⟨h0, F, fun k hk => h1 k (k1 k hk), k2, k3, F', fun k hk => ⟨h1 k (j1 k hk).1, (j1 k hk).2⟩, j2, j3, h4.mono (fun k hk => ⟨⟨hk.1, fun hf => hk.2 (k1 k hf)⟩, fun hf => hk.2 (j1 k hf).1⟩)⟩
end
/-- One block of cells. -/
def Pt (g : Nat) (cs : Array Value) (t : TypeId) : Part := fun w F => F g ∧ w.heap[g]? = some (.cells cs t (0, 0))
theorem Pt.loc {g : Nat} {cs : Array Value} {t : TypeId} : Loc (Pt g cs t) :=
  ⟨fun h _ hh => ⟨h.1, (hh g h.1 (blk_lt h.2)).trans h.2⟩, fun h => ⟨⟨h.1, blk_lt h.2⟩, h.2⟩, fun h hh => ⟨hh g h.1, h.2⟩⟩
/-- A row of elements of the call's own. -/
def Rw {α : Type} (d : Kd α) (e : Nat) (v : Value) (xs : List α) : Part := fun w F => d.R e w 0 F v xs
theorem Rw.loc {α : Type} {d : Kd α} {e : Nat} {v : Value} {xs : List α} : Loc (Rw d e v xs) :=
  ⟨fun h _ hh => Kd.R_step h hh, fun h => Kd.R_mono (Kd.R_bound h) (fun _ hk => ⟨hk.1, hk.2.2.1⟩), fun h hh => Kd.R_mono h hh⟩
/-- Whatever holds as long as the blocks of F stay. -/
def Sem (P : World → Prop) : Part := fun w F => ∀ w' : World, w.heap.size ≤ w'.heap.size → (∀ k, F k → k < w.heap.size → w'.heap[k]? = w.heap[k]?) → P w'
theorem Sem.loc {P : World → Prop} : Loc (Sem P) :=
  ⟨fun h hs hh w' hs' h' => h w' (Nat.le_trans hs hs') (fun k hk hl => (h' k hk (Nat.lt_of_lt_of_le hl hs)).trans (hh k hk hl)), fun h w' hs h' => h w' hs (fun k hk hl => h' k ⟨hk, hl⟩ hl), fun h hh w' hs h' => h w' hs (fun k hk hl => h' k (hh k hk) hl)⟩
theorem Sem.now {P : World → Prop} {w : World} {F : Nat → Prop} (h : Sem P w F) : P w := h w (Nat.le_refl _) (fun _ _ _ => rfl)
section
variable {W w w' : World} {F0 : Nat → Prop} {l : List Part} {g g' : Nat} {cs cs' : Array Value} {t t' : TypeId}
theorem St.box (h : St W F0 w l) (e : g = w.heap.size) (hb : Below w.heap.size w w') (hg : w'.heap[g]? = some (.cells cs t (0, 0))) : St W F0 w' (Pt g cs t :: l) := h.new hb Pt.loc ⟨Nat.le_of_eq e.symm, hg⟩
theorem St.row {α : Type} {d : Kd α} {e : Nat} {v : Value} {xs : List α} {ok : Nat → Prop} (h : St W F0 w l) (hb : Below w.heap.size w w') (hr : d.R e w' w.heap.size ok v xs) : St W F0 w' (Rw d e v xs :: l) := h.new hb Rw.loc (Kd.R_lower (Kd.R_mono (Kd.R_bound hr) (fun _ hk => hk.2.1)) (Nat.zero_le _))
theorem St.put (h : St W F0 w (Pt g cs t :: l)) (i : Nat) (u : Value) (e : cs.setIfInBounds i u = cs') : St W F0 (w.setCell ⟨g, i, none⟩ u) (Pt g cs' t :: l) := by
  obtain ⟨F, hA, hF, hu⟩ := h.upd
  refine hu _ _ F (Fr.set (Fr.refl _ _) (.inl hA.1) u) (fun k hk => .inl hk) Pt.loc ⟨hA.1, blk_put hA.2 i u e⟩
theorem St.blk (h : St W F0 w l) (i : Nat) (e : l[i]? = some (Pt g cs t)) : w.heap[g]? = some (.cells cs t (0, 0)) := by
  obtain ⟨F, h1⟩ := h.get i e
  exact h1.2
theorem St.rd {α : Type} {d : Kd α} {q : Nat} {v : Value} {xs : List α} (h : St W F0 w l) (i : Nat) (e : l[i]? = some (Rw d q v xs)) : ∃ ok, d.R q w 0 ok v xs := h.get i e
theorem St.ne (h : St W F0 w l) (i j : Nat) (hi : l[i]? = some (Pt g cs t)) (hj : l[j]? = some (Pt g' cs' t')) (hij : i ≠ j) : g ≠ g' := by
  obtain ⟨h0, F, h1, h2, h3, h4⟩ := h.front i hi
  have hj' : (l.eraseIdx i)[if j < i then j else j - 1]? = some (Pt g' cs' t') := by
    rw [List.getElem?_eraseIdx]
    by_cases c : j < i
    · rw [if_pos c, if_pos c]; exact hj
    · rw [if_neg c, if_neg (by omega), show j - 1 + 1 = j by omega]; exact hj
  obtain ⟨F', k1, k2, k3, k4⟩ := h4.front _ hj'
  rintro rfl
  exact (k1 g k3.1).2 h3.1
end
theorem Calls.named {P : Program} {f : FuncId} {args : Array Value} {w : World} {R : Ending → World → Prop} (h : ∀ w', w' = w → Calls P f args w' R) : Calls P f args w R := h _ rfl
theorem wl_named {P : Program} {ops : Array Oper} {Q : Exit → Act → World → Prop} {l : List Oper} {a : Act} {w : World} (h : ∀ w', w' = w → wpList P ops Q l a w') : wpList P ops Q l a w := h _ rfl
theorem wp_named {P : Program} {c : Code} {Q : Exit → Act → World → Prop} {a : Act} {w : World} (h : ∀ w', w' = w → c.wp P Q a w') : c.wp P Q a w := h _ rfl
theorem St.alloc {W w : World} {F0 : Nat → Prop} {l : List Part} {cs : Array Value} {t : TypeId} (h : St W F0 w l) : St W F0 (w.alloc (.cells cs t)) (Pt w.heap.size cs t :: l) := h.box rfl (below_alloc (Below.refl _ _) _) (blk_new w _)
theorem Stars.append : ∀ {l l' : List Part} {G G' : Nat → Prop} {w : World}, Stars l G w → Stars l' G' w → (∀ k, G k → ¬ G' k) → Stars (l ++ l') (fun k => G k ∨ G' k) w
  | [], _, _, _, _, _, h', _ => h'.mono (fun _ hk => .inr hk)
  | _ :: _, _, _, _, _, ⟨F, h1, h2, h3, h4⟩, h', hd => ⟨F, fun k hk => .inl (h1 k hk), h2, h3, (Stars.append h4 h' (fun k hk => hd k hk.1)).mono (fun k hk => hk.elim (fun h => ⟨.inl h.1, h.2⟩) (fun h => ⟨.inr h, fun hf => hd k (h1 k hf) h⟩))⟩
theorem Stars.take : ∀ (n : Nat) {l : List Part} {G : Nat → Prop} {w : World}, Stars l G w → Stars (l.take n) G w
  | 0, _, _, _, _ => trivial
  | _ + 1, [], _, _, _ => trivial
  | n + 1, _ :: _, _, _, ⟨F, h1, h2, h3, h4⟩ => ⟨F, h1, h2, h3, Stars.take n h4⟩
section
variable {W w w' : World} {F0 : Nat → Prop} {l l' : List Part} {A B : Part}
theorem St.take (h : St W F0 w l) (n : Nat) : St W F0 w (l.take n) := ⟨h.fr, h.st.take n⟩
/-- Behind a call that makes the parts of l', and turns nothing. -/
theorem St.join0 (h : St W F0 w l) (k : St w (fun _ => False) w' l') : St W F0 w' (l' ++ l) := by
  have hb := k.below
  refine ⟨(h.call hb).fr, ?_⟩
  have h1 := k.st.mono (G' := fun i => w.heap.size ≤ i) (fun i hi => hi.elim (fun f => f.elim) (fun x => x))
  have h2 := h.st.bound.step hb.size (fun i _ hl => hb.block i hl)
  exact (Stars.append h1 h2 (fun i hi hi' => by have := hi'.2; omega)).mono (fun i hi => hi.elim (fun h3 => .inr (Nat.le_trans h.fr.size h3)) (fun h3 => h3.1))
/-- Behind a call that turns the first part alone. -/
theorem St.join (h : St W F0 w (A :: l)) : ∃ F, A w F ∧ (∀ k, F k → k < w.heap.size) ∧ ∀ (w' : World) (l' : List Part), St w F w' l' → St W F0 w' (l' ++ l) := by
  obtain ⟨h0, hst⟩ := h
  obtain ⟨F, h1, h2, h3, h4⟩ := hst.bound
  refine ⟨F, h3, fun k hk => (h1 k hk).2, fun w' l' k => ?_⟩
  refine ⟨h0.trans k.fr (fun i hi => (h1 i hi).1), ?_⟩
  have h5 := h4.step k.fr.size (fun i hi hl => k.fr.block i hl hi.2)
  exact (Stars.append k.st h5 (fun i hi hi' => hi.elim hi'.2 (fun hh => by have := hi'.1.2; omega))).mono (fun i hi => hi.elim (fun hh => hh.elim (fun hf => (h1 i hf).1) (fun hs => .inr (Nat.le_trans h0.size hs))) (fun hh => hh.1.1))
theorem St.mono0 (h : St W F0 w l) {F1 : Nat → Prop} (hF : ∀ k, F0 k → F1 k) : St W F1 w l := ⟨h.fr.mono hF, h.st.mono (fun k hk => hk.imp (hF k) (fun x => x))⟩
end
/-- A row that is read, wherever it lies. -/
def Vw {α : Type} (d : Kd α) (A : Option Addr) (n : Nat) (xs : List α) : Part := fun w F => Kd.F d w F A n xs
theorem Vw.loc {α : Type} {d : Kd α} {A : Option Addr} {n : Nat} {xs : List α} : Loc (Vw d A n xs) := ⟨fun h _ hh => Kd.F_step h hh, fun h => Kd.F_bound h, fun h hh => Kd.F_mono h hh⟩
theorem St.vw {W w : World} {F0 : Nat → Prop} {l : List Part} {α : Type} {d : Kd α} {A : Option Addr} {n : Nat} {xs : List α} (h : St W F0 w l) (i : Nat) (e : l[i]? = some (Vw d A n xs)) : d.C w A n xs := by
  obtain ⟨F, h1⟩ := h.get i e
  exact Kd.F_now h1
theorem results_tct {P : Program} {fn : Func} {p u v : Tmp} {ty : TypeId} (h : fn.results = #[.tmp u, .cell p ty, .tmp v]) (tmps : Array Value) (w : World) (g : Nat) (t : TypeId) (cs : Array Value) (fr : Nat × Nat) (d : TypeDesc)
    (hp : tmps.getD p undef = .pointer (some ⟨g, 0, none⟩)) (hg : w.heap[g]? = some (.cells cs t fr))
    (hu : P.underlying ty = some d) (hd : (match d with | .struct _ | .array _ _ => true | _ => false) = true) (hi : (P.info? ty).map (·.size) = some cs.size) :
    (results fn tmps).run P w = .ok (.tuple #[tmps.getD u undef, .agg cs, tmps.getD v undef]) w := by
  have hp' : tmps[p]?.getD undef = .pointer (some ⟨g, 0, none⟩) := by simpa using hp
  simp [results, h, hp', asAddr, run_loadVar_row w g t ty cs fr d hg hu hd hi]
/-- A call that reads a row of the call's own, and hands back what shares memory with it. -/
theorem St.shared {W w : World} {F0 : Nat → Prop} {l : List Part} {α : Type} {d : Kd α} {e : Nat} {v : Value} {xs : List α} (h : St W F0 w (Rw d e v xs :: l)) : ∃ ok, d.R e w 0 ok v xs ∧ ∀ (w' : World) (B : Part), Below w.heap.size w w' → Loc B → B w' (fun k => ok k ∨ w.heap.size ≤ k) → St W F0 w' (B :: l) := by
  obtain ⟨F, hA, _, hu⟩ := h.upd
  exact ⟨F, hA, fun w' B hb hl hB => hu w' B _ (Fr.of_below hb) (fun k hk => hk) hl hB⟩
theorem St.sharedV {W w : World} {F0 : Nat → Prop} {l : List Part} {α : Type} {d : Kd α} {A : Option Addr} {n : Nat} {xs : List α} (h : St W F0 w (Vw d A n xs :: l)) : ∃ ok, d.F w ok A n xs ∧ ∀ (w' : World) (B : Part), Below w.heap.size w w' → Loc B → B w' (fun k => ok k ∨ w.heap.size ≤ k) → St W F0 w' (B :: l) := by
  obtain ⟨F, hA, _, hu⟩ := h.upd
  exact ⟨F, hA, fun w' B hb hl hB => hu w' B _ (Fr.of_below hb) (fun k hk => hk) hl hB⟩
/-- A row of the call's own, whose elements may share what they lead to. -/
def Nw {α : Type} (d : Kd α) (e : Nat) (v : Value) (xs : List α) : Part := fun w F => Kd.N d e w 0 F v xs
theorem Nw.loc {α : Type} {d : Kd α} {e : Nat} {v : Value} {xs : List α} : Loc (Nw d e v xs) := ⟨fun h _ hh => Kd.N_step h hh, fun h => Kd.N_bound h, fun h hh => Kd.N_mono h hh⟩
theorem Fr.of_grown {F : Nat → Prop} {w w' : World} {row : Option Nat} (h : w.grownBy w' row) (hr : ∀ k, row = some k → F k) : Fr F w w' := ⟨h.os, h.tape, h.output, h.size, fun k hk hn => h.block k hk (fun e => hn (hr k e.symm))⟩
section
variable {W w : World} {F0 : Nat → Prop} {l : List Part} {α : Type} {d : Kd α} {e n : Nat} {v : Value} {A : Option Addr} {xs ys : List α}
theorem St.rw_nw (h : St W F0 w (Rw d e v xs :: l)) : St W F0 w (Nw d e v xs :: l) := h.imp Nw.loc (fun _ hh => Kd.R_N hh)
theorem St.nw_vw {c : Nat} (h : St W F0 w (Nw d e (.slice A n c) xs :: l)) : St W F0 w (Vw d A n xs :: l) := h.imp Vw.loc (fun _ hh => Kd.N_F hh)
theorem St.rw_vw {c : Nat} (h : St W F0 w (Rw d e (.slice A n c) xs :: l)) : St W F0 w (Vw d A n xs :: l) := h.imp Vw.loc (fun _ hh => Kd.N_F (Kd.R_N hh))
theorem St.nrd (h : St W F0 w l) (i : Nat) {c : Nat} (q : l[i]? = some (Nw d e (.slice A n c) xs)) : n = xs.length ∧ n ≤ c ∧ d.C w A xs.length xs := by
  obtain ⟨F, h1⟩ := h.get i q
  exact Kd.N_reads' h1
/-- append(v, ys...): what the law for rows asks, and what it leaves. -/
theorem St.append_rows (h : St W F0 w (Nw d e v xs :: Vw d A n ys :: l)) : ∃ ok okp : Nat → Prop, Kd.N d e w 0 ok v xs ∧ Kd.F d w okp A n ys ∧ (∀ k, okp k → ok k ∧ some k ≠ v.ownBlock) ∧ (∀ k, w.heap.size ≤ k → ok k) ∧
    ∀ v1 w1, Kd.N d e w1 0 ok v1 (xs ++ ys) → w.grownBy w1 v.ownBlock → St W F0 w1 (Nw d e v1 (xs ++ ys) :: l) := by
  obtain ⟨h0, hst⟩ := h
  obtain ⟨F1, a1, _, a3, F2, b1, _, b3, hl⟩ := hst.bound
  refine ⟨fun k => F1 k ∨ F2 k ∨ w.heap.size ≤ k, F2, Kd.N_mono a3 (fun k hk => .inl hk), b3, fun k hk => ⟨.inr (.inl hk), fun q => (b1 k hk).2 (a3.1 k q.symm)⟩, fun k hk => .inr (.inr hk), fun v1 w1 hN hg => ?_⟩
  have hf : Fr F1 w w1 := Fr.of_grown hg (fun k hk => a3.1 k hk)
  refine ⟨h0.trans hf (fun k hk => (a1 k hk).1), _, fun k hk => ?_, Nw.loc, hN, ?_⟩
  · rcases hk with hk | hk | hk
    · exact (a1 k hk).1
    · exact (b1 k hk).1.1
    · exact .inr (Nat.le_trans h0.size hk)
  · exact (hl.step hf.size (fun k hk hlt => hf.block k hlt hk.1.2)).mono (fun k hk => ⟨hk.1.1.1, fun q => q.elim hk.1.2 (fun q => q.elim hk.2 (fun q => by have := hk.1.1.2; omega))⟩)
/-- append(v, p) of one element whose cells lie in a block just made (it is the first part). -/
theorem St.append_one (h : St W F0 w (Nw d e v xs :: l)) {p : α} {cs : List Value} {okq : Nat → Prop} (hp : Kd.FK d w okq p cs) (hq : ∀ k, ¬ okq k) : ∃ ok okp : Nat → Prop, Kd.N d e w 0 ok v xs ∧ Kd.FK d w okp p cs ∧ (∀ k, okp k → ok k ∧ some k ≠ v.ownBlock) ∧ (∀ k, w.heap.size ≤ k → ok k) ∧
    ∀ v1 w1, Kd.N d e w1 0 ok v1 (xs ++ [p]) → w.grownBy w1 v.ownBlock → St W F0 w1 (Nw d e v1 (xs ++ [p]) :: l) := by
  obtain ⟨h0, hst⟩ := h
  obtain ⟨F1, a1, _, a3, hl⟩ := hst.bound
  refine ⟨fun k => F1 k ∨ w.heap.size ≤ k, okq, Kd.N_mono a3 (fun k hk => .inl hk), hp, fun k hk => (hq k hk).elim, fun k hk => .inr hk, fun v1 w1 hN hg => ?_⟩
  have hf : Fr F1 w w1 := Fr.of_grown hg (fun k hk => a3.1 k hk)
  refine ⟨h0.trans hf (fun k hk => (a1 k hk).1), _, fun k hk => ?_, Nw.loc, hN, ?_⟩
  · rcases hk with hk | hk
    · exact (a1 k hk).1
    · exact .inr (Nat.le_trans h0.size hk)
  · exact (hl.step hf.size (fun k hk hlt => hf.block k hlt hk.2)).mono (fun k hk => ⟨hk.1.1, fun q => q.elim hk.2 (fun q => by have := hk.1.2; omega)⟩)
end
section
variable {P : Program}
theorem cut_h' (t e : TypeId) (k : IntKind) (z : Nat) (ht : P.underlying t = some (.slice e)) (hs : (P.info? e).map (·.size) = some z) (A : Option Addr) (n c : Nat) (h : Int) (h0 : 0 ≤ h) (hc : h ≤ c) (W : World) :
    (Instr.slice t (.slice A n c) none (some (.int k h)) none).run P W = .ok (.slice A h.toNat c) W := by
  cases hq : P.info? e with
  | none => simp [hq] at hs
  | some i =>
    have hi : i.size = z := by simpa [hq] using hs
    have hel : P.elem t = e := by simp [Program.elem, ht]
    have hu : P.underlying t = some (.slice (P.elem t)) := by rw [hel]; exact ht
    have ha : (A.map fun x => x.add 0) = A := by cases A <;> simp [Addr.add]
    rw [run_slice_h W t A n c hu k h h0 hc, hel]
    simp [sizeOf, typeInfo, hq, hi, sliced, Result.andThen, ha]
theorem cut_l' (t e : TypeId) (k : IntKind) (z : Nat) (ht : P.underlying t = some (.slice e)) (hs : (P.info? e).map (·.size) = some z) (A : Option Addr) (n c : Nat) (l : Int) (h0 : 0 ≤ l) (hc : l ≤ n) (W : World) :
    (Instr.slice t (.slice A n c) (some (.int k l)) none none).run P W = .ok (.slice (if c = l.toNat then A else A.map (·.add (l.toNat * z))) (n - l.toNat) (c - l.toNat)) W := by
  cases hq : P.info? e with
  | none => simp [hq] at hs
  | some i =>
    have hi : i.size = z := by simpa [hq] using hs
    have hel : P.elem t = e := by simp [Program.elem, ht]
    have hu : P.underlying t = some (.slice (P.elem t)) := by rw [hel]; exact ht
    rw [run_slice_l W t A n c hu k l h0 hc, hel]
    simp [sizeOf, typeInfo, hq, hi, sliced, Result.andThen]
end
theorem Stars.get {l : List Part} {G : Nat → Prop} {w : World} {A : Part} (h : Stars l G w) (i : Nat) (e : l[i]? = some A) : ∃ F, A w F := by
  obtain ⟨F, _, _, h3, _⟩ := h.front i e
  exact ⟨F, h3⟩
theorem Stars.rd {α : Type} {d : Kd α} {q : Nat} {v : Value} {xs : List α} {l : List Part} {G : Nat → Prop} {w : World} (h : Stars l G w) (i : Nat) (e : l[i]? = some (Rw d q v xs)) : ∃ ok, d.R q w 0 ok v xs := h.get i e
/-- Behind a call that turns the first part alone: the others stay readable wherever only that part turns. -/
theorem St.joinR {W w : World} {F0 : Nat → Prop} {l : List Part} {A : Part} (h : St W F0 w (A :: l)) : ∃ F, A w F ∧ (∀ k, F k → k < w.heap.size) ∧ (∀ w', Fr F w w' → ∃ G, Stars l G w') ∧ ∀ (w' : World) (l' : List Part), St w F w' l' → St W F0 w' (l' ++ l) := by
  obtain ⟨h0, hst⟩ := h
  obtain ⟨F, h1, h2, h3, h4⟩ := hst.bound
  refine ⟨F, h3, fun k hk => (h1 k hk).2, fun w' hf => ⟨_, h4.step hf.size (fun i hi hl => hf.block i hl hi.2)⟩, fun w' l' k => ?_⟩
  refine ⟨h0.trans k.fr (fun i hi => (h1 i hi).1), ?_⟩
  have h5 := h4.step k.fr.size (fun i hi hl => k.fr.block i hl hi.2)
  exact (Stars.append k.st h5 (fun i hi hi' => hi.elim hi'.2 (fun hh => by have := hi'.1.2; omega))).mono (fun i hi => hi.elim (fun hh => hh.elim (fun hf => (h1 i hf).1) (fun hs => .inr (Nat.le_trans h0.size hs))) (fun hh => hh.1.1))
theorem St.old_ne {W w : World} {l : List Part} {g k : Nat} {cs : Array Value} {t : TypeId} (h : St W (fun _ => False) w l) (i : Nat) (e : l[i]? = some (Pt g cs t)) (hk : k < W.heap.size) : k ≠ g := by
  obtain ⟨_, F, h1, _, h3, _⟩ := h.front i e
  rintro rfl
  exact (h1 _ h3.1).elim (fun f => f) (fun hh => by omega)
/-! ### The readers: what is left, and whether it is bad -/
abbrev RS := List Int × Bool
/-- A reader of type T at block g; what is left came in by W0. -/
def RdP (W0 : World) (T : TypeId) (g : Nat) (s : RS) : Part := fun w F => ∃ A c, s.1.length ≤ c ∧ Kd.C (Kd.int .u8) W0 A s.1.length s.1 ∧ W0.heap.size ≤ g ∧ Pt g #[.slice A s.1.length c, .bool s.2] T w F
section
variable {W0 W w : World} {T : TypeId} {g : Nat} {s : RS} {F0 : Nat → Prop} {l : List Part}
theorem RdP.loc : Loc (RdP W0 T g s) :=
  ⟨fun ⟨A, c, h1, h2, h3, h4⟩ hs hh => ⟨A, c, h1, h2, h3, Pt.loc.step h4 hs hh⟩, fun ⟨A, c, h1, h2, h3, h4⟩ => ⟨A, c, h1, h2, h3, Pt.loc.bound h4⟩, fun ⟨A, c, h1, h2, h3, h4⟩ hh => ⟨A, c, h1, h2, h3, Pt.loc.mono h4 hh⟩⟩
theorem St.rdOpen (h : St W F0 w (RdP W0 T g s :: l)) : ∃ A c, s.1.length ≤ c ∧ Kd.C (Kd.int .u8) W0 A s.1.length s.1 ∧ W0.heap.size ≤ g ∧ St W F0 w (Pt g #[.slice A s.1.length c, .bool s.2] T :: l) := by
  obtain ⟨h0, F, h1, h2, ⟨A, c, k1, k2, k3, k4⟩, h4⟩ := h
  exact ⟨A, c, k1, k2, k3, h0, F, h1, Pt.loc, k4, h4⟩
theorem St.rdShut (s : RS) {A : Option Addr} {n c : Nat} {b : Bool} (hn : n = s.1.length) (hb : b = s.2) (hc : s.1.length ≤ c) (hC : Kd.C (Kd.int .u8) W0 A s.1.length s.1) (hg : W0.heap.size ≤ g) (h : St W F0 w (Pt g #[.slice A n c, .bool b] T :: l)) : St W F0 w (RdP W0 T g s :: l) := by
  subst hn hb
  exact h.imp RdP.loc (fun F hp => ⟨A, c, hc, hC, hg, hp⟩)
theorem RdP.base (h : RdP W0 T g s w F0) : W0.heap.size ≤ g := by
  obtain ⟨A, c, _, _, h3, _⟩ := h
  exact h3
end
set_option maxHeartbeats 8000000 in
set_option maxRecDepth 100000 in
theorem codec_fail (W0 W : World) (F : Nat → Prop) (g : Nat) (s : RS) (h : RdP W0 94 g s W F) :
    Calls Try.prog 59 #[.pointer (some ⟨g, 0, none⟩)] W fun e w' => e = .returned (.tuple #[]) ∧ St W F w' [RdP W0 94 g ([], true)] := by
  have hu := Try.underlying94
  have S0 := St.start1 RdP.loc h
  obtain ⟨A, c, k1, k2, k3, S1⟩ := S0.rdOpen
  have z0 : W.cell? ⟨g, 0, none⟩ = some (.slice A s.1.length c) := (blk_cell (S1.blk 0 rfl) 0).trans rfl; have fz0 : W.frozen? ⟨g, 0, none⟩ = false := blk_frozen (S1.blk 0 rfl) 0; have z1 : W.cell? ⟨g, 1, none⟩ = some (.bool s.2) := (blk_cell (S1.blk 0 rfl) 1).trans rfl; have fz1 : W.frozen? ⟨g, 1, none⟩ = false := blk_frozen (S1.blk 0 rfl) 1
  have H3 := Aside0.mk k3
  clear h S0 k1 k2 k3
  go_enter Try.func59, Try.ntmps59
  go_wp2
  go_end0
  exact ⟨rfl, St.rdShut ([], true) rfl rfl (Nat.zero_le _) (Kd.C_nil _ _) H3.out ((S1.put 0 (.slice none 0 0) rfl).put 1 (.bool true) rfl)⟩
set_option maxHeartbeats 8000000 in
set_option maxRecDepth 100000 in
theorem codec_bad (W0 W : World) (g : Nat) (s : RS) (F : Nat → Prop) (h : RdP W0 94 g s W F) :
    Calls Try.prog 31 #[.pointer (some ⟨g, 0, none⟩)] W fun e w' => e = .returned (.bool s.2) ∧ Below W.heap.size W w' := by
  have hu := Try.underlying94
  have S0 := St.start1 RdP.loc h
  obtain ⟨A, c, k1, k2, k3, S1⟩ := S0.rdOpen
  have z0 : W.cell? ⟨g, 0, none⟩ = some (.slice A s.1.length c) := (blk_cell (S1.blk 0 rfl) 0).trans rfl; have fz0 : W.frozen? ⟨g, 0, none⟩ = false := blk_frozen (S1.blk 0 rfl) 0; have z1 : W.cell? ⟨g, 1, none⟩ = some (.bool s.2) := (blk_cell (S1.blk 0 rfl) 1).trans rfl; have fz1 : W.frozen? ⟨g, 1, none⟩ = false := blk_frozen (S1.blk 0 rfl) 1
  clear h S0 k1 k2 k3
  go_enter Try.func31, Try.ntmps31
  go_wp2
  go_ret
  exact ⟨rfl, Below.refl _ _⟩
set_option maxHeartbeats 8000000 in
set_option maxRecDepth 100000 in
theorem codec_left (W0 W : World) (g : Nat) (s : RS) (F : Nat → Prop) (h : RdP W0 94 g s W F) :
    Calls Try.prog 30 #[.pointer (some ⟨g, 0, none⟩)] W fun e w' => e = .returned (.int .i64 s.1.length) ∧ Below W.heap.size W w' := by
  have hu := Try.underlying94
  have S0 := St.start1 RdP.loc h
  obtain ⟨A, c, k1, k2, k3, S1⟩ := S0.rdOpen
  have z0 : W.cell? ⟨g, 0, none⟩ = some (.slice A s.1.length c) := (blk_cell (S1.blk 0 rfl) 0).trans rfl; have fz0 : W.frozen? ⟨g, 0, none⟩ = false := blk_frozen (S1.blk 0 rfl) 0; have z1 : W.cell? ⟨g, 1, none⟩ = some (.bool s.2) := (blk_cell (S1.blk 0 rfl) 1).trans rfl; have fz1 : W.frozen? ⟨g, 1, none⟩ = false := blk_frozen (S1.blk 0 rfl) 1
  clear h S0 k1 k2 k3
  go_enter Try.func30, Try.ntmps30
  go_wp2
  go_ret
  exact ⟨rfl, Below.refl _ _⟩
set_option maxHeartbeats 8000000 in
set_option maxRecDepth 100000 in
theorem ref_fail0 (W0 W : World) (F : Nat → Prop) (g : Nat) (s : RS) (h : RdP W0 51 g s W F) :
    Calls Try.prog 89 #[.pointer (some ⟨g, 0, none⟩)] W fun e w' => e = .returned (.int .u64 0) ∧ St W F w' [RdP W0 51 g ([], true)] := by
  have hu := Try.underlying51
  have S0 := St.start1 RdP.loc h
  obtain ⟨A, c, k1, k2, k3, S1⟩ := S0.rdOpen
  have z0 : W.cell? ⟨g, 0, none⟩ = some (.slice A s.1.length c) := (blk_cell (S1.blk 0 rfl) 0).trans rfl; have fz0 : W.frozen? ⟨g, 0, none⟩ = false := blk_frozen (S1.blk 0 rfl) 0; have z1 : W.cell? ⟨g, 1, none⟩ = some (.bool s.2) := (blk_cell (S1.blk 0 rfl) 1).trans rfl; have fz1 : W.frozen? ⟨g, 1, none⟩ = false := blk_frozen (S1.blk 0 rfl) 1
  have H3 := Aside0.mk k3
  clear h S0 k1 k2 k3
  go_enter Try.func89, Try.ntmps89
  go_wp2
  go_ret
  exact ⟨rfl, St.rdShut ([], true) rfl rfl (Nat.zero_le _) (Kd.C_nil _ _) H3.out ((S1.put 0 (.slice none 0 0) rfl).put 1 (.bool true) rfl)⟩
set_option maxHeartbeats 8000000 in
set_option maxRecDepth 100000 in
theorem ref_fail (W0 W : World) (F : Nat → Prop) (g : Nat) (s : RS) (h : RdP W0 51 g s W F) :
    Calls Try.prog 62 #[.pointer (some ⟨g, 0, none⟩)] W fun e w' => e = .returned (.tuple #[]) ∧ St W F w' [RdP W0 51 g ([], true)] := by
  have HC := Aside0.mk (ref_fail0 W0 W F g s h)
  clear h
  go_enter Try.func62, Try.ntmps62
  go_wp2_with (go_at_call 89; refine HC.out.mono ?_; rintro e w1 ⟨rfl, hs⟩; have HS := Aside0.mk hs; clear hs)
  go_end0
  exact ⟨rfl, HS.out⟩
def cGo (most : Int) : List Int → Nat → Int → Option (Int × List Int)
  | [], _, _ => none
  | c :: r, i, x => if 64 < 7 * i + Lib.bitLen (c % 128).toNat then none else
      if 128 ≤ c then cGo most r (i + 1) (x + c % 128 * 2 ^ (7 * i)) else if (c = 0 ∧ 0 < i) ∨ most < x + c % 128 * 2 ^ (7 * i) then none else some (x + c % 128 * 2 ^ (7 * i), r)
def cNat (most : Int) (s : RS) : Int × RS := match cGo most s.1 0 0 with
  | none => (0, [], true)
  | some (v, r) => (v, r, s.2)
theorem bits_len (a0 : Int) (w : World) (h0 : 0 ≤ a0) (h1 : a0 ≤ 18446744073709551615) :
    Calls Try.prog 88 #[.int .u64 a0] w fun e w' => e = .returned (.int .i64 (Lib.bitLen a0.toNat : Int)) ∧ w' = w := Try.bits_Len64 a0 w h0 h1
theorem u8_not (y : Int) (h0 : 0 ≤ y) (h1 : y < 256) : bits .andNot .u8 y 128 = y % 128 := by
  have h : ∀ n : Fin 256, bits .andNot .u8 ((n : Nat) : Int) 128 = ((n : Nat) : Int) % 128 := by decide +kernel
  have := h ⟨y.toNat, by omega⟩
  rw [show ((⟨y.toNat, by omega⟩ : Fin 256) : Nat) = y.toNat from rfl, Int.toNat_of_nonneg h0] at this
  exact this
theorem u8_top (y : Int) (h0 : 0 ≤ y) (h1 : y < 256) : bits .and .u8 y 128 = if y < 128 then 0 else 128 := by
  have h : ∀ n : Fin 256, bits .and .u8 ((n : Nat) : Int) 128 = if ((n : Nat) : Int) < 128 then 0 else 128 := by decide +kernel
  have := h ⟨y.toNat, by omega⟩
  rw [show ((⟨y.toNat, by omega⟩ : Fin 256) : Nat) = y.toNat from rfl, Int.toNat_of_nonneg h0] at this
  exact this
theorem len_7 (y : Int) (h0 : 0 ≤ y) (h1 : y < 128) : Lib.bitLen y.toNat ≤ 7 := by
  have h : ∀ n : Fin 128, Lib.bitLen (n : Nat) ≤ 7 := by decide +kernel
  exact h ⟨y.toNat, by omega⟩
theorem lt_bitLen (y : Int) (h0 : 0 ≤ y) (h1 : y < 128) : y < 2 ^ Lib.bitLen y.toNat := by
  have h : ∀ n : Fin 128, (n : Nat) < 2 ^ Lib.bitLen (n : Nat) := by decide +kernel
  have := h ⟨y.toNat, by omega⟩
  have e : ((2 ^ Lib.bitLen y.toNat : Nat) : Int) = 2 ^ Lib.bitLen y.toNat := by simp
  rw [← e]
  have h2 : y.toNat < 2 ^ Lib.bitLen y.toNat := this
  omega
theorem cNat_none {most : Int} {l : List Int} {b : Bool} (h : cGo most l 0 0 = none) : cNat most (l, b) = (0, [], true) := by rw [cNat, h]
theorem cNat_some {most : Int} {l r : List Int} {b : Bool} {v : Int} (h : cGo most l 0 0 = some (v, r)) : cNat most (l, b) = (v, r, b) := by rw [cNat, h]
theorem drop_rd {l : List Int} {i : Nat} (h : i < l.length) : l.drop i = rd l (i : Int) :: l.drop (i + 1) := by
  rw [List.drop_eq_getElem_cons h]
  congr 1
  show _ = l.getD ((i : Int)).toNat 0
  rw [Int.toNat_natCast, List.getD, List.getElem?_eq_getElem h]; rfl
theorem sh_facts (gr : Int) (i : Nat) (x : Int) (h0 : 0 ≤ gr) (h1 : gr < 128) (h : ¬ 64 < 7 * i + Lib.bitLen gr.toNat) (hx0 : 0 ≤ x) (hx1 : x < 2 ^ (7 * i)) :
    IntKind.u64.wrap (gr * 2 ^ (7 * i)) = gr * 2 ^ (7 * i) ∧ bits .or .u64 x (gr * 2 ^ (7 * i)) = x + gr * 2 ^ (7 * i) ∧ 0 ≤ x + gr * 2 ^ (7 * i) ∧ x + gr * 2 ^ (7 * i) < 2 ^ (7 * (i + 1)) ∧ x + gr * 2 ^ (7 * i) < 18446744073709551616 := by
  have hl := lt_bitLen gr h0 h1
  have e7 : (2 : Int) ^ (7 * (i + 1)) = 2 ^ (7 * i) * 128 := by rw [Nat.mul_add, Int.pow_add]; rfl
  have hp : (0 : Int) < 2 ^ (7 * i) := Int.pow_pos (by decide)
  have e64 : (2 : Int) ^ (Lib.bitLen gr.toNat) * 2 ^ (7 * i) ≤ 2 ^ 64 := by
    rw [← Int.pow_add]
    have : (2 : Nat) ^ (Lib.bitLen gr.toNat + 7 * i) ≤ 2 ^ 64 := Nat.pow_le_pow_right (by decide) (by omega)
    exact_mod_cast this
  have hb : gr * 2 ^ (7 * i) + 2 ^ (7 * i) ≤ 2 ^ (Lib.bitLen gr.toNat) * 2 ^ (7 * i) := by
    have : (gr + 1) * 2 ^ (7 * i) ≤ 2 ^ (Lib.bitLen gr.toNat) * 2 ^ (7 * i) := Int.mul_le_mul_of_nonneg_right (by omega) (by omega)
    rw [Int.add_mul, Int.one_mul] at this
    exact this
  have hb2 : gr * 2 ^ (7 * i) + 2 ^ (7 * i) ≤ 128 * 2 ^ (7 * i) := by
    have : (gr + 1) * 2 ^ (7 * i) ≤ 128 * 2 ^ (7 * i) := Int.mul_le_mul_of_nonneg_right (by omega) (by omega)
    rw [Int.add_mul, Int.one_mul] at this
    exact this
  have hs0 : 0 ≤ gr * 2 ^ (7 * i) := Int.mul_nonneg h0 (by omega)
  have h64 : (2 : Int) ^ 64 = 18446744073709551616 := by decide
  refine ⟨?_, ?_, by omega, by rw [e7]; omega, by omega⟩
  · rw [IntKind.wrap_u64]; omega
  · have hc : bits .or .u64 x (gr * 2 ^ (7 * i)) = bits .or .u64 (gr * 2 ^ (7 * i)) x := by
      simp only [bits, BitVec.or_comm]
    rw [hc, Int.add_comm x]
    exact bits_join .u64 64 (by decide) (fun n g0 g1 => by rw [IntKind.wrap_u64]; omega) (7 * i) _ x hs0 (by simp) (by omega) hx0 hx1 (by omega)
theorem rd_mem {l : List Int} {i : Nat} (h : i < l.length) : rd l (i : Int) ∈ l := by
  show l.getD ((i : Int)).toNat 0 ∈ l
  rw [Int.toNat_natCast, List.getD, List.getElem?_eq_getElem h]
  exact List.getElem_mem h
set_option maxHeartbeats 8000000 in
set_option maxRecDepth 100000 in
theorem codec_nat (W0 W : World) (hB : Below W0.heap.size W0 W) (F : Nat → Prop) (g : Nat) (s : RS) (most : Int) (hby : ∀ b ∈ s.1, 0 ≤ b ∧ b < 256) (h : RdP W0 94 g s W F) (hm : 0 ≤ most ∧ most < 18446744073709551616) (hl : s.1.length < 1000000) :
    Calls Try.prog 57 #[.pointer (some ⟨g, 0, none⟩), .int .u64 most] W fun e w' => e = .returned (.int .u64 (cNat most s).1) ∧ St W F w' [RdP W0 94 g (cNat most s).2] := by
  have hu := Try.underlying94
  have HF := Aside0.mk (codec_fail W0 W F g s h)
  have S0 := St.start1 RdP.loc h
  obtain ⟨A, c, k1, k2, k3, S1⟩ := S0.rdOpen
  obtain ⟨l, b⟩ := s
  dsimp only at *
  obtain ⟨n, hn⟩ : ∃ n, l.length = n := ⟨_, rfl⟩
  have HA := Aside0.mk (fun (i : Nat) (hi : i < l.length) => Kd.at_int k2 (i : Int) (by omega) (by omega))
  have H := Aside0.mk (And.intro k1 (And.intro k2 k3))
  have HBB := Aside0.mk hB
  have HBY := Aside0.mk hby
  have HN := Aside0.mk hn
  rw [hn] at S1 hl
  have z0 : W.cell? ⟨g, 0, none⟩ = some (.slice A n c) := (blk_cell (S1.blk 0 rfl) 0).trans rfl; have fz0 : W.frozen? ⟨g, 0, none⟩ = false := blk_frozen (S1.blk 0 rfl) 0; have z1 : W.cell? ⟨g, 1, none⟩ = some (.bool b) := (blk_cell (S1.blk 0 rfl) 1).trans rfl; have fz1 : W.frozen? ⟨g, 1, none⟩ = false := blk_frozen (S1.blk 0 rfl) 1
  clear h S0 k1 k2 k3 hB hby hn
  go_enter Try.func57, Try.ntmps57
  go_wp2
  go_loopg [4, 5, 6, 7, 15] n (fun g1 v4 v5 v6 v7 v15 wr => ∃ (i : Nat) (iz x : Int), v15 = .int .i64 iz ∧ v4 = .int .u64 x ∧ Aside0 (iz = i) ∧ 0 ≤ iz ∧ iz ≤ n ∧ Aside0 (0 ≤ x ∧ x < 2 ^ (7 * i)) ∧ i ≤ n ∧ n ≤ i + g1 ∧ wr = W ∧ Aside0 (cGo most (l.drop i) i x = cGo most l 0 0))
  case atStart => exact ⟨0, 0, 0, rfl, rfl, ⟨rfl⟩, by omega, by omega, ⟨by omega, by decide⟩, by omega, by omega, rfl, ⟨rfl⟩⟩
  case round =>
    obtain ⟨i, iz, x, rfl, rfl, HIZ, hz0, hzn, HXX, hin, hg, rfl, HO⟩ := hrel
    have hiz := HIZ.out
    obtain ⟨hx0, hx1⟩ := HXX.out
    by_cases hlt : i < n
    · have hltz : iz < (n : Int) := by omega
      obtain ⟨ad, rfl, hc⟩ := HA.out i (by rw [HN.out]; exact hlt)
      obtain ⟨y, hy⟩ : ∃ y, rd l i = y := ⟨_, rfl⟩
      rw [hy] at hc
      rw [← hiz] at hc
      replace hc := (HBB.out.cell (World.block_lt_of_cell? W0 _ hc)).trans hc
      have hyr : 0 ≤ y ∧ y < 256 := by rw [← hy]; exact HBY.out _ (rd_mem (by rw [HN.out]; exact hlt))
      obtain ⟨gr, hgr⟩ : ∃ gr, y % 128 = gr := ⟨_, rfl⟩
      have han : bits .andNot .u8 y 128 = gr := by rw [← hgr]; exact u8_not y hyr.1 hyr.2
      have hw : IntKind.u64.wrap gr = gr := by rw [IntKind.wrap_u64]; omega
      have hbl := fun w => bits_len gr w (by omega) (by omega)
      obtain ⟨bl, hbl2⟩ : ∃ bl, Lib.bitLen gr.toNat = bl := ⟨_, rfl⟩
      rw [hbl2] at hbl
      have HD := Aside0.mk (drop_rd (l := l) (i := i) (by rw [HN.out]; exact hlt))
      by_cases h64 : 64 < 7 * i + bl
      · have h64z : decide (64 < iz * 7 + (bl : Int)) = true := decide_eq_true (by omega)
        have HR : Aside0 (cGo most l 0 0 = none) := ⟨by rw [← HO.out, HD.out, hy, cGo, hgr, if_pos (by rw [hbl2]; exact h64)]⟩
        have hblr : bl ≤ 7 := by rw [← hbl2]; exact len_7 gr (by omega) (by omega)
        clear hgr hbl2 HO hiz h64 hlt hin hx0 hx1
        go_wp2_with (first
          | (go_at_call 88; (with_reducible refine (hbl _).mono ?_); rintro e w1 ⟨rfl, rfl⟩)
          | (go_at_call 59; refine HF.out.mono ?_; rintro e w2 ⟨rfl, hs⟩; have HS := Aside0.mk hs; clear hs))
        go_ret
        rw [cNat_none HR.out]
        exact ⟨rfl, HS.out⟩
      · have h64z : decide (64 < iz * 7 + (bl : Int)) = false := decide_eq_false (by omega)
        have hblr : bl ≤ 7 := by rw [← hbl2]; exact len_7 gr (by omega) (by omega)
        obtain ⟨f1, f2, f3, f4, f5⟩ := sh_facts gr i x (by omega) (by omega) (by rw [hbl2]; exact h64) hx0 hx1
        have hi7 : 7 * i ≤ 64 := by omega
        have hstep : cGo most (l.drop i) i x = if 128 ≤ y then cGo most (l.drop (i + 1)) (i + 1) (x + gr * 2 ^ (7 * i)) else if (y = 0 ∧ 0 < i) ∨ most < x + gr * 2 ^ (7 * i) then none else some (x + gr * 2 ^ (7 * i), l.drop (i + 1)) := by
          rw [HD.out, hy, cGo, hgr, if_neg (by rw [hbl2]; exact h64)]
        rw [HO.out] at hstep
        obtain ⟨x', hx'⟩ : ∃ x', x + gr * 2 ^ (7 * i) = x' := ⟨_, rfl⟩
        obtain ⟨sh, hsh⟩ : ∃ sh, gr * 2 ^ (7 * i) = sh := ⟨_, rfl⟩
        rw [hx'] at hstep f2 f3 f4 f5
        rw [hsh] at f1 f2
        have f1' : IntKind.u64.wrap (gr * 2 ^ (7 * iz).toNat) = sh := by rw [show (7 * iz).toNat = 7 * i by omega, hsh]; exact f1
        have wi : IntKind.i64.wrap (iz + 1) = iz + 1 := by rw [IntKind.wrap_i64]; omega
        have HST := Aside0.mk hstep
        have HX := Aside0.mk (And.intro f3 f4)
        have hi7z : 7 * iz ≤ 64 := by omega
        have hziz : iz ≤ 1000000 := by omega
        clear hgr hbl2 HO hstep hx' hsh f1 f3 f4 h64 hy hx0 hx1 hi7
        by_cases htop : 128 ≤ y
        · have ht := u8_top y hyr.1 hyr.2
          rw [if_neg (by omega)] at ht
          clear hiz hlt hin
          go_wp2_with (go_at_call 88; (with_reducible refine (hbl _).mono ?_); rintro e w1 ⟨rfl, rfl⟩)
          go_roundg (n - (i + 1))
          case measure => have := HIZ.out; omega
          case rel => exact ⟨i + 1, iz + 1, x', rfl, rfl, ⟨by rw [HIZ.out]; rfl⟩, by omega, by omega, HX, by have := HIZ.out; omega, by have := HIZ.out; omega, rfl, ⟨by have := HST.out; rw [if_pos htop] at this; exact this.symm⟩⟩
        · have ht := u8_top y hyr.1 hyr.2
          rw [if_pos (by omega)] at ht
          have HT := Aside0.mk htop
          clear htop
          have HAL : Aside0 (n - (i + 1) = (l.drop (i + 1)).length ∧ i + 1 ≤ l.length) := ⟨by rw [List.length_drop, HN.out], by rw [HN.out]; omega⟩
          have hcut : ∀ W : World, (Instr.slice 46 (.slice (some ad) n c) (some (.int .i64 (iz + 1))) none none).run Try.prog W = .ok (.slice (if c = i + 1 then some ad else (some ad).map (·.add ((i + 1) * 1))) (n - (i + 1)) (c - (i + 1))) W := fun W => by
            rw [cut_l' 46 5 .i64 1 Try.underlying46 (by kernel_rfl) (some ad) n c (iz + 1) (by omega) (by omega) W, show (iz + 1).toNat = i + 1 by omega]
          have HCD : Aside0 (Kd.C (Kd.int .u8) W0 (if c = i + 1 then some ad else (some ad).map (·.add ((i + 1) * 1))) (l.drop (i + 1)).length (l.drop (i + 1))) := ⟨Kd.C_drop H.out.2.1 HAL.out.2 H.out.1⟩
          obtain ⟨A', hA'⟩ : ∃ A', (if c = i + 1 then some ad else (some ad).map (·.add ((i + 1) * 1))) = A' := ⟨_, rfl⟩
          rw [hA'] at hcut HCD
          clear hA'
          have bad : (y = 0 ∧ 0 < i) ∨ most < x' → Aside0 (cGo most l 0 0 = none) := fun hb => ⟨by have := HST.out; rw [if_neg HT.out, if_pos hb] at this; exact this⟩
          have good : ¬ ((y = 0 ∧ 0 < i) ∨ most < x') → Aside0 (cGo most l 0 0 = some (x', l.drop (i + 1))) := fun hb => ⟨by have := HST.out; rw [if_neg HT.out, if_neg hb] at this; exact this⟩
          by_cases hb : (y = 0 ∧ 0 < i) ∨ most < x'
          · have HR := bad hb
            clear bad good
            by_cases c0 : y = 0 <;> by_cases ci : 0 < i <;> by_cases cm : most < x'
            all_goals first | (exfalso; omega) | skip
            all_goals
              (first | have c0b : (y == 0) = true := by (rw [c0]; rfl) | have c0b : (y == 0) = false := by (rw [beq_eq_false_iff_ne]; exact c0))
              (first | have cib : decide (0 < iz) = true := decide_eq_true (by omega) | have cib : decide (0 < iz) = false := decide_eq_false (by omega))
              (first | have cmb : decide (most < x') = true := decide_eq_true cm | have cmb : decide (most < x') = false := decide_eq_false cm)
              clear c0 ci cm hb hiz hlt hin
              go_wp2_with (first
                   | (go_at_call 88; (with_reducible refine (hbl _).mono ?_); rintro e w1 ⟨rfl, rfl⟩)
                   | (go_at_call 59; refine HF.out.mono ?_; rintro e w2 ⟨rfl, hs⟩; have HS := Aside0.mk hs; clear hs))
              go_ret
              rw [cNat_none HR.out]
              exact ⟨rfl, HS.out⟩
          · have HR := good hb
            clear bad good
            by_cases c0 : y = 0 <;> by_cases ci : 0 < i <;> by_cases cm : most < x'
            all_goals first | (exfalso; omega) | skip
            all_goals
              (first | have c0b : (y == 0) = true := by (rw [c0]; rfl) | have c0b : (y == 0) = false := by (rw [beq_eq_false_iff_ne]; exact c0))
              (first | have cib : decide (0 < iz) = true := decide_eq_true (by omega) | have cib : decide (0 < iz) = false := decide_eq_false (by omega))
              (first | have cmb : decide (most < x') = true := decide_eq_true cm | have cmb : decide (most < x') = false := decide_eq_false cm)
              clear c0 ci cm hb hiz hlt hin
              go_wp2_with (go_at_call 88; (with_reducible refine (hbl _).mono ?_); rintro e w1 ⟨rfl, rfl⟩)
              go_ret
              rw [cNat_some HR.out]
              exact ⟨rfl, St.rdShut (l.drop (i + 1), b) HAL.out.1 rfl (by have := HAL.out; have := H.out.1; have := HN.out; simp only [List.length_drop]; omega) HCD.out H.out.2.2 (S1.put 0 _ rfl)⟩
    · have hltz : decide (iz < (n : Int)) = false := decide_eq_false (by omega)
      have HR : Aside0 (cGo most l 0 0 = none) := ⟨by rw [← HO.out, List.drop_eq_nil_of_le (by have := HN.out; omega)]; rfl⟩
      clear HO hiz hlt hin hx0 hx1
      go_wp2_with (go_at_call 59; refine HF.out.mono ?_; rintro e w2 ⟨rfl, hs⟩; have HS := Aside0.mk hs; clear hs)
      go_ret
      rw [cNat_none HR.out]
      exact ⟨rfl, HS.out⟩
def cIv (n : Int) : Int := if n % 2 = 0 then n / 2 else -(n / 2) - 1
def cInt (s : RS) : Int × RS := (cIv (cNat 18446744073709551615 s).1, (cNat 18446744073709551615 s).2)
theorem len_1 (y : Int) (h0 : 0 ≤ y) (h1 : y < 128) : 1 < y ↔ 2 ≤ Lib.bitLen y.toNat := by
  have h : ∀ n : Fin 128, 1 < (n : Nat) ↔ 2 ≤ Lib.bitLen (n : Nat) := by decide +kernel
  have := h ⟨y.toNat, by omega⟩
  have e : (1 : Int) < y ↔ 1 < y.toNat := by omega
  rw [e]; exact this
theorem cGo_spec (most : Int) : ∀ (l : List Int) (i : Nat) (x : Int) (v : Int) (r : List Int), 0 ≤ x → cGo most l i x = some (v, r) → 0 ≤ v ∧ v ≤ most ∧ ∃ p, l = p ++ r
  | [], i, x, v, r, _, h => by cases h
  | c :: l, i, x, v, r, hx, h => by
    rw [cGo] at h
    have hp : (0 : Int) ≤ 2 ^ (7 * i) := Int.le_of_lt (Int.pow_pos (by decide))
    have hq : 0 ≤ c % 128 * 2 ^ (7 * i) := Int.mul_nonneg (by omega) hp
    split at h
    · cases h
    · split at h
      · obtain ⟨a, b, p, e⟩ := cGo_spec most l _ _ v r (by omega) h
        exact ⟨a, b, c :: p, by rw [e]; rfl⟩
      · split at h
        · cases h
        · rename_i hn
          injection h with h
          injection h with h1 h2
          subst h1 h2
          exact ⟨by omega, by omega, [c], rfl⟩
theorem cNat_spec (most : Int) (s : RS) (hm : 0 ≤ most) : 0 ≤ (cNat most s).1 ∧ (cNat most s).1 ≤ most ∧ (∃ p, s.1 = p ++ (cNat most s).2.1) := by
  obtain ⟨l, b⟩ := s
  cases h : cGo most l 0 0 with
  | none => rw [cNat_none h]; exact ⟨Int.le_refl _, hm, l, by simp⟩
  | some z =>
    obtain ⟨v, r⟩ := z
    rw [cNat_some h]
    exact cGo_spec most l 0 0 v r (Int.le_refl _) h
theorem xor_iv (n : Int) (h0 : 0 ≤ n) (h1 : n < 18446744073709551616) : bits BinOp.xor IntKind.i64 (wrap64 (n / 2)) (wrap64 (-wrap64 (bits BinOp.and IntKind.u64 n 1))) = cIv n := by
  have e1 : bits .and .u64 n 1 = n % 2 := bits_mask .u64 64 (by decide) (fun n g0 g1 => by rw [IntKind.wrap_u64]; omega) 1 (by decide) n h0 h1
  have e2 : wrap64 (n / 2) = n / 2 := by unfold wrap64; omega
  rw [e1, e2]
  unfold cIv
  obtain ⟨a, ha⟩ : ∃ a : Nat, n / 2 = a := ⟨(n / 2).toNat, by omega⟩
  have hlt : a < 2 ^ 63 := by omega
  have hof : (BitVec.ofInt 64 (a : Int)).toNat = a := by rw [BitVec.ofInt_natCast, BitVec.toNat_ofNat]; exact Nat.mod_eq_of_lt (by omega)
  by_cases h : n % 2 = 0
  · rw [if_pos h, h, ha, show wrap64 (-wrap64 0) = 0 by unfold wrap64; omega]
    show IntKind.i64.wrap (((BitVec.ofInt 64 (a : Int)) ^^^ (BitVec.ofInt 64 0)).toNat : Int) = a
    rw [show BitVec.ofInt 64 0 = 0#64 by decide, BitVec.xor_zero, hof, IntKind.wrap_i64]; omega
  · rw [if_neg h, show n % 2 = 1 by omega, ha, show wrap64 (-wrap64 1) = -1 by unfold wrap64; omega]
    show IntKind.i64.wrap (((BitVec.ofInt 64 (a : Int)) ^^^ (BitVec.ofInt 64 (-1))).toNat : Int) = -a - 1
    rw [show BitVec.ofInt 64 (-1) = BitVec.allOnes 64 by decide, BitVec.xor_allOnes, BitVec.toNat_not, hof, IntKind.wrap_i64]; omega
set_option maxHeartbeats 8000000 in
set_option maxRecDepth 100000 in
theorem codec_int (W0 W : World) (hB : Below W0.heap.size W0 W) (F : Nat → Prop) (g : Nat) (s : RS) (hby : ∀ b ∈ s.1, 0 ≤ b ∧ b < 256) (h : RdP W0 94 g s W F) (hl : s.1.length < 1000000) :
    Calls Try.prog 58 #[.pointer (some ⟨g, 0, none⟩)] W fun e w' => e = .returned (.int .i64 (cInt s).1) ∧ St W F w' [RdP W0 94 g (cInt s).2] := by
  have HC := Aside0.mk (codec_nat W0 W hB F g s 18446744073709551615 hby h (by decide) hl)
  obtain ⟨n, hn⟩ : ∃ n, (cNat 18446744073709551615 s).1 = n := ⟨_, rfl⟩
  have HN := Aside0.mk hn
  rw [hn] at HC
  clear h hB hby hn hl
  go_enter Try.func58, Try.ntmps58
  go_wp2_with (go_at_call 57; refine HC.out.mono ?_; rintro e w1 ⟨rfl, hs⟩; have HS := Aside0.mk hs; clear hs)
  go_ret
  exact ⟨by show Ending.returned (.int .i64 _) = _; rw [xor_iv n (by rw [← HN.out]; exact (cNat_spec _ s (by decide)).1) (by rw [← HN.out]; have := (cNat_spec 18446744073709551615 s (by decide)).2.1; omega), ← HN.out]; rfl, HS.out⟩
set_option maxHeartbeats 8000000 in
set_option maxRecDepth 100000 in
theorem ref_nat (W0 W : World) (hB : Below W0.heap.size W0 W) (F : Nat → Prop) (g : Nat) (s : RS) (most : Int) (hby : ∀ b ∈ s.1, 0 ≤ b ∧ b < 256) (h : RdP W0 51 g s W F) (hm : 0 ≤ most ∧ most < 18446744073709551616) (hl : s.1.length < 1000000) :
    Calls Try.prog 60 #[.pointer (some ⟨g, 0, none⟩), .int .u64 most] W fun e w' => e = .returned (.int .u64 (cNat most s).1) ∧ St W F w' [RdP W0 51 g (cNat most s).2] := by
  have hu := Try.underlying51
  have HF := Aside0.mk (ref_fail0 W0 W F g s h)
  have S0 := St.start1 RdP.loc h
  obtain ⟨A, c, k1, k2, k3, S1⟩ := S0.rdOpen
  obtain ⟨l, b⟩ := s
  dsimp only at *
  obtain ⟨n, hn⟩ : ∃ n, l.length = n := ⟨_, rfl⟩
  have HA := Aside0.mk (fun (i : Nat) (hi : i < l.length) => Kd.at_int k2 (i : Int) (by omega) (by omega))
  have H := Aside0.mk (And.intro k1 (And.intro k2 k3))
  have HBB := Aside0.mk hB
  have HBY := Aside0.mk hby
  have HN := Aside0.mk hn
  rw [hn] at S1 hl
  have z0 : W.cell? ⟨g, 0, none⟩ = some (.slice A n c) := (blk_cell (S1.blk 0 rfl) 0).trans rfl; have fz0 : W.frozen? ⟨g, 0, none⟩ = false := blk_frozen (S1.blk 0 rfl) 0; have z1 : W.cell? ⟨g, 1, none⟩ = some (.bool b) := (blk_cell (S1.blk 0 rfl) 1).trans rfl; have fz1 : W.frozen? ⟨g, 1, none⟩ = false := blk_frozen (S1.blk 0 rfl) 1
  clear h S0 k1 k2 k3 hB hby hn
  go_enter Try.func60, Try.ntmps60
  go_wp2
  go_loopg [5, 6, 7, 8, 9] n (fun g1 v5 v6 v7 v8 v9 wr => ∃ (i : Nat) (iz x u : Int), v7 = .int .i64 iz ∧ v5 = .int .u64 x ∧ v6 = .int .u64 u ∧ Aside0 (iz = i) ∧ 0 ≤ iz ∧ iz ≤ n ∧ Aside0 (i ≤ 10 ∧ (i ≤ 9 → u = 2 ^ (7 * i))) ∧ Aside0 (0 ≤ x ∧ x < 2 ^ (7 * i)) ∧ i ≤ n ∧ n ≤ i + g1 ∧ wr = W ∧ Aside0 (cGo most (l.drop i) i x = cGo most l 0 0))
  case atStart => exact ⟨0, 0, 0, 1, rfl, rfl, rfl, ⟨rfl⟩, by omega, by omega, ⟨by omega, fun _ => rfl⟩, ⟨by omega, by decide⟩, by omega, by omega, rfl, ⟨rfl⟩⟩
  case round =>
    obtain ⟨i, iz, x, u, rfl, rfl, rfl, HIZ, hz0, hzn, HU, HXX, hin, hg, rfl, HO⟩ := hrel
    have hiz := HIZ.out
    obtain ⟨hx0, hx1⟩ := HXX.out
    by_cases hlt : i < n
    · have hltz : iz < (n : Int) := by omega
      obtain ⟨ad, rfl, hc⟩ := HA.out i (by rw [HN.out]; exact hlt)
      obtain ⟨y, hy⟩ : ∃ y, rd l i = y := ⟨_, rfl⟩
      rw [hy] at hc
      rw [← hiz] at hc
      replace hc := (HBB.out.cell (World.block_lt_of_cell? W0 _ hc)).trans hc
      have hyr : 0 ≤ y ∧ y < 256 := by rw [← hy]; exact HBY.out _ (rd_mem (by rw [HN.out]; exact hlt))
      have HD := Aside0.mk (drop_rd (l := l) (i := i) (by rw [HN.out]; exact hlt))
      obtain ⟨gr, hgr⟩ : ∃ gr, y % 128 = gr := ⟨_, rfl⟩
      have hrem : Int.tmod y 128 = gr := by rw [← hgr]; exact Int.tmod_eq_emod_of_nonneg hyr.1
      have hw : IntKind.u64.wrap gr = gr := by rw [IntKind.wrap_u64]; omega
      by_cases h10 : i < 10
      · have h10z : decide (iz < 10) = true := decide_eq_true (by omega)
        have hb7 := len_7 gr (by omega) (by omega)
        have hb1 : 1 < gr ↔ 2 ≤ Lib.bitLen gr.toNat := len_1 gr (by omega) (by omega)
        have hu9 := HU.out.2 (by omega)
        by_cases h9 : i = 9 ∧ 1 < gr
        · have h9z : (iz == 9) = true := by rw [beq_iff_eq]; omega
          have h9g : decide (1 < gr) = true := decide_eq_true h9.2
          have HR : Aside0 (cGo most l 0 0 = none) := ⟨by rw [← HO.out, HD.out, hy, cGo, hgr, if_pos (by omega)]⟩
          clear hgr HO hiz h10 h9 hlt hin hx0 hx1 hb7 hb1 hu9 hy
          go_wp2_with (go_at_call 89; refine HF.out.mono ?_; rintro e w2 ⟨rfl, hs⟩; have HS := Aside0.mk hs; clear hs)
          go_ret
          rw [cNat_none HR.out]
          exact ⟨rfl, HS.out⟩
        · have h9z : (iz == 9) = false ∨ ((iz == 9) = true ∧ decide (1 < gr) = false) := by
            by_cases e : i = 9
            · exact .inr ⟨by rw [beq_iff_eq]; omega, decide_eq_false (by omega)⟩
            · exact .inl (by rw [beq_eq_false_iff_ne]; omega)
          have h64 : ¬ 64 < 7 * i + Lib.bitLen gr.toNat := by omega
          obtain ⟨f1, f2, f3, f4, f5⟩ := sh_facts gr i x (by omega) (by omega) h64 hx0 hx1
          have hstep : cGo most (l.drop i) i x = if 128 ≤ y then cGo most (l.drop (i + 1)) (i + 1) (x + gr * 2 ^ (7 * i)) else if (y = 0 ∧ 0 < i) ∨ most < x + gr * 2 ^ (7 * i) then none else some (x + gr * 2 ^ (7 * i), l.drop (i + 1)) := by
            rw [HD.out, hy, cGo, hgr, if_neg h64]
          rw [HO.out] at hstep
          rw [← hu9] at f1 f2 f3 f4 f5 hstep
          obtain ⟨x', hx'⟩ : ∃ x', x + gr * u = x' := ⟨_, rfl⟩
          rw [hx'] at hstep f3 f4 f5
          have f6 : IntKind.u64.wrap (x + gr * u) = x' := by rw [hx', IntKind.wrap_u64]; omega
          obtain ⟨sh, hsh⟩ : ∃ sh, gr * u = sh := ⟨_, rfl⟩
          rw [hsh] at f1 f6
          have wi : IntKind.i64.wrap (iz + 1) = iz + 1 := by rw [IntKind.wrap_i64]; omega
          obtain ⟨u', hu'⟩ : ∃ u', IntKind.u64.wrap (u * 128) = u' := ⟨_, rfl⟩
          have HU2 : Aside0 (i + 1 ≤ 10 ∧ (i + 1 ≤ 9 → u' = 2 ^ (7 * (i + 1)))) := ⟨by omega, fun h => by
            rw [← hu', hu9, Nat.mul_add, Int.pow_add, show (2 : Int) ^ (7 * 1) = 128 by decide, IntKind.wrap_u64]
            have : (2 : Nat) ^ (7 * i) ≤ 2 ^ 56 := Nat.pow_le_pow_right (by decide) (by omega)
            have e : (2 : Int) ^ (7 * i) = ((2 ^ (7 * i) : Nat) : Int) := by simp
            rw [e]; omega⟩
          have HST := Aside0.mk hstep
          have HX := Aside0.mk (And.intro f3 f4)
          have hziz : iz ≤ 1000000 := by omega
          clear hgr HO hstep hx' f2 f3 f4 h64 hy hx0 hx1 h9 hb7 hb1 hu9 hu
          by_cases htop : 128 ≤ y
          · have ht : decide (y < 128) = false := decide_eq_false (by omega)
            have HT := Aside0.mk htop
            clear hiz hlt hin htop
            rcases h9z with h9z | ⟨h9z, h9g⟩
            all_goals
              go_wp2
              go_roundg (n - (i + 1))
              case measure => have := HIZ.out; omega
              case rel => exact ⟨i + 1, iz + 1, x', u', rfl, rfl, rfl, ⟨by rw [HIZ.out]; rfl⟩, by omega, by omega, HU2, HX, by have := HIZ.out; omega, by have := HIZ.out; omega, rfl, ⟨by have := HST.out; rw [if_pos HT.out] at this; exact this.symm⟩⟩
          · have ht : decide (y < 128) = true := decide_eq_true (by omega)
            have HT := Aside0.mk htop
            clear htop
            have HAL : Aside0 (n - (i + 1) = (l.drop (i + 1)).length ∧ i + 1 ≤ l.length) := ⟨by rw [List.length_drop, HN.out], by rw [HN.out]; omega⟩
            have hcut : ∀ W : World, (Instr.slice 46 (.slice (some ad) n c) (some (.int .i64 (iz + 1))) none none).run Try.prog W = .ok (.slice (if c = i + 1 then some ad else (some ad).map (·.add ((i + 1) * 1))) (n - (i + 1)) (c - (i + 1))) W := fun W => by
              rw [cut_l' 46 5 .i64 1 Try.underlying46 (by kernel_rfl) (some ad) n c (iz + 1) (by omega) (by omega) W, show (iz + 1).toNat = i + 1 by omega]
            have HCD : Aside0 (Kd.C (Kd.int .u8) W0 (if c = i + 1 then some ad else (some ad).map (·.add ((i + 1) * 1))) (l.drop (i + 1)).length (l.drop (i + 1))) := ⟨Kd.C_drop H.out.2.1 HAL.out.2 H.out.1⟩
            obtain ⟨A', hA'⟩ : ∃ A', (if c = i + 1 then some ad else (some ad).map (·.add ((i + 1) * 1))) = A' := ⟨_, rfl⟩
            rw [hA'] at hcut HCD
            clear hA'
            have bad : (y = 0 ∧ 0 < i) ∨ most < x' → Aside0 (cGo most l 0 0 = none) := fun hb => ⟨by have := HST.out; rw [if_neg HT.out, if_pos hb] at this; exact this⟩
            have good : ¬ ((y = 0 ∧ 0 < i) ∨ most < x') → Aside0 (cGo most l 0 0 = some (x', l.drop (i + 1))) := fun hb => ⟨by have := HST.out; rw [if_neg HT.out, if_neg hb] at this; exact this⟩
            by_cases hb : (y = 0 ∧ 0 < i) ∨ most < x'
            · have HR := bad hb
              clear bad good
              rcases h9z with h9z | ⟨h9z, h9g⟩
              all_goals by_cases c0 : y = 0
              all_goals by_cases ci : 0 < i
              all_goals by_cases cm : most < x'
              all_goals first | (exfalso; omega) | skip
              all_goals
                (first | have c0b : (y == 0) = true := by (rw [c0]; rfl) | have c0b : (y == 0) = false := by (rw [beq_eq_false_iff_ne]; exact c0))
                (first | have cib : decide (0 < iz) = true := decide_eq_true (by omega) | have cib : decide (0 < iz) = false := decide_eq_false (by omega))
                (first | have cmb : decide (most < x') = true := decide_eq_true cm | have cmb : decide (most < x') = false := decide_eq_false cm)
                clear c0 ci cm hb hiz hlt hin h10
                go_wp2_with (go_at_call 89; refine HF.out.mono ?_; rintro e w2 ⟨rfl, hs⟩; have HS := Aside0.mk hs; clear hs)
                go_ret
                rw [cNat_none HR.out]
                exact ⟨rfl, HS.out⟩
            · have HR := good hb
              clear bad good
              rcases h9z with h9z | ⟨h9z, h9g⟩
              all_goals by_cases c0 : y = 0
              all_goals by_cases ci : 0 < i
              all_goals by_cases cm : most < x'
              all_goals first | (exfalso; omega) | skip
              all_goals
                (first | have c0b : (y == 0) = true := by (rw [c0]; rfl) | have c0b : (y == 0) = false := by (rw [beq_eq_false_iff_ne]; exact c0))
                (first | have cib : decide (0 < iz) = true := decide_eq_true (by omega) | have cib : decide (0 < iz) = false := decide_eq_false (by omega))
                (first | have cmb : decide (most < x') = true := decide_eq_true cm | have cmb : decide (most < x') = false := decide_eq_false cm)
                clear c0 ci cm hb hiz hlt hin h10
                go_wp2
                go_ret
                rw [cNat_some HR.out]
                exact ⟨rfl, St.rdShut (l.drop (i + 1), b) HAL.out.1 rfl (by have := HAL.out; have := H.out.1; have := HN.out; simp only [List.length_drop]; omega) HCD.out H.out.2.2 (S1.put 0 _ rfl)⟩
      · have h10z : decide (iz < 10) = false := decide_eq_false (by omega)
        have HR : Aside0 (cGo most l 0 0 = none) := ⟨by rw [← HO.out, HD.out, hy, cGo, if_pos (by omega)]⟩
        clear hgr HO hiz h10 hlt hin hx0 hx1 hy
        go_wp2_with (go_at_call 89; refine HF.out.mono ?_; rintro e w2 ⟨rfl, hs⟩; have HS := Aside0.mk hs; clear hs)
        go_ret
        rw [cNat_none HR.out]
        exact ⟨rfl, HS.out⟩
    · have hltz : decide (iz < (n : Int)) = false := decide_eq_false (by omega)
      have HR : Aside0 (cGo most l 0 0 = none) := ⟨by rw [← HO.out, List.drop_eq_nil_of_le (by have := HN.out; omega)]; rfl⟩
      clear HO hiz hlt hin hx0 hx1
      go_wp2_with (go_at_call 89; refine HF.out.mono ?_; rintro e w2 ⟨rfl, hs⟩; have HS := Aside0.mk hs; clear hs)
      go_ret
      rw [cNat_none HR.out]
      exact ⟨rfl, HS.out⟩
theorem cNat_pair {most : Int} {s : RS} : cNat most s = ((cNat most s).1, (cNat most s).2) := rfl
def Byt (s : RS) : Prop := (∀ b ∈ s.1, 0 ≤ b ∧ b < 256) ∧ s.1.length < 1000000
theorem Byt.nat {s : RS} (h : Byt s) {most : Int} (hm : 0 ≤ most) : Byt (cNat most s).2 := by
  obtain ⟨p, e⟩ := (cNat_spec most s hm).2.2
  exact ⟨fun b hb => h.1 b (by rw [e]; exact List.mem_append_right _ hb), by have := h.2; rw [e, List.length_append] at this; omega⟩
theorem Byt.int {s : RS} (h : Byt s) : Byt (cInt s).2 := Byt.nat h (by decide)
/-- Below a world that all blocks of F have come behind. -/
theorem St.old {W0 W w : World} {F : Nat → Prop} {l : List Part} (hB : Below W0.heap.size W0 W) (hF : ∀ k, F k → W0.heap.size ≤ k) (h : St W F w l) : Below W0.heap.size W0 w :=
  ⟨h.fr.os.trans hB.os, h.fr.tape.trans hB.tape, h.fr.output.trans hB.output, Nat.le_trans hB.size h.fr.size, fun k hk => (h.fr.block k (Nat.lt_of_lt_of_le hk hB.size) (fun hf => by have := hF k hf; omega)).trans (hB.block k hk)⟩
set_option maxHeartbeats 8000000 in
set_option maxRecDepth 100000 in
theorem ref_int (W0 W : World) (hB : Below W0.heap.size W0 W) (F : Nat → Prop) (g : Nat) (s : RS) (hby : Byt s) (h : RdP W0 51 g s W F) :
    Calls Try.prog 61 #[.pointer (some ⟨g, 0, none⟩)] W fun e w' => e = .returned (.int .i64 (cInt s).1) ∧ St W F w' [RdP W0 51 g (cInt s).2] := by
  have HC := Aside0.mk (ref_nat W0 W hB F g s 18446744073709551615 hby.1 h (by decide) hby.2)
  obtain ⟨n, hn⟩ : ∃ n, (cNat 18446744073709551615 s).1 = n := ⟨_, rfl⟩
  have hr : 0 ≤ n ∧ n ≤ 18446744073709551615 := by rw [← hn]; exact ⟨(cNat_spec _ s (by decide)).1, (cNat_spec 18446744073709551615 s (by decide)).2.1⟩
  have HN := Aside0.mk hn
  rw [hn] at HC
  have e1 : Int.tmod n 2 = n % 2 := Int.tmod_eq_emod_of_nonneg hr.1
  have e2 : Int.tdiv n 2 = n / 2 := Int.tdiv_eq_ediv_of_nonneg hr.1
  obtain ⟨q, hq⟩ : ∃ q, n / 2 = q := ⟨_, rfl⟩
  rw [hq] at e2
  have e0 : IntKind.u64.wrap q = q := by rw [IntKind.wrap_u64]; omega
  have e3 : wrap64 q = q := by unfold wrap64; omega
  have e4 : wrap64 (-q) = -q := by unfold wrap64; omega
  have e5 : wrap64 (-q - 1) = -q - 1 := by unfold wrap64; omega
  have HQ := Aside0.mk hq
  clear h hB hby hn hq
  by_cases c : n % 2 = 0
  · have cb : (n % 2 == 0) = true := by rw [c]; rfl
    have HR : Aside0 ((cInt s).1 = q) := ⟨by show cIv (cNat 18446744073709551615 s).1 = q; rw [HN.out, cIv, if_pos c, HQ.out]⟩
    have E3 := Aside0.mk e3
    clear c hr
    go_enter Try.func61, Try.ntmps61
    go_wp2_with (go_at_call 60; refine HC.out.mono ?_; rintro e w1 ⟨rfl, hs⟩; have HS := Aside0.mk hs; clear hs)
    go_ret
    exact ⟨by rw [HR.out]; show Ending.returned (.int .i64 (wrap64 q)) = _; rw [E3.out], HS.out⟩
  · have cb : (n % 2 == 0) = false := by rw [beq_eq_false_iff_ne]; exact c
    have HR : Aside0 ((cInt s).1 = -q - 1) := ⟨by show cIv (cNat 18446744073709551615 s).1 = -q - 1; rw [HN.out, cIv, if_neg c, HQ.out]⟩
    clear c hr
    go_enter Try.func61, Try.ntmps61
    go_wp2_with (go_at_call 60; refine HC.out.mono ?_; rintro e w1 ⟨rfl, hs⟩; have HS := Aside0.mk hs; clear hs)
    go_ret
    exact ⟨by rw [HR.out]; show Ending.returned (.int .i64 (wrap64 (-q - 1))) = _; rw [e5], HS.out⟩
/-! ### Orders read -/
abbrev M64 : Int := 18446744073709551615
def rOne (s : RS) : SO × RS :=
  (⟨(cNat M64 s).1, (cInt (cNat M64 s).2).1, (cInt (cInt (cNat M64 s).2).2).1, (cInt (cInt (cInt (cNat M64 s).2).2).2).1, (cInt (cInt (cInt (cInt (cNat M64 s).2).2).2).2).1, (cNat M64 (cInt (cInt (cInt (cInt (cNat M64 s).2).2).2).2).2).1⟩,
   (cNat M64 (cInt (cInt (cInt (cInt (cNat M64 s).2).2).2).2).2).2)
theorem Byt.one {s : RS} (h : Byt s) : Byt (rOne s).2 := Byt.nat (Byt.int (Byt.int (Byt.int (Byt.int (Byt.nat h (by decide)))))) (by decide)
def rMany : Nat → RS → List SO → List SO × RS
  | 0, s, acc => (acc, s)
  | n + 1, s, acc => rMany n (rOne s).2 (acc ++ [(rOne s).1])
def rAll (s : RS) : List SO × RS := rMany (cNat 64 s).1.toNat (cNat 64 s).2 []
theorem cInt_eq {s s' : RS} {a : Int} (h : cInt s = (a, s')) : (cInt s).1 = a ∧ (cInt s).2 = s' := by rw [h]; exact ⟨rfl, rfl⟩
set_option maxHeartbeats 8000000 in
set_option maxRecDepth 100000 in
theorem order_nat (W0 W : World) (hB : Below W0.heap.size W0 W) (F : Nat → Prop) (g gB : Nat) (s : RS) (hby : Byt s) (h : RdP W0 94 g s W F) (hz : W.cell? ⟨gB, 0, none⟩ = some (.pointer (some ⟨g, 0, none⟩))) :
    Calls Try.prog 56 #[.pointer (some ⟨gB, 0, none⟩)] W fun e w' => e = .returned (.int .u64 (cNat M64 s).1) ∧ St W F w' [RdP W0 94 g (cNat M64 s).2] := by
  have HC := Aside0.mk (codec_nat W0 W hB F g s 18446744073709551615 hby.1 h (by decide) hby.2)
  clear h hB hby
  go_enter Try.func56, Try.ntmps56
  go_wp2_with (go_at_call 57; refine HC.out.mono ?_; rintro e w1 ⟨rfl, hs⟩; have HS := Aside0.mk hs; clear hs)
  go_ret
  exact ⟨rfl, HS.out⟩
theorem infoO : (Try.prog.info? 33).map (fun i => (i.zero, i.size, i.bytes)) = some (some (.agg #[.int .u64 0, .int .i64 0, .int .i64 0, .int .i64 0, .int .i64 0, .int .u64 0]), 6, 48) := by kernel_rfl
def readOk (s : RS) (r : Bool) : Bool := !(rAll s).2.2 && r
def readS (s : RS) (r : Bool) : RS := if readOk s r = true then (rAll s).2 else ([], true)
def readL (s : RS) (r : Bool) : List SO := if readOk s r = true then (rAll s).1 else []
set_option maxHeartbeats 8000000 in
set_option maxRecDepth 100000 in
theorem order_read (W0 W : World) (hB : Below W0.heap.size W0 W) (F : Nat → Prop) (hF : ∀ k, F k → W0.heap.size ≤ k) (g : Nat) (s : RS) (hby : Byt s) (h : RdP W0 94 g s W F) (r : Bool) (hr : order_Book.f (rAll s).1 = some r) :
    Calls Try.prog 28 #[.pointer (some ⟨g, 0, none⟩)] W fun e w' => ∃ v, e = .returned (.tuple #[v, .bool (readOk s r)]) ∧ St W F w' [RdP W0 94 g (readS s r), Nw KO 33 v (readL s r)] := by
  have hu := Try.underlying33
  have S0 := St.start1 RdP.loc h
  have HB := Aside0.mk hB
  have HF := Aside0.mk hF
  have HBY := Aside0.mk hby
  have HR := Aside0.mk hr
  have hns := cNat_spec 64 s (by decide)
  obtain ⟨nz, hnz⟩ : ∃ nz, (cNat 64 s).1 = nz := ⟨_, rfl⟩
  obtain ⟨sA, hsA⟩ : ∃ x, (cNat 64 s).2 = x := ⟨_, rfl⟩
  have KA := Aside0.mk (fun (w : World) (F1 : Nat → Prop) (hb : Below W0.heap.size W0 w) (hA : RdP W0 94 g s w F1) => codec_nat W0 w hb F1 g s 64 hby.1 hA (by decide) hby.2)
  have HBA : Aside0 (Byt sA) := ⟨by rw [← hsA]; exact Byt.nat hby (by decide)⟩
  obtain ⟨N, hN⟩ : ∃ N : Nat, nz.toNat = N := ⟨_, rfl⟩
  have hnN : nz = (N : Int) := by rw [hnz] at hns; omega
  have hN64 : N ≤ 64 := by rw [hnz] at hns; omega
  have HALL : Aside0 (rMany N sA [] = rAll s) := ⟨by rw [rAll, hnz, hsA, hN]⟩
  rw [hnz, hsA] at KA
  subst hnN
  clear h hB hF hby hr hns hnz hsA hN
  go_enter Try.func28, Try.ntmps28
  go_wp2_with (first
    | ((with_reducible refine gate_dst (N := 1) rfl ?_); refine box_event ?hg (N := 1) ?hd (cs := #[.pointer (some ⟨g, 0, none⟩)]) (t := 47) ?hr ?_; (case hd => rfl); (case hg => rfl); (case hr => first | (go_simp; done) | (go_simp; rfl)); intro gB hg_ w1 hbB hb; have S1 := S0.box hg_ hb hbB; clear S0 hg_ hbB hb; have zB : w1.cell? ⟨gB, 0, none⟩ = some (.pointer (some ⟨g, 0, none⟩)) := (blk_cell (S1.blk 0 rfl) 0).trans rfl)
    | (go_at_call 57; obtain ⟨F1, hA1, _, up1⟩ := (S1.front 1 rfl).join; refine (KA.out w1 F1 (St.old HB.out HF.out S1) hA1).mono ?_; rintro e w2 ⟨rfl, hs⟩; have S2 : St W F w2 [RdP W0 94 g sA, Pt gB #[.pointer (some ⟨g, 0, none⟩)] 47] := up1 w2 _ hs; clear S1 hA1 up1 hs zB))
  have S3 := Aside0.mk (S2.new (A := Nw KO 33 (.slice none 0 0) []) (Below.refl _ _) Nw.loc (Kd.N_nil _ _ _ _ _))
  clear S2
  go_loopg [2, 8] N (fun g1 v2 v8 wr => ∃ (j : Nat) (jz : Int) (acc : List SO) (s' : RS), v8 = .int .u64 jz ∧ Aside0 (jz = j) ∧ 0 ≤ jz ∧ jz ≤ N ∧ N ≤ j + g1 ∧ j ≤ N ∧ Aside0 (acc.length = j) ∧ Aside0 (Byt s') ∧ Aside0 (rMany (N - j) s' acc = rAll s) ∧ Aside0 (St W F wr [Nw KO 33 v2 acc, RdP W0 94 g s', Pt gB #[.pointer (some ⟨g, 0, none⟩)] 47]))
  case atStart => exact ⟨0, 0, [], sA, rfl, ⟨rfl⟩, by omega, by omega, by omega, by omega, ⟨rfl⟩, HBA, HALL, S3⟩
  case round =>
    clear S3 HALL HBA
    obtain ⟨j, jz, acc, s', rfl, HJ, hj0, hjN, hg, hjN', HAC, HBY', HO, HS⟩ := hrel
    by_cases hlt : j < N
    · have hltz : jz < (N : Int) := by rw [HJ.out]; omega
      have hby := HBY'.out
      have hone : rOne s' = rOne s' := rfl
      have hmany : rMany (N - j) s' acc = rMany (N - (j + 1)) (rOne s').2 (acc ++ [(rOne s').1]) := by rw [show N - j = (N - (j + 1)) + 1 by omega]; rfl
      rw [HO.out] at hmany
      obtain ⟨x, hx⟩ : ∃ x, (rOne s').1 = x := ⟨_, rfl⟩
      obtain ⟨sZ, hsZ⟩ : ∃ x, (rOne s').2 = x := ⟨_, rfl⟩
      have HBZ : Aside0 (Byt sZ) := ⟨by rw [← hsZ]; exact Byt.one hby⟩
      rw [hx, hsZ] at hmany
      simp only [rOne] at hx hsZ
      obtain ⟨a1, ha1⟩ : ∃ x, (cNat M64 s').1 = x := ⟨_, rfl⟩
      obtain ⟨s1, hs1⟩ : ∃ x, (cNat M64 s').2 = x := ⟨_, rfl⟩
      have hby1 : Byt s1 := by rw [← hs1]; exact Byt.nat hby (by decide)
      have K1 := Aside0.mk (fun (w : World) (F1 : Nat → Prop) (hb : Below W0.heap.size W0 w) (hA : RdP W0 94 g s' w F1) (hz : w.cell? ⟨gB, 0, none⟩ = some (.pointer (some ⟨g, 0, none⟩))) => order_nat W0 w hb F1 g gB s' hby hA hz)
      rw [ha1, hs1] at K1
      rw [hs1] at hsZ hx
      simp only [ha1] at hx
      obtain ⟨a2, ha2⟩ : ∃ x, (cInt s1).1 = x := ⟨_, rfl⟩
      obtain ⟨s2, hs2⟩ : ∃ x, (cInt s1).2 = x := ⟨_, rfl⟩
      have hby2 : Byt s2 := by rw [← hs2]; exact Byt.int hby1
      have K2 := Aside0.mk (fun (w : World) (F1 : Nat → Prop) (hb : Below W0.heap.size W0 w) (hA : RdP W0 94 g s1 w F1) => codec_int W0 w hb F1 g s1 hby1.1 hA hby1.2)
      rw [ha2, hs2] at K2
      rw [hs2] at hsZ hx
      simp only [ha2] at hx
      obtain ⟨a3, ha3⟩ : ∃ x, (cInt s2).1 = x := ⟨_, rfl⟩
      obtain ⟨s3, hs3⟩ : ∃ x, (cInt s2).2 = x := ⟨_, rfl⟩
      have hby3 : Byt s3 := by rw [← hs3]; exact Byt.int hby2
      have K3 := Aside0.mk (fun (w : World) (F1 : Nat → Prop) (hb : Below W0.heap.size W0 w) (hA : RdP W0 94 g s2 w F1) => codec_int W0 w hb F1 g s2 hby2.1 hA hby2.2)
      rw [ha3, hs3] at K3
      rw [hs3] at hsZ hx
      simp only [ha3] at hx
      obtain ⟨a4, ha4⟩ : ∃ x, (cInt s3).1 = x := ⟨_, rfl⟩
      obtain ⟨s4, hs4⟩ : ∃ x, (cInt s3).2 = x := ⟨_, rfl⟩
      have hby4 : Byt s4 := by rw [← hs4]; exact Byt.int hby3
      have K4 := Aside0.mk (fun (w : World) (F1 : Nat → Prop) (hb : Below W0.heap.size W0 w) (hA : RdP W0 94 g s3 w F1) => codec_int W0 w hb F1 g s3 hby3.1 hA hby3.2)
      rw [ha4, hs4] at K4
      rw [hs4] at hsZ hx
      simp only [ha4] at hx
      obtain ⟨a5, ha5⟩ : ∃ x, (cInt s4).1 = x := ⟨_, rfl⟩
      obtain ⟨s5, hs5⟩ : ∃ x, (cInt s4).2 = x := ⟨_, rfl⟩
      have hby5 : Byt s5 := by rw [← hs5]; exact Byt.int hby4
      have K5 := Aside0.mk (fun (w : World) (F1 : Nat → Prop) (hb : Below W0.heap.size W0 w) (hA : RdP W0 94 g s4 w F1) => codec_int W0 w hb F1 g s4 hby4.1 hA hby4.2)
      rw [ha5, hs5] at K5
      rw [hs5] at hsZ hx
      simp only [ha5] at hx
      obtain ⟨a6, ha6⟩ : ∃ x, (cNat M64 s5).1 = x := ⟨_, rfl⟩
      obtain ⟨s6, hs6⟩ : ∃ x, (cNat M64 s5).2 = x := ⟨_, rfl⟩
      have hby6 : Byt s6 := by rw [← hs6]; exact Byt.nat hby5 (by decide)
      have K6 := Aside0.mk (fun (w : World) (F1 : Nat → Prop) (hb : Below W0.heap.size W0 w) (hA : RdP W0 94 g s5 w F1) (hz : w.cell? ⟨gB, 0, none⟩ = some (.pointer (some ⟨g, 0, none⟩))) => order_nat W0 w hb F1 g gB s5 hby5 hA hz)
      rw [ha6, hs6] at K6
      simp only [ha6] at hx
      rw [hs6] at hsZ
      subst hsZ
      subst hx
      have HM := Aside0.mk hmany
      have zB : wr.cell? ⟨gB, 0, none⟩ = some (.pointer (some ⟨g, 0, none⟩)) := (blk_cell (HS.out.blk 2 rfl) 0).trans rfl
      clear hmany hby hone ha1 hs1 hby1 ha2 hs2 hby2 ha3 hs3 hby3 ha4 hs4 hby4 ha5 hs5 hby5 ha6 hs6 hby6
      go_wp2_with fail
      go_region_held3 (fun w' => w'.cell? ⟨gB, 0, none⟩ = some (.pointer (some ⟨g, 0, none⟩))) (first | exact Y7 | exact Y6 | exact Y5 | exact Y4 | exact Y3 | exact Y2 | exact Y1 | go_keep) (first
        | (go_at_call 56; refine Calls.named ?_; intro v1 hv; have T1 : St W F v1 [Nw KO 33 u2 acc, RdP W0 94 g s', Pt gB #[.pointer (some ⟨g, 0, none⟩)] 47] := (HS.out).call (by rw [hv]; with_reducible first | exact Below.refl _ _ | exact below_drew1 (Below.refl _ _) | exact below_drew1 (below_drew1 (Below.refl _ _))); clear hv; obtain ⟨F1, hA, _, up⟩ := (T1.front 1 rfl).join; (with_reducible refine (K1.out v1 F1 (St.old HB.out HF.out T1) hA ((blk_cell (T1.blk 2 rfl) 0).trans rfl)).mono ?_); rintro e y1 ⟨rfl, hs⟩; have S1 : St W F y1 [RdP W0 94 g s1, Nw KO 33 u2 acc, Pt gB #[.pointer (some ⟨g, 0, none⟩)] 47] := up y1 _ hs; have Y1 : y1.cell? ⟨gB, 0, none⟩ = some (.pointer (some ⟨g, 0, none⟩)) := (blk_cell (S1.blk 2 rfl) 0).trans rfl; clear T1 hA up hs)
        | (go_at_call 58; refine Calls.named ?_; intro v2 hv; have T2 : St W F v2 [RdP W0 94 g s1, Nw KO 33 u2 acc, Pt gB #[.pointer (some ⟨g, 0, none⟩)] 47] := (S1).call (by rw [hv]; with_reducible first | exact Below.refl _ _ | exact below_drew1 (Below.refl _ _) | exact below_drew1 (below_drew1 (Below.refl _ _))); clear hv; obtain ⟨F2, hA, _, up⟩ := T2.join; (with_reducible refine (K2.out v2 F2 (St.old HB.out HF.out T2) hA).mono ?_); rintro e y2 ⟨rfl, hs⟩; have S2 : St W F y2 [RdP W0 94 g s2, Nw KO 33 u2 acc, Pt gB #[.pointer (some ⟨g, 0, none⟩)] 47] := up y2 _ hs; have Y2 : y2.cell? ⟨gB, 0, none⟩ = some (.pointer (some ⟨g, 0, none⟩)) := (blk_cell (S2.blk 2 rfl) 0).trans rfl; clear T2 hA up hs)
        | (go_at_call 58; refine Calls.named ?_; intro v3 hv; have T3 : St W F v3 [RdP W0 94 g s2, Nw KO 33 u2 acc, Pt gB #[.pointer (some ⟨g, 0, none⟩)] 47] := (S2).call (by rw [hv]; with_reducible first | exact Below.refl _ _ | exact below_drew1 (Below.refl _ _) | exact below_drew1 (below_drew1 (Below.refl _ _))); clear hv; obtain ⟨F3, hA, _, up⟩ := T3.join; (with_reducible refine (K3.out v3 F3 (St.old HB.out HF.out T3) hA).mono ?_); rintro e y3 ⟨rfl, hs⟩; have S3 : St W F y3 [RdP W0 94 g s3, Nw KO 33 u2 acc, Pt gB #[.pointer (some ⟨g, 0, none⟩)] 47] := up y3 _ hs; have Y3 : y3.cell? ⟨gB, 0, none⟩ = some (.pointer (some ⟨g, 0, none⟩)) := (blk_cell (S3.blk 2 rfl) 0).trans rfl; clear T3 hA up hs)
        | (go_at_call 58; refine Calls.named ?_; intro v4 hv; have T4 : St W F v4 [RdP W0 94 g s3, Nw KO 33 u2 acc, Pt gB #[.pointer (some ⟨g, 0, none⟩)] 47] := (S3).call (by rw [hv]; with_reducible first | exact Below.refl _ _ | exact below_drew1 (Below.refl _ _) | exact below_drew1 (below_drew1 (Below.refl _ _))); clear hv; obtain ⟨F4, hA, _, up⟩ := T4.join; (with_reducible refine (K4.out v4 F4 (St.old HB.out HF.out T4) hA).mono ?_); rintro e y4 ⟨rfl, hs⟩; have S4 : St W F y4 [RdP W0 94 g s4, Nw KO 33 u2 acc, Pt gB #[.pointer (some ⟨g, 0, none⟩)] 47] := up y4 _ hs; have Y4 : y4.cell? ⟨gB, 0, none⟩ = some (.pointer (some ⟨g, 0, none⟩)) := (blk_cell (S4.blk 2 rfl) 0).trans rfl; clear T4 hA up hs)
        | (go_at_call 58; refine Calls.named ?_; intro v5 hv; have T5 : St W F v5 [RdP W0 94 g s4, Nw KO 33 u2 acc, Pt gB #[.pointer (some ⟨g, 0, none⟩)] 47] := (S4).call (by rw [hv]; with_reducible first | exact Below.refl _ _ | exact below_drew1 (Below.refl _ _) | exact below_drew1 (below_drew1 (Below.refl _ _))); clear hv; obtain ⟨F5, hA, _, up⟩ := T5.join; (with_reducible refine (K5.out v5 F5 (St.old HB.out HF.out T5) hA).mono ?_); rintro e y5 ⟨rfl, hs⟩; have S5 : St W F y5 [RdP W0 94 g s5, Nw KO 33 u2 acc, Pt gB #[.pointer (some ⟨g, 0, none⟩)] 47] := up y5 _ hs; have Y5 : y5.cell? ⟨gB, 0, none⟩ = some (.pointer (some ⟨g, 0, none⟩)) := (blk_cell (S5.blk 2 rfl) 0).trans rfl; clear T5 hA up hs)
        | (go_at_call 56; refine Calls.named ?_; intro v6 hv; have T6 : St W F v6 [RdP W0 94 g s5, Nw KO 33 u2 acc, Pt gB #[.pointer (some ⟨g, 0, none⟩)] 47] := (S5).call (by rw [hv]; with_reducible first | exact Below.refl _ _ | exact below_drew1 (Below.refl _ _) | exact below_drew1 (below_drew1 (Below.refl _ _))); clear hv; obtain ⟨F6, hA, _, up⟩ := T6.join; (with_reducible refine (K6.out v6 F6 (St.old HB.out HF.out T6) hA ((blk_cell (T6.blk 2 rfl) 0).trans rfl)).mono ?_); rintro e y6 ⟨rfl, hs⟩; have S6 : St W F y6 [RdP W0 94 g s6, Nw KO 33 u2 acc, Pt gB #[.pointer (some ⟨g, 0, none⟩)] 47] := up y6 _ hs; have Y6 : y6.cell? ⟨gB, 0, none⟩ = some (.pointer (some ⟨g, 0, none⟩)) := (blk_cell (S6.blk 2 rfl) 0).trans rfl; clear T6 hA up hs; have n6 : gB ≠ y6.heap.size := Nat.ne_of_lt (blk_lt (S6.blk 2 rfl)); have n6' := Ne.symm n6)
        | (obtain ⟨ok, okp, p1, p2, p3, p4, p5⟩ := (S6.front 1 rfl).append_one (p := (⟨a1, a2, a3, a4, a5, a6⟩ : SO)) (k33_mkF y6 (fun _ => False) (⟨a1, a2, a3, a4, a5, a6⟩ : SO)) (fun _ h => h); refine Kd.N_append_step KO (W := y6) (w0 := y6) 0 (by rfl) (.tmp 10) (.tmp 24) 22 33 (.agg #[.int .u64 0, .int .i64 0, .int .i64 0, .int .i64 0, .int .i64 0, .int .u64 0]) 48 rfl Try.underlying22 infoO rfl (by decide) (by decide) u2 acc (⟨a1, a2, a3, a4, a5, a6⟩ : SO) [.int .u64 a1, .int .i64 a2, .int .i64 a3, .int .i64 a4, .int .i64 a5, .int .u64 a6] ok okp rfl rfl p2 p3 p4 p1 (Below.refl _ _) (Nat.zero_le _) (by have := HAC.out; omega) ?_; intro v7 y7 hN _ hg _; have S7 : St W F y7 [Nw KO 33 v7 (acc ++ [(⟨a1, a2, a3, a4, a5, a6⟩ : SO)]), RdP W0 94 g s6, Pt gB #[.pointer (some ⟨g, 0, none⟩)] 47] := p5 _ _ hN hg; have Y7 : y7.cell? ⟨gB, 0, none⟩ = some (.pointer (some ⟨g, 0, none⟩)) := (blk_cell (S7.blk 2 rfl) 0).trans rfl; clear p1 p2 p3 p4 p5 hN hg)
        | (obtain ⟨ok, okp, p1, p2, p3, p4, p5⟩ := (S6.drew1.front 1 rfl).append_one (p := (⟨a1, a2, a3, a4, a5, a6⟩ : SO)) (k33_mkF y6.drew (fun _ => False) (⟨a1, a2, a3, a4, a5, a6⟩ : SO)) (fun _ h => h); refine Kd.N_append_step KO (W := y6.drew) (w0 := y6.drew) 0 (by rfl) (.tmp 10) (.tmp 24) 22 33 (.agg #[.int .u64 0, .int .i64 0, .int .i64 0, .int .i64 0, .int .i64 0, .int .u64 0]) 48 rfl Try.underlying22 infoO rfl (by decide) (by decide) u2 acc (⟨a1, a2, a3, a4, a5, a6⟩ : SO) [.int .u64 a1, .int .i64 a2, .int .i64 a3, .int .i64 a4, .int .i64 a5, .int .u64 a6] ok okp rfl rfl p2 p3 p4 p1 (Below.refl _ _) (Nat.zero_le _) (by have := HAC.out; omega) ?_; intro v7 y7 hN _ hg _; have S7 : St W F y7 [Nw KO 33 v7 (acc ++ [(⟨a1, a2, a3, a4, a5, a6⟩ : SO)]), RdP W0 94 g s6, Pt gB #[.pointer (some ⟨g, 0, none⟩)] 47] := p5 _ _ hN hg; have Y7 : y7.cell? ⟨gB, 0, none⟩ = some (.pointer (some ⟨g, 0, none⟩)) := (blk_cell (S7.blk 2 rfl) 0).trans rfl; clear p1 p2 p3 p4 p5 hN hg))
      have wi : IntKind.u64.wrap (jz + 1) = jz + 1 := by rw [IntKind.wrap_u64]; omega
      go_wp2
      go_roundg (N - (j + 1))
      case measure => omega
      case rel => exact ⟨j + 1, jz + 1, acc ++ [⟨a1, a2, a3, a4, a5, a6⟩], s6, rfl, ⟨by rw [HJ.out]; rfl⟩, by omega, by have := HJ.out; omega, by omega, by omega, ⟨by rw [List.length_append, HAC.out]; rfl⟩, HBZ, ⟨HM.out.symm⟩, ⟨S7⟩⟩
    · have hltz : ¬ jz < (N : Int) := by rw [HJ.out]; omega
      have hall := HO.out
      rw [show N - j = 0 by omega] at hall
      have HE : Aside0 (rAll s = (acc, s')) := ⟨hall.symm⟩
      clear hall HO hlt
      rw [HE.out] at HR
      obtain ⟨F0, h0⟩ := HS.out.get 0 rfl
      obtain ⟨A2, c2, rfl⟩ := Kd.N_slice h0
      have HLE : Aside0 (acc.length = acc.length) := ⟨rfl⟩
      clear h0
      have zB : wr.cell? ⟨gB, 0, none⟩ = some (.pointer (some ⟨g, 0, none⟩)) := (blk_cell (HS.out.blk 2 rfl) 0).trans rfl
      obtain ⟨sl, sb⟩ := s'
      cases sb with
      | true =>
        have HOK : Aside0 (readOk s r = false) := ⟨by rw [readOk, HE.out]; rfl⟩
        go_wp2_with (first
          | (go_at_call 31; obtain ⟨F1, hA⟩ := HS.out.get 1 rfl; refine (codec_bad W0 wr g _ F1 hA).mono ?_; rintro e w3 ⟨rfl, hb⟩; have S3 := HS.out.call hb; have zB : w3.cell? ⟨gB, 0, none⟩ = some (.pointer (some ⟨g, 0, none⟩)) := (blk_cell (S3.blk 2 rfl) 0).trans rfl; clear hA hb)
          | (go_at_call 59; obtain ⟨F1, hA, _, up⟩ := (S3.front 1 rfl).join; refine (codec_fail W0 _ F1 g _ hA).mono ?_; rintro e w5 ⟨rfl, hs⟩; have S5 := (up w5 _ hs).take 1; clear hA up hs))
        go_ret2
        exact ⟨_, by rw [HOK.out]; rfl, by rw [readS, readL, HOK.out]; exact (S5.new (A := Nw KO 33 (.slice none 0 0) []) (Below.refl _ _) Nw.loc (Kd.N_nil _ _ _ _ _)).perm2⟩
      | false =>
        cases r with
        | false =>
          have HOK : Aside0 (readOk s false = false) := ⟨by rw [readOk, HE.out]; rfl⟩
          go_wp2_with (first
            | (go_at_call 31; obtain ⟨F1, hA⟩ := HS.out.get 1 rfl; refine (codec_bad W0 wr g _ F1 hA).mono ?_; rintro e w3 ⟨rfl, hb⟩; have S3 := HS.out.call hb; have zB : w3.cell? ⟨gB, 0, none⟩ = some (.pointer (some ⟨g, 0, none⟩)) := (blk_cell (S3.blk 2 rfl) 0).trans rfl; clear hA hb)
            | (go_at_call 15; refine (order_Book.calls A2 c2 acc false w3 (S3.nrd 0 rfl).2.2 (S3.nrd 0 rfl).2.1 HR.out).mono ?_; rintro e w4 ⟨rfl, hb⟩; have S4 := S3.call hb; have zB : w4.cell? ⟨gB, 0, none⟩ = some (.pointer (some ⟨g, 0, none⟩)) := (blk_cell (S4.blk 2 rfl) 0).trans rfl; clear S3 hb)
            | (go_at_call 59; obtain ⟨F1, hA, _, up⟩ := (S4.front 1 rfl).join; refine (codec_fail W0 _ F1 g _ hA).mono ?_; rintro e w5 ⟨rfl, hs⟩; have S5 := (up w5 _ hs).take 1; clear hA up hs))
          go_ret2
          exact ⟨_, by rw [HOK.out]; rfl, by rw [readS, readL, HOK.out]; exact (S5.new (A := Nw KO 33 (.slice none 0 0) []) (Below.refl _ _) Nw.loc (Kd.N_nil _ _ _ _ _)).perm2⟩
        | true =>
          have HOK : Aside0 (readOk s true = true) := ⟨by rw [readOk, HE.out]; rfl⟩
          go_wp2_with (first
            | (go_at_call 31; obtain ⟨F1, hA⟩ := HS.out.get 1 rfl; refine (codec_bad W0 wr g _ F1 hA).mono ?_; rintro e w3 ⟨rfl, hb⟩; have S3 := HS.out.call hb; have zB : w3.cell? ⟨gB, 0, none⟩ = some (.pointer (some ⟨g, 0, none⟩)) := (blk_cell (S3.blk 2 rfl) 0).trans rfl; clear hA hb)
            | (go_at_call 15; refine (order_Book.calls A2 c2 acc true w3 (S3.nrd 0 rfl).2.2 (S3.nrd 0 rfl).2.1 HR.out).mono ?_; rintro e w4 ⟨rfl, hb⟩; have S4 := S3.call hb; have zB : w4.cell? ⟨gB, 0, none⟩ = some (.pointer (some ⟨g, 0, none⟩)) := (blk_cell (S4.blk 2 rfl) 0).trans rfl; clear S3 hb))
          go_ret2
          exact ⟨_, by rw [HOK.out]; rfl, by rw [readS, readL, HOK.out, HE.out]; exact (S4.front 1 rfl).take 2⟩
abbrev SR := S41
abbrev KR := k41
def torO (x : SO) : SR := ⟨x.f0, x.f1, x.f2, x.f3, x.f4, x.f5⟩
theorem infoR : (Try.prog.info? 41).map (fun i => (i.zero, i.size, i.bytes)) = some (some (.agg #[.int .u64 0, .int .i64 0, .int .i64 0, .int .i64 0, .int .i64 0, .int .u64 0]), 6, 48) := by kernel_rfl
set_option maxHeartbeats 8000000 in
set_option maxRecDepth 100000 in
theorem ref_read (W0 W : World) (hB : Below W0.heap.size W0 W) (F : Nat → Prop) (hF : ∀ k, F k → W0.heap.size ≤ k) (g : Nat) (s : RS) (hby : Byt s) (h : RdP W0 51 g s W F) (kb : Nat) (r : Bool) (hr : jobberref12_Book.f kb ((rAll s).1.map torO) = some r) :
    Calls Try.prog 29 #[.pointer (some ⟨g, 0, none⟩)] W fun e w' => ∃ v, e = .returned (.tuple #[v, .bool (readOk s r)]) ∧ St W F w' [RdP W0 51 g (readS s r), Nw KR 41 v ((readL s r).map torO)] := by
  have hu := Try.underlying41
  have hu2 := Try.underlying51
  have S0 := St.start1 RdP.loc h
  have HB := Aside0.mk hB
  have HF := Aside0.mk hF
  have HBY := Aside0.mk hby
  have HR := Aside0.mk hr
  have hns := cNat_spec 64 s (by decide)
  obtain ⟨nz, hnz⟩ : ∃ nz, (cNat 64 s).1 = nz := ⟨_, rfl⟩
  obtain ⟨sA, hsA⟩ : ∃ x, (cNat 64 s).2 = x := ⟨_, rfl⟩
  have KA := Aside0.mk (fun (w : World) (F1 : Nat → Prop) (hb : Below W0.heap.size W0 w) (hA : RdP W0 51 g s w F1) => ref_nat W0 w hb F1 g s 64 hby.1 hA (by decide) hby.2)
  have HBA : Aside0 (Byt sA) := ⟨by rw [← hsA]; exact Byt.nat hby (by decide)⟩
  obtain ⟨N, hN⟩ : ∃ N : Nat, nz.toNat = N := ⟨_, rfl⟩
  have hnN : nz = (N : Int) := by rw [hnz] at hns; omega
  have hN64 : N ≤ 64 := by rw [hnz] at hns; omega
  have HALL : Aside0 (rMany N sA [] = rAll s) := ⟨by rw [rAll, hnz, hsA, hN]⟩
  rw [hnz, hsA] at KA
  subst hnN
  clear h hB hF hby hr hns hnz hsA hN
  go_enter Try.func29, Try.ntmps29
  go_wp2_with (go_at_call 60; obtain ⟨F1, hA1, _, up1⟩ := S0.join; refine (KA.out W F1 HB.out hA1).mono ?_; rintro e w2 ⟨rfl, hs⟩; have S2 : St W F w2 [RdP W0 51 g sA] := up1 w2 _ hs; clear S0 hA1 up1 hs)
  have S3 := Aside0.mk (S2.new (A := Nw KR 41 (.slice none 0 0) (([] : List SO).map torO)) (Below.refl _ _) Nw.loc (Kd.N_nil _ _ _ _ _))
  clear S2
  go_loopg [4, 6, 7] N (fun g1 v4 v6 v7 wr => ∃ (j : Nat) (jz : Int) (acc : List SO) (s' : RS), v6 = .int .u64 jz ∧ Aside0 (jz = j) ∧ 0 ≤ jz ∧ jz ≤ N ∧ N ≤ j + g1 ∧ j ≤ N ∧ Aside0 (acc.length = j) ∧ Aside0 (Byt s') ∧ Aside0 (rMany (N - j) s' acc = rAll s) ∧ Aside0 (St W F wr [Nw KR 41 v4 (acc.map torO), RdP W0 51 g s']))
  case atStart => exact ⟨0, 0, [], sA, rfl, ⟨rfl⟩, by omega, by omega, by omega, by omega, ⟨rfl⟩, HBA, HALL, S3⟩
  case round =>
    clear S3 HALL HBA
    obtain ⟨j, jz, acc, s', rfl, HJ, hj0, hjN, hg, hjN', HAC, HBY', HO, HS⟩ := hrel
    by_cases hlt : j < N
    · have hltz : jz < (N : Int) := by rw [HJ.out]; omega
      have hby := HBY'.out
      have hmany : rMany (N - j) s' acc = rMany (N - (j + 1)) (rOne s').2 (acc ++ [(rOne s').1]) := by rw [show N - j = (N - (j + 1)) + 1 by omega]; rfl
      rw [HO.out] at hmany
      obtain ⟨x, hx⟩ : ∃ x, (rOne s').1 = x := ⟨_, rfl⟩
      obtain ⟨sZ, hsZ⟩ : ∃ x, (rOne s').2 = x := ⟨_, rfl⟩
      have HBZ : Aside0 (Byt sZ) := ⟨by rw [← hsZ]; exact Byt.one hby⟩
      rw [hx, hsZ] at hmany
      simp only [rOne] at hx hsZ
      obtain ⟨a1, ha1⟩ : ∃ x, (cNat M64 s').1 = x := ⟨_, rfl⟩
      obtain ⟨s1, hs1⟩ : ∃ x, (cNat M64 s').2 = x := ⟨_, rfl⟩
      have hby1 : Byt s1 := by rw [← hs1]; exact Byt.nat hby (by decide)
      have K1 := Aside0.mk (fun (w : World) (F1 : Nat → Prop) (hb : Below W0.heap.size W0 w) (hA : RdP W0 51 g s' w F1) => ref_nat W0 w hb F1 g s' M64 hby.1 hA (by decide) hby.2)
      rw [ha1, hs1] at K1
      rw [hs1] at hsZ hx
      simp only [ha1] at hx
      obtain ⟨a2, ha2⟩ : ∃ x, (cInt s1).1 = x := ⟨_, rfl⟩
      obtain ⟨s2, hs2⟩ : ∃ x, (cInt s1).2 = x := ⟨_, rfl⟩
      have hby2 : Byt s2 := by rw [← hs2]; exact Byt.int hby1
      have K2 := Aside0.mk (fun (w : World) (F1 : Nat → Prop) (hb : Below W0.heap.size W0 w) (hA : RdP W0 51 g s1 w F1) => ref_int W0 w hb F1 g s1 hby1 hA)
      rw [ha2, hs2] at K2
      rw [hs2] at hsZ hx
      simp only [ha2] at hx
      obtain ⟨a3, ha3⟩ : ∃ x, (cInt s2).1 = x := ⟨_, rfl⟩
      obtain ⟨s3, hs3⟩ : ∃ x, (cInt s2).2 = x := ⟨_, rfl⟩
      have hby3 : Byt s3 := by rw [← hs3]; exact Byt.int hby2
      have K3 := Aside0.mk (fun (w : World) (F1 : Nat → Prop) (hb : Below W0.heap.size W0 w) (hA : RdP W0 51 g s2 w F1) => ref_int W0 w hb F1 g s2 hby2 hA)
      rw [ha3, hs3] at K3
      rw [hs3] at hsZ hx
      simp only [ha3] at hx
      obtain ⟨a4, ha4⟩ : ∃ x, (cInt s3).1 = x := ⟨_, rfl⟩
      obtain ⟨s4, hs4⟩ : ∃ x, (cInt s3).2 = x := ⟨_, rfl⟩
      have hby4 : Byt s4 := by rw [← hs4]; exact Byt.int hby3
      have K4 := Aside0.mk (fun (w : World) (F1 : Nat → Prop) (hb : Below W0.heap.size W0 w) (hA : RdP W0 51 g s3 w F1) => ref_int W0 w hb F1 g s3 hby3 hA)
      rw [ha4, hs4] at K4
      rw [hs4] at hsZ hx
      simp only [ha4] at hx
      obtain ⟨a5, ha5⟩ : ∃ x, (cInt s4).1 = x := ⟨_, rfl⟩
      obtain ⟨s5, hs5⟩ : ∃ x, (cInt s4).2 = x := ⟨_, rfl⟩
      have hby5 : Byt s5 := by rw [← hs5]; exact Byt.int hby4
      have K5 := Aside0.mk (fun (w : World) (F1 : Nat → Prop) (hb : Below W0.heap.size W0 w) (hA : RdP W0 51 g s4 w F1) => ref_int W0 w hb F1 g s4 hby4 hA)
      rw [ha5, hs5] at K5
      rw [hs5] at hsZ hx
      simp only [ha5] at hx
      obtain ⟨a6, ha6⟩ : ∃ x, (cNat M64 s5).1 = x := ⟨_, rfl⟩
      obtain ⟨s6, hs6⟩ : ∃ x, (cNat M64 s5).2 = x := ⟨_, rfl⟩
      have hby6 : Byt s6 := by rw [← hs6]; exact Byt.nat hby5 (by decide)
      have K6 := Aside0.mk (fun (w : World) (F1 : Nat → Prop) (hb : Below W0.heap.size W0 w) (hA : RdP W0 51 g s5 w F1) => ref_nat W0 w hb F1 g s5 M64 hby5.1 hA (by decide) hby5.2)
      rw [ha6, hs6] at K6
      simp only [ha6] at hx
      rw [hs6] at hsZ
      subst hsZ
      subst hx
      have HM := Aside0.mk hmany
      have S0 := HS.out
      clear hmany hby ha1 hs1 hby1 ha2 hs2 hby2 ha3 hs3 hby3 ha4 hs4 hby4 ha5 hs5 hby5 ha6 hs6 hby6
      have wi : IntKind.u64.wrap (jz + 1) = jz + 1 := by rw [IntKind.wrap_u64]; omega
      go_wp2_with (first
        | ((with_reducible refine gate_dst (N := 7) rfl ?_); refine box_event ?hg (N := 7) ?hd (cs := #[.int .u64 0, .int .i64 0, .int .i64 0, .int .i64 0, .int .i64 0, .int .u64 0]) (t := 41) ?hr ?_; (case hd => rfl); (case hg => rfl); (case hr => first | (go_simp; done) | (go_simp; rfl)); intro gX hg_ w1 hbB hb; have S1 := S0.box hg_ hb hbB; clear S0 hg_ hbB hb; have z0 : w1.cell? ⟨gX, 0, none⟩ = some (.int .u64 0) := (blk_cell (S1.blk 0 rfl) 0).trans rfl; have fz0 : w1.frozen? ⟨gX, 0, none⟩ = false := blk_frozen (S1.blk 0 rfl) 0; have z1 : w1.cell? ⟨gX, 1, none⟩ = some (.int .i64 0) := (blk_cell (S1.blk 0 rfl) 1).trans rfl; have fz1 : w1.frozen? ⟨gX, 1, none⟩ = false := blk_frozen (S1.blk 0 rfl) 1; have z2 : w1.cell? ⟨gX, 2, none⟩ = some (.int .i64 0) := (blk_cell (S1.blk 0 rfl) 2).trans rfl; have fz2 : w1.frozen? ⟨gX, 2, none⟩ = false := blk_frozen (S1.blk 0 rfl) 2; have z3 : w1.cell? ⟨gX, 3, none⟩ = some (.int .i64 0) := (blk_cell (S1.blk 0 rfl) 3).trans rfl; have fz3 : w1.frozen? ⟨gX, 3, none⟩ = false := blk_frozen (S1.blk 0 rfl) 3; have z4 : w1.cell? ⟨gX, 4, none⟩ = some (.int .i64 0) := (blk_cell (S1.blk 0 rfl) 4).trans rfl; have fz4 : w1.frozen? ⟨gX, 4, none⟩ = false := blk_frozen (S1.blk 0 rfl) 4; have z5 : w1.cell? ⟨gX, 5, none⟩ = some (.int .u64 0) := (blk_cell (S1.blk 0 rfl) 5).trans rfl; have fz5 : w1.frozen? ⟨gX, 5, none⟩ = false := blk_frozen (S1.blk 0 rfl) 5)
        | (go_at_call 60; have T1 : St W F w1 [Pt gX #[.int .u64 0, .int .i64 0, .int .i64 0, .int .i64 0, .int .i64 0, .int .u64 0] 41, Nw KR 41 u4 (acc.map torO), RdP W0 51 g s'] := S1; clear S1; obtain ⟨F1, hA, _, up⟩ := (T1.front 2 rfl).join; (with_reducible refine (K1.out w1 F1 (St.old HB.out HF.out T1) hA).mono ?_); rintro e y1 ⟨rfl, hs⟩; have S2 : St W F y1 [RdP W0 51 g s1, Pt gX #[.int .u64 0, .int .i64 0, .int .i64 0, .int .i64 0, .int .i64 0, .int .u64 0] 41, Nw KR 41 u4 (acc.map torO)] := up y1 _ hs; clear T1 hA up hs z0 z1 z2 z3 z4 z5 fz0 fz1 fz2 fz3 fz4 fz5; have z0 : y1.cell? ⟨gX, 0, none⟩ = some (.int .u64 0) := (blk_cell (S2.blk 1 rfl) 0).trans rfl; have fz0 : y1.frozen? ⟨gX, 0, none⟩ = false := blk_frozen (S2.blk 1 rfl) 0; have z1 : y1.cell? ⟨gX, 1, none⟩ = some (.int .i64 0) := (blk_cell (S2.blk 1 rfl) 1).trans rfl; have fz1 : y1.frozen? ⟨gX, 1, none⟩ = false := blk_frozen (S2.blk 1 rfl) 1; have z2 : y1.cell? ⟨gX, 2, none⟩ = some (.int .i64 0) := (blk_cell (S2.blk 1 rfl) 2).trans rfl; have fz2 : y1.frozen? ⟨gX, 2, none⟩ = false := blk_frozen (S2.blk 1 rfl) 2; have z3 : y1.cell? ⟨gX, 3, none⟩ = some (.int .i64 0) := (blk_cell (S2.blk 1 rfl) 3).trans rfl; have fz3 : y1.frozen? ⟨gX, 3, none⟩ = false := blk_frozen (S2.blk 1 rfl) 3; have z4 : y1.cell? ⟨gX, 4, none⟩ = some (.int .i64 0) := (blk_cell (S2.blk 1 rfl) 4).trans rfl; have fz4 : y1.frozen? ⟨gX, 4, none⟩ = false := blk_frozen (S2.blk 1 rfl) 4; have z5 : y1.cell? ⟨gX, 5, none⟩ = some (.int .u64 0) := (blk_cell (S2.blk 1 rfl) 5).trans rfl; have fz5 : y1.frozen? ⟨gX, 5, none⟩ = false := blk_frozen (S2.blk 1 rfl) 5)
        | (go_at_call 61; have T2 : St W F (y1.setCell ⟨gX, 0, none⟩ (.int .u64 a1)) [Pt gX #[.int .u64 a1, .int .i64 0, .int .i64 0, .int .i64 0, .int .i64 0, .int .u64 0] 41, RdP W0 51 g s1, Nw KR 41 u4 (acc.map torO)] := (S2.front 1 rfl).put 0 _ rfl; clear S2; obtain ⟨F2, hA, _, up⟩ := (T2.front 1 rfl).join; (with_reducible refine (K2.out (y1.setCell ⟨gX, 0, none⟩ (.int .u64 a1)) F2 (St.old HB.out HF.out T2) hA).mono ?_); rintro e y2 ⟨rfl, hs⟩; have S3 : St W F y2 [RdP W0 51 g s2, Pt gX #[.int .u64 a1, .int .i64 0, .int .i64 0, .int .i64 0, .int .i64 0, .int .u64 0] 41, Nw KR 41 u4 (acc.map torO)] := up y2 _ hs; clear T2 hA up hs z0 z1 z2 z3 z4 z5 fz0 fz1 fz2 fz3 fz4 fz5; have z0 : y2.cell? ⟨gX, 0, none⟩ = some (.int .u64 a1) := (blk_cell (S3.blk 1 rfl) 0).trans rfl; have fz0 : y2.frozen? ⟨gX, 0, none⟩ = false := blk_frozen (S3.blk 1 rfl) 0; have z1 : y2.cell? ⟨gX, 1, none⟩ = some (.int .i64 0) := (blk_cell (S3.blk 1 rfl) 1).trans rfl; have fz1 : y2.frozen? ⟨gX, 1, none⟩ = false := blk_frozen (S3.blk 1 rfl) 1; have z2 : y2.cell? ⟨gX, 2, none⟩ = some (.int .i64 0) := (blk_cell (S3.blk 1 rfl) 2).trans rfl; have fz2 : y2.frozen? ⟨gX, 2, none⟩ = false := blk_frozen (S3.blk 1 rfl) 2; have z3 : y2.cell? ⟨gX, 3, none⟩ = some (.int .i64 0) := (blk_cell (S3.blk 1 rfl) 3).trans rfl; have fz3 : y2.frozen? ⟨gX, 3, none⟩ = false := blk_frozen (S3.blk 1 rfl) 3; have z4 : y2.cell? ⟨gX, 4, none⟩ = some (.int .i64 0) := (blk_cell (S3.blk 1 rfl) 4).trans rfl; have fz4 : y2.frozen? ⟨gX, 4, none⟩ = false := blk_frozen (S3.blk 1 rfl) 4; have z5 : y2.cell? ⟨gX, 5, none⟩ = some (.int .u64 0) := (blk_cell (S3.blk 1 rfl) 5).trans rfl; have fz5 : y2.frozen? ⟨gX, 5, none⟩ = false := blk_frozen (S3.blk 1 rfl) 5)
        | (go_at_call 61; have T3 : St W F (y2.setCell ⟨gX, 1, none⟩ (.int .i64 a2)) [Pt gX #[.int .u64 a1, .int .i64 a2, .int .i64 0, .int .i64 0, .int .i64 0, .int .u64 0] 41, RdP W0 51 g s2, Nw KR 41 u4 (acc.map torO)] := (S3.front 1 rfl).put 1 _ rfl; clear S3; obtain ⟨F3, hA, _, up⟩ := (T3.front 1 rfl).join; (with_reducible refine (K3.out (y2.setCell ⟨gX, 1, none⟩ (.int .i64 a2)) F3 (St.old HB.out HF.out T3) hA).mono ?_); rintro e y3 ⟨rfl, hs⟩; have S4 : St W F y3 [RdP W0 51 g s3, Pt gX #[.int .u64 a1, .int .i64 a2, .int .i64 0, .int .i64 0, .int .i64 0, .int .u64 0] 41, Nw KR 41 u4 (acc.map torO)] := up y3 _ hs; clear T3 hA up hs z0 z1 z2 z3 z4 z5 fz0 fz1 fz2 fz3 fz4 fz5; have z0 : y3.cell? ⟨gX, 0, none⟩ = some (.int .u64 a1) := (blk_cell (S4.blk 1 rfl) 0).trans rfl; have fz0 : y3.frozen? ⟨gX, 0, none⟩ = false := blk_frozen (S4.blk 1 rfl) 0; have z1 : y3.cell? ⟨gX, 1, none⟩ = some (.int .i64 a2) := (blk_cell (S4.blk 1 rfl) 1).trans rfl; have fz1 : y3.frozen? ⟨gX, 1, none⟩ = false := blk_frozen (S4.blk 1 rfl) 1; have z2 : y3.cell? ⟨gX, 2, none⟩ = some (.int .i64 0) := (blk_cell (S4.blk 1 rfl) 2).trans rfl; have fz2 : y3.frozen? ⟨gX, 2, none⟩ = false := blk_frozen (S4.blk 1 rfl) 2; have z3 : y3.cell? ⟨gX, 3, none⟩ = some (.int .i64 0) := (blk_cell (S4.blk 1 rfl) 3).trans rfl; have fz3 : y3.frozen? ⟨gX, 3, none⟩ = false := blk_frozen (S4.blk 1 rfl) 3; have z4 : y3.cell? ⟨gX, 4, none⟩ = some (.int .i64 0) := (blk_cell (S4.blk 1 rfl) 4).trans rfl; have fz4 : y3.frozen? ⟨gX, 4, none⟩ = false := blk_frozen (S4.blk 1 rfl) 4; have z5 : y3.cell? ⟨gX, 5, none⟩ = some (.int .u64 0) := (blk_cell (S4.blk 1 rfl) 5).trans rfl; have fz5 : y3.frozen? ⟨gX, 5, none⟩ = false := blk_frozen (S4.blk 1 rfl) 5)
        | (go_at_call 61; have T4 : St W F (y3.setCell ⟨gX, 2, none⟩ (.int .i64 a3)) [Pt gX #[.int .u64 a1, .int .i64 a2, .int .i64 a3, .int .i64 0, .int .i64 0, .int .u64 0] 41, RdP W0 51 g s3, Nw KR 41 u4 (acc.map torO)] := (S4.front 1 rfl).put 2 _ rfl; clear S4; obtain ⟨F4, hA, _, up⟩ := (T4.front 1 rfl).join; (with_reducible refine (K4.out (y3.setCell ⟨gX, 2, none⟩ (.int .i64 a3)) F4 (St.old HB.out HF.out T4) hA).mono ?_); rintro e y4 ⟨rfl, hs⟩; have S5 : St W F y4 [RdP W0 51 g s4, Pt gX #[.int .u64 a1, .int .i64 a2, .int .i64 a3, .int .i64 0, .int .i64 0, .int .u64 0] 41, Nw KR 41 u4 (acc.map torO)] := up y4 _ hs; clear T4 hA up hs z0 z1 z2 z3 z4 z5 fz0 fz1 fz2 fz3 fz4 fz5; have z0 : y4.cell? ⟨gX, 0, none⟩ = some (.int .u64 a1) := (blk_cell (S5.blk 1 rfl) 0).trans rfl; have fz0 : y4.frozen? ⟨gX, 0, none⟩ = false := blk_frozen (S5.blk 1 rfl) 0; have z1 : y4.cell? ⟨gX, 1, none⟩ = some (.int .i64 a2) := (blk_cell (S5.blk 1 rfl) 1).trans rfl; have fz1 : y4.frozen? ⟨gX, 1, none⟩ = false := blk_frozen (S5.blk 1 rfl) 1; have z2 : y4.cell? ⟨gX, 2, none⟩ = some (.int .i64 a3) := (blk_cell (S5.blk 1 rfl) 2).trans rfl; have fz2 : y4.frozen? ⟨gX, 2, none⟩ = false := blk_frozen (S5.blk 1 rfl) 2; have z3 : y4.cell? ⟨gX, 3, none⟩ = some (.int .i64 0) := (blk_cell (S5.blk 1 rfl) 3).trans rfl; have fz3 : y4.frozen? ⟨gX, 3, none⟩ = false := blk_frozen (S5.blk 1 rfl) 3; have z4 : y4.cell? ⟨gX, 4, none⟩ = some (.int .i64 0) := (blk_cell (S5.blk 1 rfl) 4).trans rfl; have fz4 : y4.frozen? ⟨gX, 4, none⟩ = false := blk_frozen (S5.blk 1 rfl) 4; have z5 : y4.cell? ⟨gX, 5, none⟩ = some (.int .u64 0) := (blk_cell (S5.blk 1 rfl) 5).trans rfl; have fz5 : y4.frozen? ⟨gX, 5, none⟩ = false := blk_frozen (S5.blk 1 rfl) 5)
        | (go_at_call 61; have T5 : St W F (y4.setCell ⟨gX, 3, none⟩ (.int .i64 a4)) [Pt gX #[.int .u64 a1, .int .i64 a2, .int .i64 a3, .int .i64 a4, .int .i64 0, .int .u64 0] 41, RdP W0 51 g s4, Nw KR 41 u4 (acc.map torO)] := (S5.front 1 rfl).put 3 _ rfl; clear S5; obtain ⟨F5, hA, _, up⟩ := (T5.front 1 rfl).join; (with_reducible refine (K5.out (y4.setCell ⟨gX, 3, none⟩ (.int .i64 a4)) F5 (St.old HB.out HF.out T5) hA).mono ?_); rintro e y5 ⟨rfl, hs⟩; have S6 : St W F y5 [RdP W0 51 g s5, Pt gX #[.int .u64 a1, .int .i64 a2, .int .i64 a3, .int .i64 a4, .int .i64 0, .int .u64 0] 41, Nw KR 41 u4 (acc.map torO)] := up y5 _ hs; clear T5 hA up hs z0 z1 z2 z3 z4 z5 fz0 fz1 fz2 fz3 fz4 fz5; have z0 : y5.cell? ⟨gX, 0, none⟩ = some (.int .u64 a1) := (blk_cell (S6.blk 1 rfl) 0).trans rfl; have fz0 : y5.frozen? ⟨gX, 0, none⟩ = false := blk_frozen (S6.blk 1 rfl) 0; have z1 : y5.cell? ⟨gX, 1, none⟩ = some (.int .i64 a2) := (blk_cell (S6.blk 1 rfl) 1).trans rfl; have fz1 : y5.frozen? ⟨gX, 1, none⟩ = false := blk_frozen (S6.blk 1 rfl) 1; have z2 : y5.cell? ⟨gX, 2, none⟩ = some (.int .i64 a3) := (blk_cell (S6.blk 1 rfl) 2).trans rfl; have fz2 : y5.frozen? ⟨gX, 2, none⟩ = false := blk_frozen (S6.blk 1 rfl) 2; have z3 : y5.cell? ⟨gX, 3, none⟩ = some (.int .i64 a4) := (blk_cell (S6.blk 1 rfl) 3).trans rfl; have fz3 : y5.frozen? ⟨gX, 3, none⟩ = false := blk_frozen (S6.blk 1 rfl) 3; have z4 : y5.cell? ⟨gX, 4, none⟩ = some (.int .i64 0) := (blk_cell (S6.blk 1 rfl) 4).trans rfl; have fz4 : y5.frozen? ⟨gX, 4, none⟩ = false := blk_frozen (S6.blk 1 rfl) 4; have z5 : y5.cell? ⟨gX, 5, none⟩ = some (.int .u64 0) := (blk_cell (S6.blk 1 rfl) 5).trans rfl; have fz5 : y5.frozen? ⟨gX, 5, none⟩ = false := blk_frozen (S6.blk 1 rfl) 5)
        | (go_at_call 60; have T6 : St W F (y5.setCell ⟨gX, 4, none⟩ (.int .i64 a5)) [Pt gX #[.int .u64 a1, .int .i64 a2, .int .i64 a3, .int .i64 a4, .int .i64 a5, .int .u64 0] 41, RdP W0 51 g s5, Nw KR 41 u4 (acc.map torO)] := (S6.front 1 rfl).put 4 _ rfl; clear S6; obtain ⟨F6, hA, _, up⟩ := (T6.front 1 rfl).join; (with_reducible refine (K6.out (y5.setCell ⟨gX, 4, none⟩ (.int .i64 a5)) F6 (St.old HB.out HF.out T6) hA).mono ?_); rintro e y6 ⟨rfl, hs⟩; have S7 : St W F y6 [RdP W0 51 g s6, Pt gX #[.int .u64 a1, .int .i64 a2, .int .i64 a3, .int .i64 a4, .int .i64 a5, .int .u64 0] 41, Nw KR 41 u4 (acc.map torO)] := up y6 _ hs; clear T6 hA up hs z0 z1 z2 z3 z4 z5 fz0 fz1 fz2 fz3 fz4 fz5; have z0 : y6.cell? ⟨gX, 0, none⟩ = some (.int .u64 a1) := (blk_cell (S7.blk 1 rfl) 0).trans rfl; have fz0 : y6.frozen? ⟨gX, 0, none⟩ = false := blk_frozen (S7.blk 1 rfl) 0; have z1 : y6.cell? ⟨gX, 1, none⟩ = some (.int .i64 a2) := (blk_cell (S7.blk 1 rfl) 1).trans rfl; have fz1 : y6.frozen? ⟨gX, 1, none⟩ = false := blk_frozen (S7.blk 1 rfl) 1; have z2 : y6.cell? ⟨gX, 2, none⟩ = some (.int .i64 a3) := (blk_cell (S7.blk 1 rfl) 2).trans rfl; have fz2 : y6.frozen? ⟨gX, 2, none⟩ = false := blk_frozen (S7.blk 1 rfl) 2; have z3 : y6.cell? ⟨gX, 3, none⟩ = some (.int .i64 a4) := (blk_cell (S7.blk 1 rfl) 3).trans rfl; have fz3 : y6.frozen? ⟨gX, 3, none⟩ = false := blk_frozen (S7.blk 1 rfl) 3; have z4 : y6.cell? ⟨gX, 4, none⟩ = some (.int .i64 a5) := (blk_cell (S7.blk 1 rfl) 4).trans rfl; have fz4 : y6.frozen? ⟨gX, 4, none⟩ = false := blk_frozen (S7.blk 1 rfl) 4; have z5 : y6.cell? ⟨gX, 5, none⟩ = some (.int .u64 0) := (blk_cell (S7.blk 1 rfl) 5).trans rfl; have fz5 : y6.frozen? ⟨gX, 5, none⟩ = false := blk_frozen (S7.blk 1 rfl) 5)
        | ((with_reducible refine gate_builtin (b := .append) (xs := #[.tmp 33, .tmp 35]) rfl ?_); at_builtin; have T7 : St W F (y6.setCell ⟨gX, 5, none⟩ (.int .u64 a6)) [Pt gX #[.int .u64 a1, .int .i64 a2, .int .i64 a3, .int .i64 a4, .int .i64 a5, .int .u64 a6] 41, RdP W0 51 g s6, Nw KR 41 u4 (acc.map torO)] := (S7.front 1 rfl).put 5 _ rfl; obtain ⟨ok, okp, p1, p2, p3, p4, p5⟩ := (T7.front 2 rfl).append_one (p := (⟨a1, a2, a3, a4, a5, a6⟩ : SR)) (k41_mkF (y6.setCell ⟨gX, 5, none⟩ (.int .u64 a6)) (fun _ => False) (⟨a1, a2, a3, a4, a5, a6⟩ : SR)) (fun _ h => h); refine Kd.N_append KR (W := (y6.setCell ⟨gX, 5, none⟩ (.int .u64 a6))) (w0 := (y6.setCell ⟨gX, 5, none⟩ (.int .u64 a6))) 0 rfl (.tmp 33) (.tmp 35) 24 41 (.agg #[.int .u64 0, .int .i64 0, .int .i64 0, .int .i64 0, .int .i64 0, .int .u64 0]) 48 rfl Try.underlying24 infoR rfl (by decide) (by decide) u4 (acc.map torO) (⟨a1, a2, a3, a4, a5, a6⟩ : SR) [.int .u64 a1, .int .i64 a2, .int .i64 a3, .int .i64 a4, .int .i64 a5, .int .u64 a6] ok okp rfl (show Value.slice (some ⟨y6.heap.size, 0, none⟩) 1 1 = Value.slice (some ⟨(y6.setCell ⟨gX, 5, none⟩ (.int .u64 a6)).heap.size, 0, none⟩) 1 1 by simp) p2 p3 p4 p1 (Below.refl _ _) (Nat.zero_le _) (by have := HAC.out; rw [List.length_map]; omega) ?_; intro v8 y7 hN _ hg _; have S8 : St W F y7 [Nw KR 41 v8 (acc.map torO ++ [(⟨a1, a2, a3, a4, a5, a6⟩ : SR)]), Pt gX #[.int .u64 a1, .int .i64 a2, .int .i64 a3, .int .i64 a4, .int .i64 a5, .int .u64 a6] 41, RdP W0 51 g s6] := p5 _ _ hN hg; clear p1 p2 p3 p4 p5 hN hg T7 S7 z0 z1 z2 z3 z4 z5 fz0 fz1 fz2 fz3 fz4 fz5))
      go_roundg (N - (j + 1))
      case measure => omega
      case rel => exact ⟨j + 1, jz + 1, acc ++ [⟨a1, a2, a3, a4, a5, a6⟩], s6, rfl, ⟨by rw [HJ.out]; rfl⟩, by omega, by have := HJ.out; omega, by omega, by omega, ⟨by rw [List.length_append, HAC.out]; rfl⟩, HBZ, ⟨HM.out.symm⟩, ⟨by rw [List.map_append]; exact (((S8.front 2 rfl).front 1 rfl).take 2)⟩⟩
    · have hltz : ¬ jz < (N : Int) := by rw [HJ.out]; omega
      have hall := HO.out
      rw [show N - j = 0 by omega] at hall
      have HE : Aside0 (rAll s = (acc, s')) := ⟨hall.symm⟩
      clear hall HO hlt
      rw [HE.out] at HR
      obtain ⟨F0, h0⟩ := HS.out.get 0 rfl
      obtain ⟨A2, c2, e2⟩ := Kd.N_slice h0
      obtain ⟨n2, hn2⟩ : ∃ n2, (acc.map torO).length = n2 := ⟨_, rfl⟩
      rw [hn2] at e2
      have HN2 := Aside0.mk hn2
      subst e2
      clear h0 hn2
      obtain ⟨A, c, k1, k2, k3, S2⟩ := (HS.out.front 1 rfl).rdOpen
      obtain ⟨sl, sb⟩ := s'
      have HK := Aside0.mk (And.intro k1 (And.intro k2 k3))
      clear k1 k2 k3
      dsimp only at HK S2
      have HB2 : Aside0 (∀ r', jobberref12_Book.f kb (acc.map torO) = some r' → Calls Try.prog 16 #[.slice A2 n2 c2] wr fun e w' => e = .returned (.bool r') ∧ Below wr.heap.size wr w') := ⟨fun r' h => HN2.out ▸ jobberref12_Book.calls kb A2 c2 (acc.map torO) r' wr (S2.nrd 1 rfl).2.2 (Nat.le_trans (Nat.le_of_eq HN2.out) (S2.nrd 1 rfl).2.1) h⟩
      cases sb with
      | true =>
        have z0 : wr.cell? ⟨g, 0, none⟩ = some (.slice A sl.length c) := (blk_cell (S2.blk 0 rfl) 0).trans rfl; have fz0 : wr.frozen? ⟨g, 0, none⟩ = false := blk_frozen (S2.blk 0 rfl) 0; have z1 : wr.cell? ⟨g, 1, none⟩ = some (.bool true) := (blk_cell (S2.blk 0 rfl) 1).trans rfl; have fz1 : wr.frozen? ⟨g, 1, none⟩ = false := blk_frozen (S2.blk 0 rfl) 1
        have HOK : Aside0 (readOk s r = false) := ⟨by rw [readOk, HE.out]; rfl⟩
        go_wp2_with (go_at_call 62; obtain ⟨F1, hA, _, up⟩ := (St.rdShut (sl, true) rfl rfl HK.out.1 HK.out.2.1 HK.out.2.2 S2).join; refine (ref_fail W0 wr F1 g _ hA).mono ?_; rintro e w5 ⟨rfl, hs⟩; have S5 := (up w5 _ hs).take 1; clear hA up hs)
        go_ret2
        exact ⟨_, by rw [HOK.out]; rfl, by rw [readS, readL, HOK.out]; exact (S5.new (A := Nw KR 41 (.slice none 0 0) (([] : List SO).map torO)) (Below.refl _ _) Nw.loc (Kd.N_nil _ _ _ _ _)).perm2⟩
      | false =>
        have z0 : wr.cell? ⟨g, 0, none⟩ = some (.slice A sl.length c) := (blk_cell (S2.blk 0 rfl) 0).trans rfl; have fz0 : wr.frozen? ⟨g, 0, none⟩ = false := blk_frozen (S2.blk 0 rfl) 0; have z1 : wr.cell? ⟨g, 1, none⟩ = some (.bool false) := (blk_cell (S2.blk 0 rfl) 1).trans rfl; have fz1 : wr.frozen? ⟨g, 1, none⟩ = false := blk_frozen (S2.blk 0 rfl) 1
        cases r with
        | false =>
          have HOK : Aside0 (readOk s false = false) := ⟨by rw [readOk, HE.out]; rfl⟩
          go_wp2_with (first
            | (go_at_call 16; (with_reducible refine (HB2.out _ HR.out).mono ?_); rintro e w4 ⟨rfl, hb⟩; have S4 := S2.call hb; clear hb)
            | (go_at_call 62; obtain ⟨F1, hA, _, up⟩ := (St.rdShut (sl, false) rfl rfl HK.out.1 HK.out.2.1 HK.out.2.2 S4).join; refine (ref_fail W0 w4 F1 g _ hA).mono ?_; rintro e w5 ⟨rfl, hs⟩; have S5 := (up w5 _ hs).take 1; clear hA up hs))
          go_ret2
          exact ⟨_, by rw [HOK.out]; rfl, by rw [readS, readL, HOK.out]; exact (S5.new (A := Nw KR 41 (.slice none 0 0) (([] : List SO).map torO)) (Below.refl _ _) Nw.loc (Kd.N_nil _ _ _ _ _)).perm2⟩
        | true =>
          have HOK : Aside0 (readOk s true = true) := ⟨by rw [readOk, HE.out]; rfl⟩
          go_wp2_with (go_at_call 16; (with_reducible refine (HB2.out _ HR.out).mono ?_); rintro e w4 ⟨rfl, hb⟩; have S4 := S2.call hb; clear hb)
          go_ret2
          exact ⟨_, by rw [HOK.out]; rfl, by rw [readS, readL, HOK.out, HE.out]; exact St.rdShut (sl, false) rfl rfl HK.out.1 HK.out.2.1 HK.out.2.2 S4⟩
theorem St.join2 {W w : World} {F0 : Nat → Prop} {A : Part} {l : List Part} (h : St W F0 w (A :: l)) : ∃ F, A w F ∧ (∀ k, F k → F0 k ∨ W.heap.size ≤ k) ∧ ∀ (w' : World) (l' : List Part), St w F w' l' → St W F0 w' (l' ++ l) := by
  obtain ⟨h0, hst⟩ := h
  obtain ⟨F, h1, h2, h3, h4⟩ := hst.bound
  refine ⟨F, h3, fun k hk => (h1 k hk).1, fun w' l' k => ?_⟩
  refine ⟨h0.trans k.fr (fun i hi => (h1 i hi).1), ?_⟩
  have h5 := h4.step k.fr.size (fun i hi hl => k.fr.block i hl hi.2)
  exact (Stars.append k.st h5 (fun i hi hi' => hi.elim hi'.2 (fun hh => by have := hi'.1.2; omega))).mono (fun i hi => hi.elim (fun hh => hh.elim (fun hf => (h1 i hf).1) (fun hs => .inr (Nat.le_trans h0.size hs))) (fun hh => hh.1.1))
set_option maxHeartbeats 8000000 in
set_option maxRecDepth 100000 in
theorem codec_open (W : World) (A : Option Addr) (c : Nat) (l : List Int) (hC : Kd.C (Kd.int .u8) W A l.length l) (hc : l.length ≤ c) :
    Calls Try.prog 27 #[.slice A l.length c] W fun e w' => ∃ g, e = .returned (.pointer (some ⟨g, 0, none⟩)) ∧ St W (fun _ => False) w' [RdP W 94 g (l, false)] := by
  have hu := Try.underlying94
  have S0 := St.start W (fun _ => False)
  have H := Aside0.mk (And.intro hc hC)
  obtain ⟨n, hn⟩ : ∃ n, l.length = n := ⟨_, rfl⟩
  rw [hn]
  have HN := Aside0.mk hn
  clear hC hc hn
  go_enter Try.func27, Try.ntmps27
  go_wp2_with ((with_reducible refine gate_dst (N := 5) rfl ?_); refine box_event ?hg (N := 5) ?hd (cs := #[.slice A n c, .bool false]) (t := 94) ?hr ?_; (case hd => rfl); (case hg => rfl); (case hr => first | (go_simp; done) | (go_simp; rfl)); intro g hg_ w1 hbB hb; have S1 := S0.box hg_ hb hbB; clear S0 hg_ hbB hb)
  go_ret
  exact ⟨g, rfl, St.rdShut (l, false) HN.out.symm rfl H.out.1 H.out.2 (Nat.le_of_not_lt fun hk => S1.old_ne 0 rfl hk rfl) S1⟩
def jobberlaw12_OrderReads.f (k : Nat) (l0 : List Int) : Option Bool :=
  if (l0.length : Int) > 3000 then some true else
  if (l0.all fun b => decide (0 ≤ b) && decide (b < 256)) = true then
    (order_Book.f (rAll (l0, false)).1).bind fun p => (jobberref12_Book.f k ((rAll (l0, false)).1.map torO)).bind fun q =>
      if p = q then (jobberlaw12_Same.f k (readL (l0, false) p) ((readL (l0, false) p).map torO)).bind fun t => if t = true then some true else none else none
  else none
set_option maxHeartbeats 8000000 in
set_option maxRecDepth 100000 in
theorem jobberlaw12_OrderReads.calls (k : Nat) (A0 : Option Addr) (c0 : Nat) (l0 : List Int) (r : Bool) (w : World) (hr0 : Kd.C (Kd.int .u8) w A0 l0.length l0) (hc0 : l0.length ≤ c0) (h : jobberlaw12_OrderReads.f k l0 = some r) :
    Calls Try.prog 6 #[.slice A0 l0.length c0] w fun e w' => e = .returned (.bool r) ∧ Below w.heap.size w w' := by
  have hu := Try.underlying51
  have mixed : Try.prog.follows .mixedOrders = true := by kernel_rfl
  unfold jobberlaw12_OrderReads.f at h
  by_cases c1 : (l0.length : Int) > 3000
  · rw [if_pos c1] at h
    obtain rfl := Option.some.inj h
    have c1b : decide (3000 < (l0.length : Int)) = true := decide_eq_true c1
    clear h c1 hr0 hc0
    go_enter Try.func6, Try.ntmps6
    go_wp2_with (go_at_call 10; refine (jobberlaw12_lives.calls true w rfl).mono ?_; rintro e w1 ⟨rfl, hb⟩; have HB1 := Aside0.mk hb; clear hb)
    go_ret
    exact ⟨rfl, HB1.out⟩
  · rw [if_neg c1] at h
    have c1b : decide (3000 < (l0.length : Int)) = false := decide_eq_false c1
    by_cases c2 : (l0.all fun b => decide (0 ≤ b) && decide (b < 256)) = true
    · rw [if_pos c2] at h
      obtain ⟨p, hp, h⟩ := Option.bind_eq_some_iff.mp h
      obtain ⟨q, hq, h⟩ := Option.bind_eq_some_iff.mp h
      by_cases c3 : p = q
      · rw [if_pos c3] at h
        subst c3
        obtain ⟨t, ht, h⟩ := Option.bind_eq_some_iff.mp h
        by_cases c4 : t = true
        · rw [if_pos c4] at h
          subst c4
          obtain rfl := Option.some.inj h
          have hby : Byt (l0, false) := ⟨fun b hb => by have := List.all_eq_true.1 c2 b hb; simpa using this, by show l0.length < 1000000; omega⟩
          have HBY := Aside0.mk hby
          have HP := Aside0.mk hp
          have HQ := Aside0.mk hq
          have HT := Aside0.mk ht
          have HC := Aside0.mk (And.intro hr0 hc0)
          have HO := Aside0.mk (codec_open w A0 c0 l0 hr0 hc0)
          obtain ⟨ok, hok⟩ : ∃ ok, readOk (l0, false) p = ok := ⟨_, rfl⟩
          obtain ⟨sE, hsE⟩ : ∃ x, readS (l0, false) p = x := ⟨_, rfl⟩
          obtain ⟨lE, hlE⟩ : ∃ x, readL (l0, false) p = x := ⟨_, rfl⟩
          rw [hlE] at HT
          have KR1 := Aside0.mk (fun (w2 : World) (hb : Below w.heap.size w w2) (F1 : Nat → Prop) (hF : ∀ i, F1 i → w.heap.size ≤ i) (g : Nat) (hA : RdP w 94 g (l0, false) w2 F1) => order_read w w2 hb F1 hF g (l0, false) hby hA p hp)
          have KR2 := Aside0.mk (fun (w2 : World) (hb : Below w.heap.size w w2) (F1 : Nat → Prop) (hF : ∀ i, F1 i → w.heap.size ≤ i) (g : Nat) (hA : RdP w 51 g (l0, false) w2 F1) => ref_read w w2 hb F1 hF g (l0, false) hby hA k p hq)
          rw [hok, hsE, hlE] at KR1 KR2
          obtain ⟨n0, hn0⟩ : ∃ n, l0.length = n := ⟨_, rfl⟩
          rw [hn0] at HO c1b ⊢
          have HN0 := Aside0.mk hn0
          have S0 := St.start w (fun _ => False)
          clear h c1 c2 hr0 hc0 hp hq ht hby hok hsE hlE hn0
          go_enter Try.func6, Try.ntmps6
          go_wp2_with (first
            | (go_at_call 27; refine HO.out.mono ?_; rintro e w1 ⟨g, rfl, hs⟩; have S1 : St w (fun _ => False) w1 [RdP w 94 g (l0, false)] := hs; clear hs S0)
            | ((with_reducible refine gate_dst (N := 17) rfl ?_); refine box_event ?hg (N := 17) ?hd (cs := #[.slice A0 n0 c0, .bool false]) (t := 51) ?hr ?_; (case hd => rfl); (case hg => rfl); (case hr => first | (go_simp; done) | (go_simp; rfl)); intro gv hg_ w2 hbB hb; have S2 := S1.box hg_ hb hbB; clear S1 hg_ hbB hb)
            | (go_at_call 28; obtain ⟨F1, hA, hF1, up⟩ := (S2.front 1 rfl).join2; refine (KR1.out w2 S2.below F1 (fun i hi => (hF1 i hi).elim (fun f => f.elim) (fun x => x)) g hA).mono ?_; rintro e w3 ⟨v, rfl, hs⟩; have S3 : St w (fun _ => False) w3 [RdP w 94 g sE, Nw KO 33 v lE, Pt gv #[.slice A0 n0 c0, .bool false] 51] := up w3 _ hs; clear hA hF1 up hs S2)
            | (go_at_call 29; have T3 : St w (fun _ => False) w3 [RdP w 51 gv (l0, false), RdP w 94 g sE, Nw KO 33 v lE] := St.rdShut (l0, false) HN0.out.symm rfl HC.out.2 HC.out.1 (Nat.le_of_not_lt fun hk => S3.old_ne 2 rfl hk rfl) (S3.front 2 rfl); obtain ⟨F1, hA, hF1, up⟩ := T3.join2; refine (KR2.out w3 T3.below F1 (fun i hi => (hF1 i hi).elim (fun f => f.elim) (fun x => x)) gv hA).mono ?_; rintro e w4 ⟨v2, rfl, hs⟩; have S4 : St w (fun _ => False) w4 [RdP w 51 gv sE, Nw KR 41 v2 (lE.map torO), RdP w 94 g sE, Nw KO 33 v lE] := up w4 _ hs; clear hA hF1 up hs T3 S3))
          obtain ⟨Fa, ha⟩ := S4.get 1 rfl
          obtain ⟨A4, c4, e4⟩ := Kd.N_slice ha
          obtain ⟨Fb, hb⟩ := S4.get 3 rfl
          obtain ⟨A3, c3, e3⟩ := Kd.N_slice hb
          obtain ⟨m4, hm4⟩ : ∃ m, (lE.map torO).length = m := ⟨_, rfl⟩
          obtain ⟨m3, hm3⟩ : ∃ m, lE.length = m := ⟨_, rfl⟩
          rw [hm4] at e4
          rw [hm3] at e3
          subst e4 e3
          obtain ⟨A5, c5, k1, k2, k3, S5⟩ := S4.rdOpen
          obtain ⟨sl, sb⟩ := sE
          obtain ⟨nl, hnl⟩ : ∃ n, sl.length = n := ⟨_, rfl⟩
          dsimp only at S5 k1 k2
          rw [hnl] at S5
          have z0 : ∀ q : Bw w4, q.v.cell? ⟨gv, 0, none⟩ = some (.slice A5 nl c5) := fun q => (blk_cell ((S5.call q.h).blk 0 rfl) 0).trans rfl
          have z1 : ∀ q : Bw w4, q.v.cell? ⟨gv, 1, none⟩ = some (.bool sb) := fun q => (blk_cell ((S5.call q.h).blk 0 rfl) 1).trans rfl
          have C14 := fun q : Bw w4 => (show Calls Try.prog 14 #[.slice A3 m3 c3, .slice A4 m4 c4] q.v fun e w' => e = .returned (.bool true) ∧ Below q.v.heap.size q.v w' from by
            have n1 := (S5.call q.h).nrd 3 rfl
            have n2 := (S5.call q.h).nrd 1 rfl
            have := jobberlaw12_Same.calls k A3 c3 lE A4 c4 (lE.map torO) true q.v n1.2.2 (by omega) n2.2.2 (by omega) HT.out
            rw [hm3, hm4] at this
            exact this.mono (by rintro e w' ⟨he, hd⟩; exact ⟨he, hd.below⟩))
          have C30 := fun q : Bw w4 => (show Calls Try.prog 30 #[.pointer (some ⟨g, 0, none⟩)] q.v fun e w' => e = .returned (.int .i64 nl) ∧ Below q.v.heap.size q.v w' from by
            obtain ⟨F1, h1⟩ := (S5.call q.h).get 2 rfl
            have := codec_left w q.v g (sl, sb) F1 h1
            dsimp only at this
            rw [hnl] at this
            exact this)
          have C31 := fun q : Bw w4 => (show Calls Try.prog 31 #[.pointer (some ⟨g, 0, none⟩)] q.v fun e w' => e = .returned (.bool sb) ∧ Below q.v.heap.size q.v w' from by
            obtain ⟨F1, h1⟩ := (S5.call q.h).get 2 rfl
            exact codec_bad w q.v g (sl, sb) F1 h1)
          have b1 : (ok == ok) = true := by simp
          have b2 : (sb == sb) = true := by simp
          have b3 : ((nl : Int) == (nl : Int)) = true := by simp
          clear ha hb k1 k2 k3 hm3 hm4 hnl
          refine wp_region_quiet_below (by assumption) (by kernel_rfl) ?_
          repeat (quiet_step (first
            | (go_at_call 14; refine Calls.bw_of _ (C14 _))
            | (go_at_call 30; refine Calls.bw_of _ (C30 _))
            | (go_at_call 31; refine Calls.bw_of _ (C31 _))
            | (go_at_call 10; refine Calls.bw_of _ (jobberlaw12_lives.calls true _ rfl))))
          refine wpQuiet_nil ?_
          intro wq hwq_
          have hwq := Bw.get hwq_
          clear hwq_
          go_wp2
          go_ret
          exact ⟨rfl, S5.below.trans (hwq.mono S5.below.size)⟩
        · rw [if_neg c4] at h; cases h
      · rw [if_neg c3] at h; cases h
    · rw [if_neg c2] at h; cases h

end Go.Proofs.Ytlihfiajbhpokaa.Orb
