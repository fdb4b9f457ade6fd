/- Printed by this session's wip/drive.py over the translation; some functions by hand. -/
import Derived.Test.YthkhfhhbldjdlaaChpx0
import Derived.Test.YthkhfhhbldjdlaaChpx1
import Derived.Test.YthkhfhhbldjdlaaChpx2
import Derived.Test.YthkhfhhbldjdlaaChpx3
import Derived.Test.YthkhfhhbldjdlaaChpx4
namespace Go.Proofs.Ythkhfhhbldjdlaa.Chp
open Go.RowKit Go.Proofs.YthkhfhhbldjdlaaW.PrintWords Go.Proofs.YthkhfhhbldjdlaaW.PrintLast Go.Proofs.YthkhfhhbldjdlaaW.PrintMore
attribute [local go_sem] max2_int min2_int max_two min_two max_three min_three max_four min_four   -- for this text's walks alone
set_option linter.unusedVariables false
set_option linter.unusedSimpArgs false

/-! ### jobberlaw38_both: function 26 (by hand) -/
/-! ### SL: what a call's own memory holds, part by part, each with the blocks that it lies in -/
/-- From w to w' only the blocks of F have turned, and new ones have come. -/
structure Fr (F : Nat → Prop) (w w' : World) : Prop where
  os : w'.os = w.os
  tape : w'.tape = w.tape
  output : w'.output = w.output
  size : w.heap.size ≤ w'.heap.size
  block : ∀ k, k < w.heap.size → ¬ F k → w'.heap[k]? = w.heap[k]?
theorem Fr.refl (F : Nat → Prop) (w : World) : Fr F w w := ⟨rfl, rfl, rfl, Nat.le_refl _, fun _ _ _ => rfl⟩
theorem Fr.trans {F F' : Nat → Prop} {w w1 w2 : World} (h : Fr F w w1) (k : Fr F' w1 w2) (hF : ∀ i, F' i → F i ∨ w.heap.size ≤ i) : Fr F w w2 :=
  ⟨k.os.trans h.os, k.tape.trans h.tape, k.output.trans h.output, Nat.le_trans h.size k.size, fun i hi hn => (k.block i (Nat.lt_of_lt_of_le hi h.size) (fun hf => (hF i hf).elim hn (fun hh => absurd hi (Nat.not_lt.2 hh)))).trans (h.block i hi hn)⟩
theorem Fr.of_below {F : Nat → Prop} {w w' : World} (h : Below w.heap.size w w') : Fr F w w' := ⟨h.os, h.tape, h.output, h.size, fun k hk _ => h.block k hk⟩
theorem Fr.below {w w' : World} (h : Fr (fun _ => False) w w') : Below w.heap.size w w' := ⟨h.os, h.tape, h.output, h.size, fun k hk => h.block k hk (fun f => f)⟩
theorem Fr.mono {F F' : Nat → Prop} {w w' : World} (h : Fr F w w') (hF : ∀ k, F k → F' k) : Fr F' w w' := ⟨h.os, h.tape, h.output, h.size, fun k hk hn => h.block k hk (fun hf => hn (hF k hf))⟩
theorem Fr.set {F : Nat → Prop} {w w1 : World} (h : Fr F w w1) {p : Addr} (hg : F p.block ∨ w.heap.size ≤ p.block) (u : Value) : Fr F w (w1.setCell p u) :=
  ⟨h.os, h.tape, h.output, by simpa [World.setCell] using h.size, fun k hk hn => (Below.heap_setCell w1 p u k (fun e => by rcases hg with hg | hg; exact hn (e ▸ hg); omega)).trans (h.block k hk hn)⟩
/-- A part of memory: it holds of a world and of the blocks that it lies in. -/
abbrev Part := World → (Nat → Prop) → Prop
structure Loc (A : Part) : Prop where
  step : ∀ {w w' : World} {F : Nat → Prop}, A w F → w.heap.size ≤ w'.heap.size → (∀ k, F k → k < w.heap.size → w'.heap[k]? = w.heap[k]?) → A w' F
  bound : ∀ {w : World} {F : Nat → Prop}, A w F → A w (fun k => F k ∧ k < w.heap.size)
  mono : ∀ {w : World} {F F' : Nat → Prop}, A w F → (∀ k, F k → F' k) → A w F'
def Stars : List Part → (Nat → Prop) → World → Prop
  | [], _, _ => True
  | A :: l, G, w => ∃ F : Nat → Prop, (∀ k, F k → G k) ∧ Loc A ∧ A w F ∧ Stars l (fun k => G k ∧ ¬ F k) w
theorem Stars.mono : ∀ {l : List Part} {G G' : Nat → Prop} {w : World}, Stars l G w → (∀ k, G k → G' k) → Stars l G' w
  | [], _, _, _, _, _ => trivial
  | _ :: _, _, _, _, ⟨F, h1, h2, h3, h4⟩, h => ⟨F, fun k hk => h k (h1 k hk), h2, h3, Stars.mono h4 (fun k hk => ⟨h k hk.1, hk.2⟩)⟩
theorem Stars.step : ∀ {l : List Part} {G : Nat → Prop} {w w' : World}, Stars l G w → w.heap.size ≤ w'.heap.size → (∀ k, G k → k < w.heap.size → w'.heap[k]? = w.heap[k]?) → Stars l G w'
  | [], _, _, _, _, _, _ => trivial
  | _ :: _, _, _, _, ⟨F, h1, h2, h3, h4⟩, hs, h => ⟨F, h1, h2, h2.step h3 hs (fun k hk hl => h k (h1 k hk) hl), Stars.step h4 hs (fun k hk hl => h k hk.1 hl)⟩
theorem Stars.bound : ∀ {l : List Part} {G : Nat → Prop} {w : World}, Stars l G w → Stars l (fun k => G k ∧ k < w.heap.size) w
  | [], _, _, _ => trivial
  | _ :: _, _, _, ⟨F, h1, h2, h3, h4⟩ => ⟨fun k => F k ∧ k < _, fun k hk => ⟨h1 k hk.1, hk.2⟩, h2, h2.bound h3, Stars.mono (Stars.bound h4) (fun k hk => ⟨⟨hk.1.1, hk.2⟩, fun hf => hk.1.2 hf.1⟩)⟩
theorem Stars.swap {A B : Part} {l : List Part} {G : Nat → Prop} {w : World} : Stars (A :: B :: l) G w → Stars (B :: A :: l) G w := by
  rintro ⟨F, h1, h2, h3, F', k1, k2, k3, k4⟩
  exact ⟨F', fun k hk => (k1 k hk).1, k2, k3, F, fun k hk => ⟨h1 k hk, fun hf => (k1 k hf).2 hk⟩, h2, h3, k4.mono (fun k hk => ⟨⟨hk.1.1, hk.2⟩, hk.1.2⟩)⟩
theorem Stars.front : ∀ (i : Nat) {l : List Part} {A : Part} {G : Nat → Prop} {w : World}, Stars l G w → l[i]? = some A → Stars (A :: l.eraseIdx i) G w
  | 0, _ :: _, _, _, _, h, e => by cases e; exact h
  | i + 1, B :: l, A, G, w, ⟨F, h1, h2, h3, h4⟩, e => by
    have := Stars.front i h4 (by simpa using e)
    exact Stars.swap ⟨F, h1, h2, h3, this⟩
theorem Stars.loc : ∀ {l : List Part}, Loc (fun w F => Stars l F w)
  | [] => ⟨fun _ _ _ => trivial, fun _ => trivial, fun _ _ => trivial⟩
  | _ :: _ => ⟨fun h hs hh => Stars.step h hs hh, fun h => Stars.bound h, fun h hh => Stars.mono h hh⟩
/-- Behind W, in a call that may turn the blocks of F0: the parts of l, apart from one another. -/
structure St (W : World) (F0 : Nat → Prop) (w : World) (l : List Part) : Prop where
  fr : Fr F0 W w
  st : Stars l (fun k => F0 k ∨ W.heap.size ≤ k) w
section
variable {W w w' : World} {F0 : Nat → Prop} {l : List Part} {A B : Part}
theorem St.start (W : World) (F0 : Nat → Prop) : St W F0 W [] := ⟨Fr.refl _ _, trivial⟩
theorem St.start1 (hl : Loc A) (h : A W F0) : St W F0 W [A] := ⟨Fr.refl _ _, F0, fun _ hk => .inl hk, hl, h, trivial⟩
theorem St.call (h : St W F0 w l) (hb : Below w.heap.size w w') : St W F0 w' l := ⟨h.fr.trans (Fr.of_below (F := fun _ => False) hb) (fun _ hk => hk.elim), h.st.step hb.size (fun k _ hl => hb.block k hl)⟩
theorem St.drew (h : St W F0 w l) (n : Nat) : St W F0 (w.drewN n) l := h.call (pw_below_drewN (Below.refl _ _) n)
theorem St.drew1 (h : St W F0 w l) : St W F0 w.drew l := h.call (below_drew (Below.refl _ _))
/-- A call that makes memory of its own. -/
theorem St.new (h : St W F0 w l) (hb : Below w.heap.size w w') (hl : Loc A) (ha : A w' (fun k => w.heap.size ≤ k)) : St W F0 w' (A :: l) := by
  have h' := h.call hb
  refine ⟨h'.fr, fun k => w.heap.size ≤ k, fun k hk => .inr (Nat.le_trans h.fr.size hk), hl, ha, ?_⟩
  have hs := h.st.bound.step hb.size (fun k hk hl => hb.block k hl)
  exact hs.mono (fun k hk => ⟨hk.1, by omega⟩)
theorem St.front (h : St W F0 w l) (i : Nat) (e : l[i]? = some A) : St W F0 w (A :: l.eraseIdx i) := ⟨h.fr, h.st.front i e⟩
theorem St.perm2 (h : St W F0 w (A :: B :: l)) : St W F0 w (B :: A :: l) := ⟨h.fr, h.st.swap⟩
theorem St.drop (h : St W F0 w (A :: l)) : St W F0 w l := by
  obtain ⟨h0, F, h1, h2, h3, h4⟩ := h
  exact ⟨h0, h4.mono (fun k hk => hk.1)⟩
theorem St.imp {A' : Part} (h : St W F0 w (A :: l)) (hl : Loc A') (hi : ∀ F, A w F → A' w F) : St W F0 w (A' :: l) := by
  obtain ⟨h0, F, h1, h2, h3, h4⟩ := h
  exact ⟨h0, F, h1, hl, hi F h3, h4⟩
theorem St.get (h : St W F0 w l) (i : Nat) (e : l[i]? = some A) : ∃ F, A w F := by
  obtain ⟨h0, F, h1, h2, h3, h4⟩ := h.front i e
  exact ⟨F, h3⟩
/-- The first part is turned, by a call that turns nothing else. -/
theorem St.upd (h : St W F0 w (A :: l)) : ∃ F, A w F ∧ (∀ k, F k → k < w.heap.size ∧ (F0 k ∨ W.heap.size ≤ k)) ∧ ∀ (w' : World) (A' : Part) (F' : Nat → Prop), Fr F w w' → (∀ k, F' k → F k ∨ w.heap.size ≤ k) → Loc A' → A' w' F' → St W F0 w' (A' :: l) := by
  obtain ⟨h0, hst⟩ := h
  obtain ⟨F, h1, h2, h3, h4⟩ := hst.bound
  refine ⟨F, h3, fun k hk => ⟨(h1 k hk).2, (h1 k hk).1⟩, fun w' A' F' hf hF' hl ha => ?_⟩
  refine ⟨h0.trans hf (fun k hk => (h1 k hk).1), F', fun k hk => ?_, hl, ha, ?_⟩
  · rcases hF' k hk with h | h
    · exact (h1 k h).1
    · exact .inr (Nat.le_trans h0.size h)
  · exact (h4.step hf.size (fun k hk hl => hf.block k hl hk.2)).mono (fun k hk => ⟨hk.1.1, fun hh => by rcases hF' k hh with h | h; exact hk.2 h; have := hk.1.2; omega⟩)
theorem St.end_ (h : St W F0 w (A :: l)) : Fr F0 W w ∧ ∃ F', (∀ k, F' k → F0 k ∨ W.heap.size ≤ k) ∧ A w F' := by
  obtain ⟨h0, F, h1, h2, h3, h4⟩ := h
  exact ⟨h0, F, h1, h3⟩
theorem St.below (h : St W (fun _ => False) w l) : Below W.heap.size W w := h.fr.below
/-- Two parts as one. -/
theorem St.merge (h : St W F0 w (A :: B :: l)) : St W F0 w ((fun w F => Stars [A, B] F w) :: l) := by
  obtain ⟨h0, F, h1, h2, h3, F', k1, k2, k3, k4⟩ := h
  exact ⟨h0, fun k => F k ∨ F' k, fun k hk => hk.elim (h1 k) (fun h => (k1 k h).1), Stars.loc, ⟨F, fun k hk => .inl hk, h2, h3, F', fun k hk => ⟨.inr hk, (k1 k hk).2⟩, k2, k3, trivial⟩, k4.mono (fun k hk => ⟨hk.1.1, fun hh => hh.elim hk.1.2 hk.2⟩)⟩
theorem St.split (h : St W F0 w ((fun w F => Stars [A, B] F w) :: l)) : St W F0 w (A :: B :: l) := by
  obtain ⟨h0, G, h1, h2, ⟨F, k1, k2, k3, F', j1, j2, j3, _⟩, h4⟩ := h
  exact ⟨h0, F, fun k hk => h1 k (k1 k hk), k2, k3, F', fun k hk => ⟨h1 k (j1 k hk).1, (j1 k hk).2⟩, j2, j3, h4.mono (fun k hk => ⟨⟨hk.1, fun hf => hk.2 (k1 k hf)⟩, fun hf => hk.2 (j1 k hf).1⟩)⟩
end
/-- One block of cells. -/
def Pt (g : Nat) (cs : Array Value) (t : TypeId) : Part := fun w F => F g ∧ w.heap[g]? = some (.cells cs t (0, 0))
theorem Pt.loc {g : Nat} {cs : Array Value} {t : TypeId} : Loc (Pt g cs t) :=
  ⟨fun h _ hh => ⟨h.1, (hh g h.1 (blk_lt h.2)).trans h.2⟩, fun h => ⟨⟨h.1, blk_lt h.2⟩, h.2⟩, fun h hh => ⟨hh g h.1, h.2⟩⟩
/-- A row of elements of the call's own. -/
def Rw {α : Type} (d : Kd α) (e : Nat) (v : Value) (xs : List α) : Part := fun w F => d.R e w 0 F v xs
theorem Rw.loc {α : Type} {d : Kd α} {e : Nat} {v : Value} {xs : List α} : Loc (Rw d e v xs) :=
  ⟨fun h _ hh => Kd.R_step h hh, fun h => Kd.R_mono (Kd.R_bound h) (fun _ hk => ⟨hk.1, hk.2.2.1⟩), fun h hh => Kd.R_mono h hh⟩
/-- Whatever holds as long as the blocks of F stay. -/
def Sem (P : World → Prop) : Part := fun w F => ∀ w' : World, w.heap.size ≤ w'.heap.size → (∀ k, F k → k < w.heap.size → w'.heap[k]? = w.heap[k]?) → P w'
theorem Sem.loc {P : World → Prop} : Loc (Sem P) :=
  ⟨fun h hs hh w' hs' h' => h w' (Nat.le_trans hs hs') (fun k hk hl => (h' k hk (Nat.lt_of_lt_of_le hl hs)).trans (hh k hk hl)), fun h w' hs h' => h w' hs (fun k hk hl => h' k ⟨hk, hl⟩ hl), fun h hh w' hs h' => h w' hs (fun k hk hl => h' k (hh k hk) hl)⟩
theorem Sem.now {P : World → Prop} {w : World} {F : Nat → Prop} (h : Sem P w F) : P w := h w (Nat.le_refl _) (fun _ _ _ => rfl)
section
variable {W w w' : World} {F0 : Nat → Prop} {l : List Part} {g g' : Nat} {cs cs' : Array Value} {t t' : TypeId}
theorem St.box (h : St W F0 w l) (e : g = w.heap.size) (hb : Below w.heap.size w w') (hg : w'.heap[g]? = some (.cells cs t (0, 0))) : St W F0 w' (Pt g cs t :: l) := h.new hb Pt.loc ⟨Nat.le_of_eq e.symm, hg⟩
theorem St.row {α : Type} {d : Kd α} {e : Nat} {v : Value} {xs : List α} {ok : Nat → Prop} (h : St W F0 w l) (hb : Below w.heap.size w w') (hr : d.R e w' w.heap.size ok v xs) : St W F0 w' (Rw d e v xs :: l) := h.new hb Rw.loc (Kd.R_lower (Kd.R_mono (Kd.R_bound hr) (fun _ hk => hk.2.1)) (Nat.zero_le _))
theorem St.put (h : St W F0 w (Pt g cs t :: l)) (i : Nat) (u : Value) (e : cs.setIfInBounds i u = cs') : St W F0 (w.setCell ⟨g, i, none⟩ u) (Pt g cs' t :: l) := by
  obtain ⟨F, hA, hF, hu⟩ := h.upd
  refine hu _ _ F (Fr.set (Fr.refl _ _) (.inl hA.1) u) (fun k hk => .inl hk) Pt.loc ⟨hA.1, blk_put hA.2 i u e⟩
theorem St.blk (h : St W F0 w l) (i : Nat) (e : l[i]? = some (Pt g cs t)) : w.heap[g]? = some (.cells cs t (0, 0)) := by
  obtain ⟨F, h1⟩ := h.get i e
  exact h1.2
theorem St.rd {α : Type} {d : Kd α} {q : Nat} {v : Value} {xs : List α} (h : St W F0 w l) (i : Nat) (e : l[i]? = some (Rw d q v xs)) : ∃ ok, d.R q w 0 ok v xs := h.get i e
theorem St.ne (h : St W F0 w l) (i j : Nat) (hi : l[i]? = some (Pt g cs t)) (hj : l[j]? = some (Pt g' cs' t')) (hij : i ≠ j) : g ≠ g' := by
  obtain ⟨h0, F, h1, h2, h3, h4⟩ := h.front i hi
  have hj' : (l.eraseIdx i)[if j < i then j else j - 1]? = some (Pt g' cs' t') := by
    rw [List.getElem?_eraseIdx]
    by_cases c : j < i
    · rw [if_pos c, if_pos c]; exact hj
    · rw [if_neg c, if_neg (by omega), show j - 1 + 1 = j by omega]; exact hj
  obtain ⟨F', k1, k2, k3, k4⟩ := h4.front _ hj'
  rintro rfl
  exact (k1 g k3.1).2 h3.1
end
theorem Calls.named {P : Program} {f : FuncId} {args : Array Value} {w : World} {R : Ending → World → Prop} (h : ∀ w', w' = w → Calls P f args w' R) : Calls P f args w R := h _ rfl
theorem wl_named {P : Program} {ops : Array Oper} {Q : Exit → Act → World → Prop} {l : List Oper} {a : Act} {w : World} (h : ∀ w', w' = w → wpList P ops Q l a w') : wpList P ops Q l a w := h _ rfl
theorem wp_named {P : Program} {c : Code} {Q : Exit → Act → World → Prop} {a : Act} {w : World} (h : ∀ w', w' = w → c.wp P Q a w') : c.wp P Q a w := h _ rfl
theorem St.alloc {W w : World} {F0 : Nat → Prop} {l : List Part} {cs : Array Value} {t : TypeId} (h : St W F0 w l) : St W F0 (w.alloc (.cells cs t)) (Pt w.heap.size cs t :: l) := h.box rfl (below_alloc (Below.refl _ _) _) (blk_new w _)
theorem Stars.append : ∀ {l l' : List Part} {G G' : Nat → Prop} {w : World}, Stars l G w → Stars l' G' w → (∀ k, G k → ¬ G' k) → Stars (l ++ l') (fun k => G k ∨ G' k) w
  | [], _, _, _, _, _, h', _ => h'.mono (fun _ hk => .inr hk)
  | _ :: _, _, _, _, _, ⟨F, h1, h2, h3, h4⟩, h', hd => ⟨F, fun k hk => .inl (h1 k hk), h2, h3, (Stars.append h4 h' (fun k hk => hd k hk.1)).mono (fun k hk => hk.elim (fun h => ⟨.inl h.1, h.2⟩) (fun h => ⟨.inr h, fun hf => hd k (h1 k hf) h⟩))⟩
theorem Stars.take : ∀ (n : Nat) {l : List Part} {G : Nat → Prop} {w : World}, Stars l G w → Stars (l.take n) G w
  | 0, _, _, _, _ => trivial
  | _ + 1, [], _, _, _ => trivial
  | n + 1, _ :: _, _, _, ⟨F, h1, h2, h3, h4⟩ => ⟨F, h1, h2, h3, Stars.take n h4⟩
section
variable {W w w' : World} {F0 : Nat → Prop} {l l' : List Part} {A B : Part}
theorem St.take (h : St W F0 w l) (n : Nat) : St W F0 w (l.take n) := ⟨h.fr, h.st.take n⟩
/-- Behind a call that makes the parts of l', and turns nothing. -/
theorem St.join0 (h : St W F0 w l) (k : St w (fun _ => False) w' l') : St W F0 w' (l' ++ l) := by
  have hb := k.below
  refine ⟨(h.call hb).fr, ?_⟩
  have h1 := k.st.mono (G' := fun i => w.heap.size ≤ i) (fun i hi => hi.elim (fun f => f.elim) (fun x => x))
  have h2 := h.st.bound.step hb.size (fun i _ hl => hb.block i hl)
  exact (Stars.append h1 h2 (fun i hi hi' => by have := hi'.2; omega)).mono (fun i hi => hi.elim (fun h3 => .inr (Nat.le_trans h.fr.size h3)) (fun h3 => h3.1))
/-- Behind a call that turns the first part alone. -/
theorem St.join (h : St W F0 w (A :: l)) : ∃ F, A w F ∧ (∀ k, F k → k < w.heap.size) ∧ ∀ (w' : World) (l' : List Part), St w F w' l' → St W F0 w' (l' ++ l) := by
  obtain ⟨h0, hst⟩ := h
  obtain ⟨F, h1, h2, h3, h4⟩ := hst.bound
  refine ⟨F, h3, fun k hk => (h1 k hk).2, fun w' l' k => ?_⟩
  refine ⟨h0.trans k.fr (fun i hi => (h1 i hi).1), ?_⟩
  have h5 := h4.step k.fr.size (fun i hi hl => k.fr.block i hl hi.2)
  exact (Stars.append k.st h5 (fun i hi hi' => hi.elim hi'.2 (fun hh => by have := hi'.1.2; omega))).mono (fun i hi => hi.elim (fun hh => hh.elim (fun hf => (h1 i hf).1) (fun hs => .inr (Nat.le_trans h0.size hs))) (fun hh => hh.1.1))
theorem St.mono0 (h : St W F0 w l) {F1 : Nat → Prop} (hF : ∀ k, F0 k → F1 k) : St W F1 w l := ⟨h.fr.mono hF, h.st.mono (fun k hk => hk.imp (hF k) (fun x => x))⟩
end
/-- A row that is read, wherever it lies. -/
def Vw {α : Type} (d : Kd α) (A : Option Addr) (n : Nat) (xs : List α) : Part := fun w F => Kd.F d w F A n xs
theorem Vw.loc {α : Type} {d : Kd α} {A : Option Addr} {n : Nat} {xs : List α} : Loc (Vw d A n xs) := ⟨fun h _ hh => Kd.F_step h hh, fun h => Kd.F_bound h, fun h hh => Kd.F_mono h hh⟩
theorem St.vw {W w : World} {F0 : Nat → Prop} {l : List Part} {α : Type} {d : Kd α} {A : Option Addr} {n : Nat} {xs : List α} (h : St W F0 w l) (i : Nat) (e : l[i]? = some (Vw d A n xs)) : d.C w A n xs := by
  obtain ⟨F, h1⟩ := h.get i e
  exact Kd.F_now h1
theorem results_tct {P : Program} {fn : Func} {p u v : Tmp} {ty : TypeId} (h : fn.results = #[.tmp u, .cell p ty, .tmp v]) (tmps : Array Value) (w : World) (g : Nat) (t : TypeId) (cs : Array Value) (fr : Nat × Nat) (d : TypeDesc)
    (hp : tmps.getD p undef = .pointer (some ⟨g, 0, none⟩)) (hg : w.heap[g]? = some (.cells cs t fr))
    (hu : P.underlying ty = some d) (hd : (match d with | .struct _ | .array _ _ => true | _ => false) = true) (hi : (P.info? ty).map (·.size) = some cs.size) :
    (results fn tmps).run P w = .ok (.tuple #[tmps.getD u undef, .agg cs, tmps.getD v undef]) w := by
  have hp' : tmps[p]?.getD undef = .pointer (some ⟨g, 0, none⟩) := by simpa using hp
  simp [results, h, hp', asAddr, run_loadVar_row w g t ty cs fr d hg hu hd hi]
/-- A call that reads a row of the call's own, and hands back what shares memory with it. -/
theorem St.shared {W w : World} {F0 : Nat → Prop} {l : List Part} {α : Type} {d : Kd α} {e : Nat} {v : Value} {xs : List α} (h : St W F0 w (Rw d e v xs :: l)) : ∃ ok, d.R e w 0 ok v xs ∧ ∀ (w' : World) (B : Part), Below w.heap.size w w' → Loc B → B w' (fun k => ok k ∨ w.heap.size ≤ k) → St W F0 w' (B :: l) := by
  obtain ⟨F, hA, _, hu⟩ := h.upd
  exact ⟨F, hA, fun w' B hb hl hB => hu w' B _ (Fr.of_below hb) (fun k hk => hk) hl hB⟩
theorem St.sharedV {W w : World} {F0 : Nat → Prop} {l : List Part} {α : Type} {d : Kd α} {A : Option Addr} {n : Nat} {xs : List α} (h : St W F0 w (Vw d A n xs :: l)) : ∃ ok, d.F w ok A n xs ∧ ∀ (w' : World) (B : Part), Below w.heap.size w w' → Loc B → B w' (fun k => ok k ∨ w.heap.size ≤ k) → St W F0 w' (B :: l) := by
  obtain ⟨F, hA, _, hu⟩ := h.upd
  exact ⟨F, hA, fun w' B hb hl hB => hu w' B _ (Fr.of_below hb) (fun k hk => hk) hl hB⟩
/-- A row of the call's own, whose elements may share what they lead to. -/
def Nw {α : Type} (d : Kd α) (e : Nat) (v : Value) (xs : List α) : Part := fun w F => Kd.N d e w 0 F v xs
theorem Nw.loc {α : Type} {d : Kd α} {e : Nat} {v : Value} {xs : List α} : Loc (Nw d e v xs) := ⟨fun h _ hh => Kd.N_step h hh, fun h => Kd.N_bound h, fun h hh => Kd.N_mono h hh⟩
theorem Fr.of_grown {F : Nat → Prop} {w w' : World} {row : Option Nat} (h : w.grownBy w' row) (hr : ∀ k, row = some k → F k) : Fr F w w' := ⟨h.os, h.tape, h.output, h.size, fun k hk hn => h.block k hk (fun e => hn (hr k e.symm))⟩
section
variable {W w : World} {F0 : Nat → Prop} {l : List Part} {α : Type} {d : Kd α} {e n : Nat} {v : Value} {A : Option Addr} {xs ys : List α}
theorem St.rw_nw (h : St W F0 w (Rw d e v xs :: l)) : St W F0 w (Nw d e v xs :: l) := h.imp Nw.loc (fun _ hh => Kd.R_N hh)
theorem St.nw_vw {c : Nat} (h : St W F0 w (Nw d e (.slice A n c) xs :: l)) : St W F0 w (Vw d A n xs :: l) := h.imp Vw.loc (fun _ hh => Kd.N_F hh)
theorem St.rw_vw {c : Nat} (h : St W F0 w (Rw d e (.slice A n c) xs :: l)) : St W F0 w (Vw d A n xs :: l) := h.imp Vw.loc (fun _ hh => Kd.N_F (Kd.R_N hh))
theorem St.nrd (h : St W F0 w l) (i : Nat) {c : Nat} (q : l[i]? = some (Nw d e (.slice A n c) xs)) : n = xs.length ∧ n ≤ c ∧ d.C w A xs.length xs := by
  obtain ⟨F, h1⟩ := h.get i q
  exact Kd.N_reads' h1
/-- append(v, ys...): what the law for rows asks, and what it leaves. -/
theorem St.append_rows (h : St W F0 w (Nw d e v xs :: Vw d A n ys :: l)) : ∃ ok okp : Nat → Prop, Kd.N d e w 0 ok v xs ∧ Kd.F d w okp A n ys ∧ (∀ k, okp k → ok k ∧ some k ≠ v.ownBlock) ∧ (∀ k, w.heap.size ≤ k → ok k) ∧
    ∀ v1 w1, Kd.N d e w1 0 ok v1 (xs ++ ys) → w.grownBy w1 v.ownBlock → St W F0 w1 (Nw d e v1 (xs ++ ys) :: l) := by
  obtain ⟨h0, hst⟩ := h
  obtain ⟨F1, a1, _, a3, F2, b1, _, b3, hl⟩ := hst.bound
  refine ⟨fun k => F1 k ∨ F2 k ∨ w.heap.size ≤ k, F2, Kd.N_mono a3 (fun k hk => .inl hk), b3, fun k hk => ⟨.inr (.inl hk), fun q => (b1 k hk).2 (a3.1 k q.symm)⟩, fun k hk => .inr (.inr hk), fun v1 w1 hN hg => ?_⟩
  have hf : Fr F1 w w1 := Fr.of_grown hg (fun k hk => a3.1 k hk)
  refine ⟨h0.trans hf (fun k hk => (a1 k hk).1), _, fun k hk => ?_, Nw.loc, hN, ?_⟩
  · rcases hk with hk | hk | hk
    · exact (a1 k hk).1
    · exact (b1 k hk).1.1
    · exact .inr (Nat.le_trans h0.size hk)
  · exact (hl.step hf.size (fun k hk hlt => hf.block k hlt hk.1.2)).mono (fun k hk => ⟨hk.1.1.1, fun q => q.elim hk.1.2 (fun q => q.elim hk.2 (fun q => by have := hk.1.1.2; omega))⟩)
/-- append(v, p) of one element whose cells lie in a block just made (it is the first part). -/
theorem St.append_one (h : St W F0 w (Nw d e v xs :: l)) {p : α} {cs : List Value} {okq : Nat → Prop} (hp : Kd.FK d w okq p cs) (hq : ∀ k, ¬ okq k) : ∃ ok okp : Nat → Prop, Kd.N d e w 0 ok v xs ∧ Kd.FK d w okp p cs ∧ (∀ k, okp k → ok k ∧ some k ≠ v.ownBlock) ∧ (∀ k, w.heap.size ≤ k → ok k) ∧
    ∀ v1 w1, Kd.N d e w1 0 ok v1 (xs ++ [p]) → w.grownBy w1 v.ownBlock → St W F0 w1 (Nw d e v1 (xs ++ [p]) :: l) := by
  obtain ⟨h0, hst⟩ := h
  obtain ⟨F1, a1, _, a3, hl⟩ := hst.bound
  refine ⟨fun k => F1 k ∨ w.heap.size ≤ k, okq, Kd.N_mono a3 (fun k hk => .inl hk), hp, fun k hk => (hq k hk).elim, fun k hk => .inr hk, fun v1 w1 hN hg => ?_⟩
  have hf : Fr F1 w w1 := Fr.of_grown hg (fun k hk => a3.1 k hk)
  refine ⟨h0.trans hf (fun k hk => (a1 k hk).1), _, fun k hk => ?_, Nw.loc, hN, ?_⟩
  · rcases hk with hk | hk
    · exact (a1 k hk).1
    · exact .inr (Nat.le_trans h0.size hk)
  · exact (hl.step hf.size (fun k hk hlt => hf.block k hlt hk.2)).mono (fun k hk => ⟨hk.1.1, fun q => q.elim hk.2 (fun q => by have := hk.1.2; omega)⟩)
end
section
variable {P : Program}
theorem cut_h' (t e : TypeId) (k : IntKind) (z : Nat) (ht : P.underlying t = some (.slice e)) (hs : (P.info? e).map (·.size) = some z) (A : Option Addr) (n c : Nat) (h : Int) (h0 : 0 ≤ h) (hc : h ≤ c) (W : World) :
    (Instr.slice t (.slice A n c) none (some (.int k h)) none).run P W = .ok (.slice A h.toNat c) W := by
  cases hq : P.info? e with
  | none => simp [hq] at hs
  | some i =>
    have hi : i.size = z := by simpa [hq] using hs
    have hel : P.elem t = e := by simp [Program.elem, ht]
    have hu : P.underlying t = some (.slice (P.elem t)) := by rw [hel]; exact ht
    have ha : (A.map fun x => x.add 0) = A := by cases A <;> simp [Addr.add]
    rw [run_slice_h W t A n c hu k h h0 hc, hel]
    simp [sizeOf, typeInfo, hq, hi, sliced, Result.andThen, ha]
theorem cut_l' (t e : TypeId) (k : IntKind) (z : Nat) (ht : P.underlying t = some (.slice e)) (hs : (P.info? e).map (·.size) = some z) (A : Option Addr) (n c : Nat) (l : Int) (h0 : 0 ≤ l) (hc : l ≤ n) (W : World) :
    (Instr.slice t (.slice A n c) (some (.int k l)) none none).run P W = .ok (.slice (if c = l.toNat then A else A.map (·.add (l.toNat * z))) (n - l.toNat) (c - l.toNat)) W := by
  cases hq : P.info? e with
  | none => simp [hq] at hs
  | some i =>
    have hi : i.size = z := by simpa [hq] using hs
    have hel : P.elem t = e := by simp [Program.elem, ht]
    have hu : P.underlying t = some (.slice (P.elem t)) := by rw [hel]; exact ht
    rw [run_slice_l W t A n c hu k l h0 hc, hel]
    simp [sizeOf, typeInfo, hq, hi, sliced, Result.andThen]
end
theorem Stars.get {l : List Part} {G : Nat → Prop} {w : World} {A : Part} (h : Stars l G w) (i : Nat) (e : l[i]? = some A) : ∃ F, A w F := by
  obtain ⟨F, _, _, h3, _⟩ := h.front i e
  exact ⟨F, h3⟩
theorem Stars.rd {α : Type} {d : Kd α} {q : Nat} {v : Value} {xs : List α} {l : List Part} {G : Nat → Prop} {w : World} (h : Stars l G w) (i : Nat) (e : l[i]? = some (Rw d q v xs)) : ∃ ok, d.R q w 0 ok v xs := h.get i e
/-- Behind a call that turns the first part alone: the others stay readable wherever only that part turns. -/
theorem St.joinR {W w : World} {F0 : Nat → Prop} {l : List Part} {A : Part} (h : St W F0 w (A :: l)) : ∃ F, A w F ∧ (∀ k, F k → k < w.heap.size) ∧ (∀ w', Fr F w w' → ∃ G, Stars l G w') ∧ ∀ (w' : World) (l' : List Part), St w F w' l' → St W F0 w' (l' ++ l) := by
  obtain ⟨h0, hst⟩ := h
  obtain ⟨F, h1, h2, h3, h4⟩ := hst.bound
  refine ⟨F, h3, fun k hk => (h1 k hk).2, fun w' hf => ⟨_, h4.step hf.size (fun i hi hl => hf.block i hl hi.2)⟩, fun w' l' k => ?_⟩
  refine ⟨h0.trans k.fr (fun i hi => (h1 i hi).1), ?_⟩
  have h5 := h4.step k.fr.size (fun i hi hl => k.fr.block i hl hi.2)
  exact (Stars.append k.st h5 (fun i hi hi' => hi.elim hi'.2 (fun hh => by have := hi'.1.2; omega))).mono (fun i hi => hi.elim (fun hh => hh.elim (fun hf => (h1 i hf).1) (fun hs => .inr (Nat.le_trans h0.size hs))) (fun hh => hh.1.1))
theorem St.old_ne {W w : World} {l : List Part} {g k : Nat} {cs : Array Value} {t : TypeId} (h : St W (fun _ => False) w l) (i : Nat) (e : l[i]? = some (Pt g cs t)) (hk : k < W.heap.size) : k ≠ g := by
  obtain ⟨_, F, h1, _, h3, _⟩ := h.front i e
  rintro rfl
  exact (h1 _ h3.1).elim (fun f => f) (fun hh => by omega)
/-! ### The reference's functions on the reference's entries of a chain -/
def plE (x : SE) : S63 := ⟨x.f0, x.f1, x.f2⟩
def pl (xs : List SE) : List S63 := xs.map plE
theorem pl_len (xs : List SE) : (pl xs).length = xs.length := by simp [pl]
theorem rd_pl (xs : List SE) {i : Int} (h0 : 0 ≤ i) (h1 : i < (xs.length : Int)) : rd_T63 (pl xs) i = plE (rd_T78 xs i) := by
  unfold rd_T63 rd_T78 pl
  rw [List.getD_eq_getElem?_getD, List.getD_eq_getElem?_getD, List.getElem?_map, List.getElem?_eq_getElem (by omega)]
  rfl
/-- What both functions 'stands' tell. -/
def standG (i t : Int) : List SE → Bool
  | [] => true
  | x :: l => if x.f0 = 0 then false else if IntKind.u64.wrap (x.f0 - 1) = i then if x.f1 < t then false else standG x.f0 x.f1 l else false
theorem drop_rd {xs : List SE} {j : Nat} (h : j < xs.length) : xs.drop j = rd_T78 xs j :: xs.drop (j + 1) := by
  rw [List.drop_eq_getElem_cons h]
  unfold rd_T78
  rw [List.getD_eq_getElem?_getD, Int.toNat_natCast, List.getElem?_eq_getElem h]
  rfl
theorem w64_succ {j n : Nat} (h : j < n) (hn : n ≤ 100000) : wrap64 ((j : Int) + 1) = ((j + 1 : Nat) : Int) := by unfold wrap64; omega
theorem stands_loop (xs : List SE) (hn : xs.length ≤ 100000) : ∀ (d j k : Nat) (i t : Int), xs.length - j = d → j ≤ xs.length → d < k → chain_stands.l0 k i t xs (xs.length : Int) j = some (standG i t (xs.drop j)) := by
  intro d
  induction d with
  | zero =>
    intro k j i t hd hj hk
    obtain ⟨j, rfl⟩ : ∃ m, j = m + 1 := ⟨j - 1, by omega⟩
    rw [chain_stands.l0, if_neg (by omega), List.drop_of_length_le (by omega)]
    rfl
  | succ d ih =>
    intro j k i t hd hj hk
    obtain ⟨k, rfl⟩ : ∃ m, k = m + 1 := ⟨k - 1, by omega⟩
    rw [chain_stands.l0, if_pos (by omega), if_pos (by omega), if_pos (by omega), drop_rd (by omega), standG]
    by_cases c0 : (rd_T78 xs j).f0 = 0
    · rw [if_pos c0, if_pos c0]
    rw [if_neg c0, if_neg c0]
    by_cases c1 : IntKind.u64.wrap ((rd_T78 xs j).f0 - 1) = i
    · rw [if_pos c1, if_pos c1]
      by_cases c2 : (rd_T78 xs j).f1 < t
      · rw [if_pos c2, if_pos c2]
      rw [if_neg c2, if_neg c2, w64_succ (n := xs.length) (by omega) hn]
      exact ih (j + 1) k _ _ (by omega) (by omega) (by omega)
    · rw [if_neg c1, if_neg c1]
theorem stands_eval (xs : List SE) (hn : xs.length ≤ 100000) (i t : Int) {k : Nat} (hk : xs.length < k) : chain_stands.f k i t xs = some (standG i t xs) := by
  have := stands_loop xs hn xs.length 0 k i t (by omega) (by omega) hk
  simpa [chain_stands.f] using this
theorem rstands_loop (xs : List SE) (hn : xs.length ≤ 100000) : ∀ (d j k : Nat) (i t : Int) (b : List Int), xs.length - j = d → j ≤ xs.length → d < k → jobberref38_Stands.l0 k (pl xs) j i t b = some (standG i t (xs.drop j)) := by
  intro d
  induction d with
  | zero =>
    intro j k i t b hd hj hk
    obtain ⟨k, rfl⟩ : ∃ m, k = m + 1 := ⟨k - 1, by omega⟩
    rw [jobberref38_Stands.l0, if_neg (by rw [pl_len]; omega), List.drop_of_length_le (by omega)]
    rfl
  | succ d ih =>
    intro j k i t b hd hj hk
    obtain ⟨k, rfl⟩ : ∃ m, k = m + 1 := ⟨k - 1, by omega⟩
    rw [jobberref38_Stands.l0, if_pos (by rw [pl_len]; omega), if_pos (by omega), drop_rd (by omega), standG, rd_pl xs (by omega) (by omega)]
    show (if (rd_T78 xs j).f0 = 0 then _ else if IntKind.u64.wrap ((rd_T78 xs j).f0 - 1) = i then if (rd_T78 xs j).f1 < t then _ else _ else _) = _
    by_cases c0 : (rd_T78 xs j).f0 = 0
    · rw [if_pos c0, if_pos c0]
    rw [if_neg c0, if_neg c0]
    by_cases c1 : IntKind.u64.wrap ((rd_T78 xs j).f0 - 1) = i
    · rw [if_pos c1, if_pos c1]
      by_cases c2 : (rd_T78 xs j).f1 < t
      · rw [if_pos c2, if_pos c2]
      rw [if_neg c2, if_neg c2, w64_succ (n := xs.length) (by omega) hn]
      exact ih (j + 1) k _ _ _ (by omega) (by omega) (by omega)
    · rw [if_neg c1, if_neg c1]
theorem rstands_eval (xs : List SE) (hn : xs.length ≤ 100000) (i t : Int) (b : List Int) {k : Nat} (hk : xs.length < k) : jobberref38_Stands.f k i t b (pl xs) = some (standG i t xs) := by
  have := rstands_loop xs hn xs.length 0 k i t b (by omega) (by omega) hk
  simpa [jobberref38_Stands.f] using this
theorem plain_loop (xs : List SE) (hn : xs.length ≤ 100000) : ∀ (d j k : Nat), xs.length - j = d → j ≤ xs.length → d < k → jobberlaw32_Plain.l0 k (pl (xs.take j)) xs (xs.length : Int) j = some (pl xs) := by
  intro d
  induction d with
  | zero =>
    intro j k hd hj hk
    obtain ⟨k, rfl⟩ : ∃ m, k = m + 1 := ⟨k - 1, by omega⟩
    rw [jobberlaw32_Plain.l0, if_neg (by omega), List.take_of_length_le (by omega)]
  | succ d ih =>
    intro j k hd hj hk
    obtain ⟨k, rfl⟩ : ∃ m, k = m + 1 := ⟨k - 1, by omega⟩
    have hp : pl (xs.take j) ++ [plE (rd_T78 xs j)] = pl (xs.take (j + 1)) := by
      rw [List.take_succ_eq_append_getElem (by omega)]
      unfold pl
      rw [List.map_append]
      have := rd_some (xs := xs) (i := (j : Int)) (by omega) (by omega)
      rw [Int.toNat_natCast, List.getElem?_eq_getElem (by omega)] at this
      injection this with this
      rw [this]; rfl
    rw [jobberlaw32_Plain.l0, if_pos (by omega), if_pos (by omega), if_pos (by omega), if_pos (by rw [pl_len, List.length_take]; omega), w64_succ (n := xs.length) (by omega) hn]
    show jobberlaw32_Plain.l0 k (pl (xs.take j) ++ [plE (rd_T78 xs j)]) xs _ _ = _
    rw [hp]
    exact ih (j + 1) k (by omega) (by omega) (by omega)
theorem plain_eval (xs : List SE) (hn : xs.length ≤ 100000) {k : Nat} (hk : xs.length < k) : jobberlaw32_Plain.f k xs = some (pl xs) := by
  have := plain_loop xs hn xs.length 0 k (by omega) (by omega) hk
  simpa [jobberlaw32_Plain.f, pl] using this
theorem rentry_loop (ix : Int) (xs : List SE) (h : Row ix xs) (a0 a1 i : Int) (b : List Int) : ∀ (d j k : Nat), xs.length - j = d → j ≤ xs.length → d < k → (hasE ix xs i → (j : Int) ≤ i - ix - 1) → jobberref38_Chain_Entry.l0 k i j a0 a1 b (pl xs) = some ((entryF ix xs i).1.f0, (entryF ix xs i).1.f1, (entryF ix xs i).1.f2, (entryF ix xs i).2) := by
  intro d
  induction d with
  | zero =>
    intro j k hd hj hk hs
    obtain ⟨k, rfl⟩ : ∃ m, k = m + 1 := ⟨k - 1, by omega⟩
    have hn : ¬ hasE ix xs i := fun hh => by have := hs hh; unfold hasE at hh; omega
    rw [jobberref38_Chain_Entry.l0, if_neg (by rw [pl_len]; omega)]
    unfold entryF
    rw [if_neg hn]
    rfl
  | succ d ih =>
    intro j k hd hj hk hs
    obtain ⟨k, rfl⟩ : ∃ m, k = m + 1 := ⟨k - 1, by omega⟩
    rw [jobberref38_Chain_Entry.l0, if_pos (by rw [pl_len]; omega), if_pos (by omega), rd_pl xs (by omega) (by omega)]
    have hf := rd_f0 h (i := (j : Int)) (by omega) (by omega)
    show (if (rd_T78 xs j).f0 = i then some ((rd_T78 xs j).f0, (rd_T78 xs j).f1, (rd_T78 xs j).f2, true) else _) = _
    by_cases c : (rd_T78 xs j).f0 = i
    · rw [if_pos c]
      have hh : hasE ix xs i := by unfold hasE; omega
      unfold entryF
      rw [if_pos hh, show i - ix - 1 = (j : Int) by omega]
    · rw [if_neg c, w64_succ (n := xs.length) (by omega) h.few]
      exact ih (j + 1) k (by omega) (by omega) (by omega) (fun hh => by have := hs hh; omega)
theorem rentry_eval (ix : Int) (xs : List SE) (h : Row ix xs) (a0 a1 i : Int) (b : List Int) {k : Nat} (hk : xs.length < k) : jobberref38_Chain_Entry.f k a0 a1 b (pl xs) i = some ((entryF ix xs i).1.f0, (entryF ix xs i).1.f1, (entryF ix xs i).1.f2, (entryF ix xs i).2) := by
  exact rentry_loop ix xs h a0 a1 i b xs.length 0 k (by omega) (by omega) hk (fun hh => by unfold hasE at hh; omega)
theorem rterm_eval (ix tm : Int) (xs : List SE) (h : Row ix xs) (i : Int) (b : List Int) {k : Nat} (hk : xs.length < k) : jobberref38_Chain_Term.f k ix tm b (pl xs) i = some (termF ix tm xs i) := by
  unfold jobberref38_Chain_Term.f termF
  by_cases c : i = ix
  · rw [if_pos c, if_pos c]
  · rw [if_neg c, if_neg c, rentry_eval ix xs h ix tm i b hk]
    unfold entryF
    by_cases hh : hasE ix xs i
    · rw [if_pos hh, if_pos hh]; rfl
    · rw [if_neg hh, if_neg hh]; rfl
theorem same_loop (ys : List S63) (hn : ys.length ≤ 100000) : ∀ (d j k : Nat), ys.length - j = d → j ≤ ys.length → d < k → jobberlaw32_Same.l0 k ys ys (ys.length : Int) j = some true := by
  intro d
  induction d with
  | zero =>
    intro j k hd hj hk
    obtain ⟨k, rfl⟩ : ∃ m, k = m + 1 := ⟨k - 1, by omega⟩
    rw [jobberlaw32_Same.l0, if_neg (by omega)]
  | succ d ih =>
    intro j k hd hj hk
    obtain ⟨k, rfl⟩ : ∃ m, k = m + 1 := ⟨k - 1, by omega⟩
    rw [jobberlaw32_Same.l0, if_pos (by omega), if_pos (by omega), if_pos (by omega), if_pos (by omega), if_pos rfl, if_pos rfl, if_pos rfl, w64_succ (n := ys.length) (by omega) hn]
    exact ih (j + 1) k (by omega) (by omega) (by omega)
theorem same_eval (ys : List S63) (hn : ys.length ≤ 100000) {k : Nat} (hk : ys.length < k) : jobberlaw32_Same.f k ys ys = some true := by
  unfold jobberlaw32_Same.f
  rw [if_pos rfl]
  exact same_loop ys hn ys.length 0 k (by omega) (by omega) hk
/-- What From tells, entry by entry. -/
def fromL (i most : Int) : List SE → List SE → List SE
  | acc, [] => acc
  | acc, x :: l => if x.f0 ≥ i then if (acc.length : Int) < most then fromL i most (acc ++ [x]) l else fromL i most acc l else fromL i most acc l
theorem rfrom_loop (xs : List SE) (hn : xs.length ≤ 100000) (a0 a1 i most : Int) (b : List Int) : ∀ (d j k : Nat) (acc : List SE), xs.length - j = d → j ≤ xs.length → d < k → acc.length ≤ j → jobberref38_Chain_From.l0 k i most (pl acc) j a0 a1 b (pl xs) = some (pl (fromL i most acc (xs.drop j))) := by
  intro d
  induction d with
  | zero =>
    intro j k acc hd hj hk ha
    obtain ⟨k, rfl⟩ : ∃ m, k = m + 1 := ⟨k - 1, by omega⟩
    rw [jobberref38_Chain_From.l0, if_neg (by rw [pl_len]; omega), List.drop_of_length_le (by omega)]
    rfl
  | succ d ih =>
    intro j k acc hd hj hk ha
    obtain ⟨k, rfl⟩ : ∃ m, k = m + 1 := ⟨k - 1, by omega⟩
    rw [jobberref38_Chain_From.l0, if_pos (by rw [pl_len]; omega), if_pos (by omega), drop_rd (by omega), fromL, rd_pl xs (by omega) (by omega), pl_len, w64_succ (n := xs.length) (by omega) hn]
    show (if (rd_T78 xs j).f0 ≥ i then if (acc.length : Int) < most then if acc.length < 3518437208883 then jobberref38_Chain_From.l0 k i most (pl acc ++ [plE (rd_T78 xs j)]) _ a0 a1 b (pl xs) else none else _ else _) = _
    by_cases c : (rd_T78 xs j).f0 ≥ i
    · rw [if_pos c, if_pos c]
      by_cases c1 : (acc.length : Int) < most
      · rw [if_pos c1, if_pos c1, if_pos (by omega), show pl acc ++ [plE (rd_T78 xs j)] = pl (acc ++ [rd_T78 xs j]) by simp [pl]]
        exact ih (j + 1) k _ (by omega) (by omega) (by omega) (by rw [List.length_append]; simp; omega)
      · rw [if_neg c1, if_neg c1]
        exact ih (j + 1) k _ (by omega) (by omega) (by omega) (by omega)
    · rw [if_neg c, if_neg c]
      exact ih (j + 1) k _ (by omega) (by omega) (by omega) (by omega)
theorem rfrom_eval (xs : List SE) (hn : xs.length ≤ 100000) (a0 a1 i most : Int) (b : List Int) {k : Nat} (hk : xs.length < k) : jobberref38_Chain_From.f k a0 a1 b (pl xs) i most = some (pl (fromL i most [] xs)) := by
  have := rfrom_loop xs hn a0 a1 i most b xs.length 0 k [] (by omega) (by omega) hk (by simp)
  simpa [jobberref38_Chain_From.f, pl] using this
theorem fromL_full (i most : Int) : ∀ (l acc : List SE), ¬ (acc.length : Int) < most → fromL i most acc l = acc := by
  intro l
  induction l with
  | nil => intro acc _; rfl
  | cons x l ih =>
    intro acc h
    rw [fromL]
    by_cases c : x.f0 ≥ i
    · rw [if_pos c, if_neg h]; exact ih acc h
    · rw [if_neg c]; exact ih acc h
theorem fromL_all (i most : Int) : ∀ (l acc : List SE), (∀ x ∈ l, x.f0 ≥ i) → 0 ≤ most → (acc.length : Int) ≤ most → fromL i most acc l = acc ++ l.take (most.toNat - acc.length) := by
  intro l
  induction l with
  | nil => intro acc _ _ _; simp [fromL]
  | cons x l ih =>
    intro acc h h0 ha
    by_cases c1 : (acc.length : Int) < most
    · rw [fromL, if_pos (h x (by simp)), if_pos c1, ih _ (fun y hy => h y (by simp [hy])) h0 (by rw [List.length_append]; simp; omega)]
      rw [List.length_append, List.length_singleton, show most.toNat - acc.length = (most.toNat - (acc.length + 1)) + 1 by omega, List.take_succ_cons]
      simp
    · rw [fromL_full i most _ _ c1, show most.toNat - acc.length = 0 by omega]; simp
theorem fromL_skip (i most : Int) : ∀ (n : Nat) (l acc : List SE), (∀ x ∈ l.take n, x.f0 < i) → fromL i most acc l = fromL i most acc (l.drop n) := by
  intro n
  induction n with
  | zero => intro l acc _; rfl
  | succ n ih =>
    intro l acc h
    cases l with
    | nil => rfl
    | cons x l =>
      rw [fromL, if_neg (by have := h x (by simp); omega), List.drop_succ_cons]
      exact ih l acc (fun y hy => h y (by rw [List.take_succ_cons]; exact List.mem_cons_of_mem _ hy))
theorem fromL_eq (ix : Int) (xs : List SE) (h : Row ix xs) (i most : Int) : fromL i most [] xs = fromF ix xs i most := by
  have hlo := h.lo
  have hfew := h.few
  unfold fromF
  by_cases c0 : xs.length = 0 ∨ most < 1
  · rw [if_pos c0]
    rcases c0 with c | c
    · rw [List.eq_nil_of_length_eq_zero c]; rfl
    · exact fromL_full _ _ _ _ (by simp; omega)
  rw [if_neg c0]
  have hat : ∀ (n : Nat) (x : SE), xs[n]? = some x → x.f0 = ix + 1 + n := fun n x hx => h.at_ n x hx
  by_cases c1 : hasE ix xs (mx i (ix + 1))
  · rw [if_pos c1]
    obtain ⟨m, hm⟩ : ∃ m : Nat, mx i (ix + 1) - ix - 1 = m := ⟨(mx i (ix + 1) - ix - 1).toNat, by unfold hasE at c1; omega⟩
    have hml : m < xs.length := by unfold hasE at c1; omega
    have hmi : i ≤ ix + 1 + m := by unfold mx at hm; split at hm <;> omega
    have hmi' : m = 0 ∨ i = ix + 1 + m := by unfold mx at hm; split at hm <;> omega
    rw [hm, fromL_skip i most m xs [] (fun x hx => by
      obtain ⟨n, hn, rfl⟩ := List.mem_iff_getElem.1 hx
      rw [List.length_take] at hn
      have := hat n (xs[n]'(by omega)) (List.getElem?_eq_getElem _)
      rw [List.getElem_take]
      omega), fromL_all i most _ _ (fun x hx => by
      obtain ⟨n, hn, rfl⟩ := List.mem_iff_getElem.1 hx
      rw [List.length_drop] at hn
      have := hat (m + n) (xs[m + n]'(by omega)) (List.getElem?_eq_getElem _)
      rw [List.getElem_drop]
      omega) (by omega) (by simp; omega)]
    simp only [List.nil_append, List.length_nil, Nat.sub_zero, Int.toNat_natCast]
    rw [List.drop_take]
    unfold mn
    by_cases c2 : (xs.length : Int) < most
    · rw [if_pos c2]
      have e : ((if (m : Int) + (xs.length : Int) < (xs.length : Int) then (m : Int) + (xs.length : Int) else (xs.length : Int)) : Int).toNat = xs.length := by split <;> omega
      rw [e, List.take_of_length_le (by rw [List.length_drop]; omega), List.take_of_length_le (by rw [List.length_drop]; omega)]
    · rw [if_neg c2]
      by_cases c3 : (m : Int) + most < (xs.length : Int)
      · rw [if_pos c3, show ((m : Int) + most).toNat - m = most.toNat by omega]
      · rw [if_neg c3, Int.toNat_natCast, List.take_of_length_le (by rw [List.length_drop]; omega), List.take_of_length_le (by rw [List.length_drop]; omega)]
  · rw [if_neg c1]
    rw [fromL_skip i most xs.length xs [] (fun x hx => by
      rw [List.take_of_length_le (Nat.le_refl _)] at hx
      obtain ⟨n, hn, rfl⟩ := List.mem_iff_getElem.1 hx
      have := hat n _ (List.getElem?_eq_getElem hn)
      unfold hasE mx at c1; split at c1 <;> omega), List.drop_of_length_le (Nat.le_refl _)]
    rfl
theorem from_all (ix : Int) (xs : List SE) (h : Row ix xs) : fromF ix xs 0 (xs.length + 1) = xs := by
  rw [← fromL_eq ix xs h]
  rw [fromL_all 0 _ xs [] (fun x hx => by
    obtain ⟨n, hn, rfl⟩ := List.mem_iff_getElem.1 hx
    have := h.at_ n _ (List.getElem?_eq_getElem hn)
    have := h.lo
    omega) (by omega) (by simp; omega)]
  rw [List.nil_append, List.take_of_length_le (by simp)]
theorem from_row (ix : Int) (xs : List SE) (h : Row ix xs) (i most : Int) : (fromF ix xs i most).length ≤ xs.length := by
  unfold fromF
  split
  · exact Nat.zero_le _
  · split
    · rw [List.length_drop, List.length_take]; omega
    · exact Nat.zero_le _
/-- Entries that stand behind an index are in a row. -/
theorem stand_row : ∀ (xs : List SE) (ix tm : Int), 0 ≤ ix → ix < 18446744073709551616 → xs.length ≤ 100000 → (∀ x ∈ xs, x.f2.length ≤ 1000000) → (∀ x ∈ xs, 0 ≤ x.f0 ∧ x.f0 < 18446744073709551616) → standG ix tm xs = true → Row ix xs := by
  intro xs
  induction xs with
  | nil => intro ix tm h0 h1 _ _ _ _; exact ⟨fun j x hx => by simp at hx, h0, by simp; omega, by simp, fun x hx => by simp at hx⟩
  | cons x l ih =>
    intro ix tm h0 h1 hn hs hr hg
    rw [standG] at hg
    by_cases c0 : x.f0 = 0
    · rw [if_pos c0] at hg; cases hg
    rw [if_neg c0] at hg
    have hx := hr x (by simp)
    by_cases c1 : IntKind.u64.wrap (x.f0 - 1) = ix
    · rw [if_pos c1] at hg
      have hx0 : x.f0 = ix + 1 := by rw [IntKind.wrap_u64] at c1; omega
      by_cases c2 : x.f1 < tm
      · rw [if_pos c2] at hg; cases hg
      rw [if_neg c2] at hg
      have hl := ih x.f0 x.f1 (by omega) hx.2 (by simp at hn; omega) (fun y hy => hs y (by simp [hy])) (fun y hy => hr y (by simp [hy])) hg
      refine ⟨fun j y hy => ?_, h0, ?_, hn, hs⟩
      · cases j with
        | zero => simp at hy; subst hy; omega
        | succ j => have := hl.at_ j y (by simpa using hy); omega
      · have := hl.hi; rw [List.length_cons]; omega
    · rw [if_neg c1] at hg; cases hg
--DEPS jobber/jobberlaw38.lives
/-- A run of at most 60 has entries: as many, each with a body of two bytes, and numbers in bounds. -/
structure Ents (l : List SE) (n : Nat) : Prop where
  len : l.length = n
  bod : ∀ x ∈ l, x.f2.length = 2
  rng : ∀ x ∈ l, (0 ≤ x.f0 ∧ x.f0 < 18446744073709551616) ∧ (0 ≤ x.f1 ∧ x.f1 < 18446744073709551616)
theorem u64_rng (x : Int) : 0 ≤ IntKind.u64.wrap x ∧ IntKind.u64.wrap x < 18446744073709551616 := by rw [IntKind.wrap_u64]; omega
theorem Ents.snoc {l : List SE} {n : Nat} (h : Ents l n) (x : SE) (hb : x.f2.length = 2) (hr : (0 ≤ x.f0 ∧ x.f0 < 18446744073709551616) ∧ (0 ≤ x.f1 ∧ x.f1 < 18446744073709551616)) : Ents (l ++ [x]) (n + 1) :=
  ⟨by rw [List.length_append, h.len]; rfl, fun y hy => by rcases List.mem_append.1 hy with h1 | h1; exact h.bod y h1; rw [List.mem_singleton.1 h1]; exact hb, fun y hy => by rcases List.mem_append.1 hy with h1 | h1; exact h.rng y h1; rw [List.mem_singleton.1 h1]; exact hr⟩
theorem Ents.put {l : List SE} {n : Nat} (h : Ents l n) (i : Nat) (x : SE) (hb : x.f2.length = 2) (hr : (0 ≤ x.f0 ∧ x.f0 < 18446744073709551616) ∧ (0 ≤ x.f1 ∧ x.f1 < 18446744073709551616)) : Ents (l.set i x) n :=
  ⟨by rw [List.length_set, h.len], fun y hy => by rcases List.mem_or_eq_of_mem_set hy with h1 | h1; exact h.bod y h1; rw [h1]; exact hb, fun y hy => by rcases List.mem_or_eq_of_mem_set hy with h1 | h1; exact h.rng y h1; rw [h1]; exact hr⟩
theorem entries_loop (By : List Int) (h60 : By.length ≤ 60) (a b o : Int) : ∀ (d k : Nat) (x3 : List SE) (ix tm : Int) (j : Nat), Ents x3 j → j ≤ By.length → By.length - j = d → d < k → ∃ r, jobberlaw38_Run_entries.l0 k x3 ix tm By (By.length : Int) (j : Int) a b By o = some r ∧ Ents r By.length := by
  intro d
  induction d with
  | zero =>
    intro k x3 ix tm j h hj hd hk
    obtain ⟨k, rfl⟩ : ∃ m, k = m + 1 := ⟨k - 1, by omega⟩
    have hjl : j = By.length := by omega
    subst hjl
    rw [jobberlaw38_Run_entries.l0, if_neg (by omega)]
    by_cases c0 : (x3.length : Int) > 0
    · have hb := fun hm => h.bod (rd_T78 x3 ((x3.length : Int) - 1)) hm
      have hw : wrap64 ((x3.length : Int) - 1) = (x3.length : Int) - 1 := by have := h.len; unfold wrap64; omega
      have hm := List.mem_of_getElem? (rd_some (xs := x3) (i := (x3.length : Int) - 1) (by omega) (by omega))
      rw [if_pos c0, hw]
      by_cases c1 : o = 1
      · rw [if_pos c1, if_pos (by omega), if_pos (by omega)]; exact ⟨_, rfl, h.put _ _ (hb hm) ⟨u64_rng _, (h.rng _ hm).2⟩⟩
      rw [if_neg c1]
      by_cases c2 : o = 2
      · rw [if_pos c2, if_pos (by omega), if_pos (by omega)]; exact ⟨_, rfl, h.put _ _ (hb hm) ⟨(h.rng _ hm).1, u64_rng _⟩⟩
      rw [if_neg c2]
      by_cases c3 : o = 3
      · rw [if_pos c3, if_pos (by omega), if_pos (by omega)]; exact ⟨_, rfl, h.put _ _ (hb hm) ⟨⟨by show (0 : Int) ≤ 18446744073709551615; omega, by show (18446744073709551615 : Int) < 18446744073709551616; omega⟩, (h.rng _ hm).2⟩⟩
      rw [if_neg c3]; exact ⟨_, rfl, h⟩
    · rw [if_neg c0]; exact ⟨_, rfl, h⟩
  | succ d ih =>
    intro k x3 ix tm j h hj hd hk
    obtain ⟨k, rfl⟩ : ∃ m, k = m + 1 := ⟨k - 1, by omega⟩
    rw [jobberlaw38_Run_entries.l0, if_pos (by omega), if_pos (by omega), if_pos (by omega), if_pos (by rw [h.len]; omega), show wrap64 ((j : Int) + 1) = ((j + 1 : Nat) : Int) by unfold wrap64; omega]
    exact ih k _ _ _ (j + 1) (h.snoc _ rfl ⟨u64_rng _, u64_rng _⟩) (by omega) (by omega) (by omega)
theorem entries_ex (a b o : Int) (By : List Int) (h60 : By.length ≤ 60) {k : Nat} (hk : 60 < k) : ∃ r, jobberlaw38_Run_entries.f k a b By o = some r ∧ Ents r By.length :=
  entries_loop By h60 a b o By.length k [] a b 0 ⟨rfl, fun x hx => by simp at hx, fun x hx => by simp at hx⟩ (by omega) (by omega) (by omega)
/-- A chain of the call's own: its block, and its row of entries. -/
def ChP (g : Nat) (ix tm : Int) (xs : List SE) : Part := fun w F => Row ix xs ∧ F g ∧ ∃ A c, w.heap[g]? = some (.cells #[.int .u64 ix, .int .u64 tm, .slice A xs.length c] 121 (0, 0)) ∧ Kd.N KE 78 w 0 (fun k => F k ∧ k ≠ g) (.slice A xs.length c) xs
theorem ChP.loc {g : Nat} {ix tm : Int} {xs : List SE} : Loc (ChP g ix tm xs) :=
  ⟨fun ⟨h1, h2, A, c, h3, h4⟩ _ hh => ⟨h1, h2, A, c, (hh g h2 (blk_lt h3)).trans h3, Kd.N_step h4 (fun k hk hl => hh k hk.1 hl)⟩,
   fun ⟨h1, h2, A, c, h3, h4⟩ => ⟨h1, ⟨h2, blk_lt h3⟩, A, c, h3, Kd.N_mono (Kd.N_bound h4) (fun _ hk => ⟨⟨hk.1.1, hk.2⟩, hk.1.2⟩)⟩,
   fun ⟨h1, h2, A, c, h3, h4⟩ hh => ⟨h1, hh g h2, A, c, h3, Kd.N_mono h4 (fun k hk => ⟨hh k hk.1, hk.2⟩)⟩⟩
theorem ChP.now {g : Nat} {ix tm : Int} {xs : List SE} {w : World} {F : Nat → Prop} (h : ChP g ix tm xs w F) : Ch w g ix tm xs := by
  obtain ⟨h1, h2, A, c, h3, h4⟩ := h
  exact ⟨h1, A, c, h3, (Kd.N_reads' h4).2.1, (Kd.N_reads' h4).2.2⟩
theorem St.chOpen {W w : World} {F0 : Nat → Prop} {l : List Part} {g : Nat} {ix tm : Int} {xs : List SE} (h : St W F0 w (ChP g ix tm xs :: l)) : Row ix xs ∧ ∃ A c, St W F0 w (Pt g #[.int .u64 ix, .int .u64 tm, .slice A xs.length c] 121 :: Nw KE 78 (.slice A xs.length c) xs :: l) := by
  obtain ⟨h0, F, h1, h2, ⟨r, fg, A, c, hb, hN⟩, h4⟩ := h
  exact ⟨r, A, c, h0, fun k => k = g, fun k hk => hk ▸ h1 g fg, Pt.loc, ⟨rfl, hb⟩, fun k => F k ∧ k ≠ g, fun k hk => ⟨h1 k hk.1, hk.2⟩, Nw.loc, hN, h4.mono (fun k hk => ⟨⟨hk.1, fun e => hk.2 (e ▸ fg)⟩, fun e => hk.2 e.1⟩)⟩
theorem St.chShut {W w : World} {F0 : Nat → Prop} {l : List Part} {g : Nat} {ix tm : Int} {xs : List SE} {A : Option Addr} {c : Nat} (r : Row ix xs) (h : St W F0 w (Pt g #[.int .u64 ix, .int .u64 tm, .slice A xs.length c] 121 :: Nw KE 78 (.slice A xs.length c) xs :: l)) : St W F0 w (ChP g ix tm xs :: l) := by
  obtain ⟨h0, F, h1, _, ⟨fg, hb⟩, F2, k1, _, hN, h4⟩ := h
  refine ⟨h0, fun k => F k ∨ F2 k, fun k hk => hk.elim (h1 k) (fun h => (k1 k h).1), ChP.loc, ⟨r, .inl fg, A, c, hb, Kd.N_mono hN (fun k hk => ⟨.inr hk, fun e => (k1 k hk).2 (e ▸ fg)⟩)⟩, h4.mono (fun k hk => ⟨hk.1.1, fun e => e.elim hk.1.2 hk.2⟩)⟩
theorem St.ch {W w : World} {F0 : Nat → Prop} {l : List Part} {g : Nat} {ix tm : Int} {xs : List SE} (h : St W F0 w l) (i : Nat) (e : l[i]? = some (ChP g ix tm xs)) : Ch w g ix tm xs := by
  obtain ⟨F, h1⟩ := h.get i e
  exact h1.now
set_option maxHeartbeats 8000000 in
set_option maxRecDepth 100000 in
theorem chain_new_sl (W : World) (ix tm : Int) (A : Option Addr) (c : Nat) (xs : List SE) (hC : KE.C W A xs.length xs) (hc : xs.length ≤ c) (k : Nat) (hst : chain_stands.f k ix tm xs = some true) (hrow : Row ix xs) :
    Calls Try.prog 61 #[.int .u64 ix, .int .u64 tm, .slice A xs.length c] W fun e w' => ∃ g, e = .returned (.tuple #[.pointer (some ⟨g, 0, none⟩), .int .i64 0]) ∧ St W (fun _ => False) w' [ChP g ix tm xs] := by
  have hu := Try.underlying121
  have HS := Aside0.mk (chain_stands.calls k ix tm A c xs true W hC hc hst)
  have H := Aside0.mk hC
  have HC := Aside0.mk hc
  have HRR := Aside0.mk hrow
  have HP := Aside0.mk hrow.small
  have HF := Aside0.mk hrow.few
  clear hC hc hst hrow
  go_enter Try.func61, Try.ntmps61
  go_wp2_with (first
    | (go_at_call 64; refine HS.out.mono ?_; rintro e w1 ⟨rfl, hb⟩; have HB1 := Aside0.mk hb; clear hb)
    | (go_at_call 66; refine (chain_copied.calls A c xs w1 (Kd.C_below H.out HB1.out) HC.out HF.out HP.out).mono ?_; rintro e w2 ⟨v, rfl, hR, hb⟩; have HB2 := Aside0.mk (below_step HB1.out hb); obtain ⟨A2, c2, eB⟩ := Kd.R_slice hR; subst eB; have HR2 := Aside0.mk (Kd.R_bound hR); clear hR hb)
    | ((with_reducible refine gate_dst (N := 18) rfl ?_); refine box_event ?hg (N := 18) ?hd (cs := #[.int .u64 ix, .int .u64 tm, .slice A2 xs.length c2]) (t := 121) ?hr ?_; (case hd => rfl); (case hg => rfl); (case hr => first | (go_simp; done) | (go_simp; rfl)); intro g hg w3 hbX hb; have BX := Aside0.mk hbX; have GX : Aside0 (g = w2.heap.size) := ⟨hg⟩; have HB3 := Aside0.mk (below_step HB2.out hb); have HR3 := Aside0.mk (Kd.R_below HR2.out hb); clear hbX hg hb))
  go_ret2
  refine ⟨g, rfl, (St.start W _).new HB3.out ChP.loc ⟨HRR.out, by have := below_size HB2.out; have := GX.out; omega, A2, c2, BX.out, Kd.R_N (Kd.R_lower (Kd.R_mono HR3.out (fun k hk => ⟨Nat.le_trans (below_size HB1.out) hk.2.1, by have := GX.out; have := hk.2.2.1; omega⟩)) (Nat.zero_le _))⟩⟩
set_option maxHeartbeats 8000000 in
set_option maxRecDepth 100000 in
theorem both_good (W : World) (a b o : Int) (A : Option Addr) (c : Nat) (By : List Int) (hC : (Kd.int .u8).C W A By.length By) (hc : By.length ≤ c) (h60 : By.length ≤ 60) (xs : List SE) (hxs : jobberlaw38_Run_entries.f 61 a b By o = some xs) (hx : Ents xs By.length) (hg : standG a b xs = true) (ha : 0 ≤ a ∧ a < 18446744073709551616) :
    Calls Try.prog 26 #[.agg #[.int .u64 a, .int .u64 b, .slice A By.length c, .int .u8 o]] W fun e w' => ∃ g A5 c5, e = .returned (.tuple #[.pointer (some ⟨g, 0, none⟩), .agg #[.int .u64 a, .int .u64 b, .slice none 0 0, .slice A5 (pl xs).length c5], .bool true]) ∧ (pl xs).length ≤ c5 ∧ St W (fun _ => False) w' [ChP g a b xs, Vw k63 A5 (pl xs).length (pl xs)] := by
  have hu := Try.underlying60
  have hu2 := Try.underlying66
  have S0 := St.start W (fun _ => False)
  have HE : Aside0 (∀ W', Below W.heap.size W W' → Calls Try.prog 30 #[.agg #[.int .u64 a, .int .u64 b, .slice A By.length c, .int .u8 o]] W' fun e w' => ∃ v0_ : Value, e = .returned (v0_) ∧ Kd.S KE 78 w' W'.heap.size (fun _ => True) v0_ xs ∧ Below W'.heap.size W' w') := ⟨fun W' hb => jobberlaw38_Run_entries.calls 61 a b A c By o xs W' (Kd.C_below hC hb) hc hxs⟩
  have hn : xs.length ≤ 60 := by rw [hx.len]; exact h60
  have HRow : Aside0 (Row a xs) := ⟨stand_row xs a b ha.1 ha.2 (by omega) (fun x hm => by rw [hx.bod x hm]; omega) (fun x hm => (hx.rng x hm).1) hg⟩
  have HN := Aside0.mk hn
  have HG := Aside0.mk hg
  have HPE := Aside0.mk (plain_eval xs (by omega) (k := 61) (by omega))
  clear hC hc h60 hxs hx hg ha hn
  go_enter Try.func26, Try.ntmps26
  go_upto_region 3 with (first
    | ((with_reducible refine gate_dst (N := 1) rfl ?_); refine box_event ?hg (N := 1) ?hd (cs := #[.int .u64 a, .int .u64 b, .slice A By.length c, .int .u8 o]) (t := 60) ?hr ?_; (case hd => rfl); (case hg => rfl); (case hr => first | (go_simp; done) | (go_simp; rfl)); intro gB hgB w1 hbB hb; have S1 := S0.box hgB hb hbB; clear S0 hgB hbB hb)
    | ((with_reducible refine gate_dst (N := 3) rfl ?_); refine box_event ?hg (N := 3) ?hd (cs := #[.int .u64 0, .int .u64 0, .slice none 0 0, .slice none 0 0]) (t := 66) ?hr ?_; (case hd => rfl); (case hg => rfl); (case hr => first | (go_simp; done) | (go_simp; rfl)); intro gX hgX w2 hbX hb; have S2 := S1.box hgX hb hbX; clear S1 hgX hbX hb
       have z0 : w2.cell? ⟨gB, 0, none⟩ = some (.int .u64 a) := (blk_cell (S2.blk 1 rfl) 0).trans rfl; have z1 : w2.cell? ⟨gB, 1, none⟩ = some (.int .u64 b) := (blk_cell (S2.blk 1 rfl) 1).trans rfl; have z2 : w2.cell? ⟨gB, 2, none⟩ = some (.slice A By.length c) := (blk_cell (S2.blk 1 rfl) 2).trans rfl; have z3 : w2.cell? ⟨gB, 3, none⟩ = some (.int .u8 o) := (blk_cell (S2.blk 1 rfl) 3).trans rfl)
    | (go_at_call 30; refine (HE.out _ S2.below).mono ?_; rintro e w3 ⟨v, rfl, hR, hb⟩; obtain ⟨A3, c3, e3⟩ := Kd.R_slice (Kd.S_R hR); subst e3; have S3 := S2.row hb (Kd.S_R hR); have HR3 := Aside0.mk (Kd.R_reads' (Kd.S_R hR)).2; clear S2 hR hb z0 z1 z2 z3
       have z0 : w3.cell? ⟨gB, 0, none⟩ = some (.int .u64 a) := (blk_cell (S3.blk 2 rfl) 0).trans rfl; have z1 : w3.cell? ⟨gB, 1, none⟩ = some (.int .u64 b) := (blk_cell (S3.blk 2 rfl) 1).trans rfl)
    | (go_at_call 61; refine (chain_new_sl w3 a b A3 c3 xs HR3.out.2 HR3.out.1 61 (by rw [stands_eval xs (by have := HN.out; omega) a b (by have := HN.out; omega), HG.out]) HRow.out).mono ?_; rintro e w4 ⟨g, rfl, hs⟩; have S4 := S3.join0 hs; clear S3 hs HR3 z0 z1
       have z0 : w4.cell? ⟨gB, 0, none⟩ = some (.int .u64 a) := (blk_cell (S4.blk 3 rfl) 0).trans rfl; have z1 : w4.cell? ⟨gB, 1, none⟩ = some (.int .u64 b) := (blk_cell (S4.blk 3 rfl) 1).trans rfl))
  go_cut [8] (fun v8 w6 => ∃ g8 A5 c5, v8 = .pointer (some ⟨g8, 0, none⟩) ∧ Aside0 ((pl xs).length ≤ c5) ∧ St W (fun _ => False) w6 [Pt g8 #[.int .u64 a, .int .u64 b, .slice none 0 0, .slice A5 (pl xs).length c5] 66, Vw k63 A5 (pl xs).length (pl xs), ChP g a b xs, Pt gX #[.int .u64 0, .int .u64 0, .slice none 0 0, .slice none 0 0] 66, Pt gB #[.int .u64 a, .int .u64 b, .slice A By.length c, .int .u8 o] 60])
  case first =>
    have n1 : gB ≠ w4.heap.size := Nat.ne_of_lt (blk_lt (S4.blk 3 rfl))
    have n2 := Ne.symm n1
    go_region_held3 (fun w' => w'.cell? ⟨gB, 0, none⟩ = some (.int .u64 a) ∧ w'.cell? ⟨gB, 1, none⟩ = some (.int .u64 b)) (first | exact Y5 | go_keep) (first
      | (go_at_call 41; refine Calls.named ?_; intro w4' hw4'; have hB4 : Below w4.heap.size w4 w4' := (by rw [hw4']; with_reducible exact below_drew1 (Below.refl _ _)); have S4' := S4.call hB4; clear hw4' hB4; obtain ⟨ok, hR, hup⟩ := (S4'.front 1 rfl).shared; (with_reducible refine (jobberlaw32_Plain.calls 61 ok A3 c3 xs (pl xs) w4' (Kd.R_V hR) HPE.out).mono ?_); rintro e w5 ⟨v, rfl, hN, hb⟩; obtain ⟨A5, c5, e5⟩ := Kd.V_slice (Kd.N_V hN (base' := 0)); subst e5; have HC5 := Aside0.mk (Kd.V_at (Kd.N_V hN (base' := 0))).2.1; have S5 := hup w5 (Vw k63 A5 (pl xs).length (pl xs)) hb Vw.loc (Kd.V_at (Kd.N_V hN (base' := 0))).2.2; have Y5 : w5.cell? ⟨gB, 0, none⟩ = some (.int .u64 a) ∧ w5.cell? ⟨gB, 1, none⟩ = some (.int .u64 b) := ⟨(blk_cell (S5.blk 3 rfl) 0).trans rfl, (blk_cell (S5.blk 3 rfl) 1).trans rfl⟩; clear hN hb S4' hup hR)
      | (go_at_call 41; refine Calls.named ?_; intro w4' hw4'; have S4' : St W (fun _ => False) w4' (Pt w4.heap.size #[.int .u64 0, .int .u64 0, .slice none 0 0, .slice none 0 0] 66 :: [ChP g a b xs, Rw KE 78 (.slice A3 xs.length c3) xs, Pt gX #[.int .u64 0, .int .u64 0, .slice none 0 0, .slice none 0 0] 66, Pt gB #[.int .u64 a, .int .u64 b, .slice A By.length c, .int .u8 o] 60]) := (by rw [hw4']; exact S4.alloc.drew1); clear hw4'; obtain ⟨ok, hR, hup⟩ := (S4'.front 2 rfl).shared; (with_reducible refine (jobberlaw32_Plain.calls 61 ok A3 c3 xs (pl xs) w4' (Kd.R_V hR) HPE.out).mono ?_); rintro e w5 ⟨v, rfl, hN, hb⟩; obtain ⟨A5, c5, e5⟩ := Kd.V_slice (Kd.N_V hN (base' := 0)); subst e5; have HC5 := Aside0.mk (Kd.V_at (Kd.N_V hN (base' := 0))).2.1; have S5 := hup w5 (Vw k63 A5 (pl xs).length (pl xs)) hb Vw.loc (Kd.V_at (Kd.N_V hN (base' := 0))).2.2; have Y5 : w5.cell? ⟨gB, 0, none⟩ = some (.int .u64 a) ∧ w5.cell? ⟨gB, 1, none⟩ = some (.int .u64 b) := ⟨(blk_cell (S5.blk 4 rfl) 0).trans rfl, (blk_cell (S5.blk 4 rfl) 1).trans rfl⟩; have y0 : w5.cell? ⟨w4.heap.size, 0, none⟩ = some (.int .u64 0) := (blk_cell (S5.blk 1 rfl) 0).trans rfl; have q0 : w5.frozen? ⟨w4.heap.size, 0, none⟩ = false := blk_frozen (S5.blk 1 rfl) 0; have y1 : w5.cell? ⟨w4.heap.size, 1, none⟩ = some (.int .u64 0) := (blk_cell (S5.blk 1 rfl) 1).trans rfl; have q1 : w5.frozen? ⟨w4.heap.size, 1, none⟩ = false := blk_frozen (S5.blk 1 rfl) 1; have y2 : w5.cell? ⟨w4.heap.size, 2, none⟩ = some (.slice none 0 0) := (blk_cell (S5.blk 1 rfl) 2).trans rfl; have q2 : w5.frozen? ⟨w4.heap.size, 2, none⟩ = false := blk_frozen (S5.blk 1 rfl) 2; have y3 : w5.cell? ⟨w4.heap.size, 3, none⟩ = some (.slice none 0 0) := (blk_cell (S5.blk 1 rfl) 3).trans rfl; have q3 : w5.frozen? ⟨w4.heap.size, 3, none⟩ = false := blk_frozen (S5.blk 1 rfl) 3; clear hN hb S4' hup hR))
    all_goals (go_wp2_with fail; go_meet)
    case rel => exact ⟨_, A5, c5, rfl, HC5, S5.alloc⟩
    case rel => exact ⟨_, A5, c5, rfl, HC5, ((((S5.front 1 rfl).put 0 _ rfl).put 1 _ rfl).put 2 _ rfl).put 3 _ rfl⟩
  case rest =>
    obtain ⟨g8, A5, c5, rfl, HC5, S6⟩ := hcut
    have z0 : wc.cell? ⟨g8, 0, none⟩ = some (.int .u64 a) := (blk_cell (S6.blk 0 rfl) 0).trans rfl
    have z1 : wc.cell? ⟨g8, 1, none⟩ = some (.int .u64 b) := (blk_cell (S6.blk 0 rfl) 1).trans rfl
    have z2 : wc.cell? ⟨g8, 2, none⟩ = some (.slice none 0 0) := (blk_cell (S6.blk 0 rfl) 2).trans rfl
    have z3 : wc.cell? ⟨g8, 3, none⟩ = some (.slice A5 (pl xs).length c5) := (blk_cell (S6.blk 0 rfl) 3).trans rfl
    go_wp2_with (go_at_call 43; obtain ⟨F6, hF6⟩ := S6.get 1 rfl; refine (jobberref38_Stands.calls 61 _ _ (fun _ => True) none 0 [] F6 A5 c5 (pl xs) true wc (Kd.V_nil _ _ _ _ _) (Kd.V_mk HC5.out hF6) (by rw [rstands_eval xs (by have := HN.out; omega) a b [] (by have := HN.out; omega), HG.out])).mono ?_; rintro e w7 ⟨rfl, hb⟩; have S7 := S6.call hb; clear S6 hb hF6 z0 z1 z2 z3; have z0 : w7.cell? ⟨g8, 0, none⟩ = some (.int .u64 a) := (blk_cell (S7.blk 0 rfl) 0).trans rfl; have z1 : w7.cell? ⟨g8, 1, none⟩ = some (.int .u64 b) := (blk_cell (S7.blk 0 rfl) 1).trans rfl; have z2 : w7.cell? ⟨g8, 2, none⟩ = some (.slice none 0 0) := (blk_cell (S7.blk 0 rfl) 2).trans rfl; have z3 : w7.cell? ⟨g8, 3, none⟩ = some (.slice A5 (pl xs).length c5) := (blk_cell (S7.blk 0 rfl) 3).trans rfl)
    have zx0 : w7.cell? ⟨gX, 0, none⟩ = some (.int .u64 0) := (blk_cell (S7.blk 3 rfl) 0).trans rfl; have zx1 : w7.cell? ⟨gX, 1, none⟩ = some (.int .u64 0) := (blk_cell (S7.blk 3 rfl) 1).trans rfl; have zx2 : w7.cell? ⟨gX, 2, none⟩ = some (.slice none 0 0) := (blk_cell (S7.blk 3 rfl) 2).trans rfl; have zx3 : w7.cell? ⟨gX, 3, none⟩ = some (.slice none 0 0) := (blk_cell (S7.blk 3 rfl) 3).trans rfl
    have fx0 := blk_frozen (S7.blk 3 rfl) 0; have fx1 := blk_frozen (S7.blk 3 rfl) 1; have fx2 := blk_frozen (S7.blk 3 rfl) 2; have fx3 := blk_frozen (S7.blk 3 rfl) 3
    have nx : gX ≠ g8 := S7.ne 3 0 rfl rfl (by decide); have nx' := Ne.symm nx
    go_region
    go_wp2
    have S8 := (((((S7.front 3 rfl).put 0 (.int .u64 a) rfl).put 1 (.int .u64 b) rfl).put 2 (.slice none 0 0) rfl).put 3 (.slice A5 (pl xs).length c5) rfl).drew1
    refine bodyPost_ret (results_tct rfl _ _ gX 66 _ (0, 0) _ rfl (S8.blk 0 rfl) Try.underlying66 rfl (by kernel_rfl)) rfl ?_
    exact ⟨g, A5, c5, rfl, HC5.out, ((S8.front 2 rfl).front 3 rfl).take 2⟩
set_option maxHeartbeats 8000000 in
set_option maxRecDepth 100000 in
theorem both_bad (W : World) (a b o : Int) (A : Option Addr) (c : Nat) (By : List Int) (hC : (Kd.int .u8).C W A By.length By) (hc : By.length ≤ c) (h60 : By.length ≤ 60) (xs : List SE) (hxs : jobberlaw38_Run_entries.f 61 a b By o = some xs) (hx : Ents xs By.length) (hg : standG a b xs = false) :
    Calls Try.prog 26 #[.agg #[.int .u64 a, .int .u64 b, .slice A By.length c, .int .u8 o]] W fun e w' => ∃ A5 c5, e = .returned (.tuple #[.pointer none, .agg #[.int .u64 a, .int .u64 b, .slice none 0 0, .slice A5 (pl xs).length c5], .bool true]) ∧ Below W.heap.size W w' := by
  have hu := Try.underlying60
  have hu2 := Try.underlying66
  have S0 := St.start W (fun _ => False)
  have HE : Aside0 (∀ W', Below W.heap.size W W' → Calls Try.prog 30 #[.agg #[.int .u64 a, .int .u64 b, .slice A By.length c, .int .u8 o]] W' fun e w' => ∃ v0_ : Value, e = .returned (v0_) ∧ Kd.S KE 78 w' W'.heap.size (fun _ => True) v0_ xs ∧ Below W'.heap.size W' w') := ⟨fun W' hb => jobberlaw38_Run_entries.calls 61 a b A c By o xs W' (Kd.C_below hC hb) hc hxs⟩
  have hn : xs.length ≤ 60 := by rw [hx.len]; exact h60
  have HN := Aside0.mk hn
  have HG := Aside0.mk hg
  have HPE := Aside0.mk (plain_eval xs (by omega) (k := 61) (by omega))
  clear hC hc h60 hxs hx hg hn
  go_enter Try.func26, Try.ntmps26
  go_upto_region 3 with (first
    | ((with_reducible refine gate_dst (N := 1) rfl ?_); refine box_event ?hg (N := 1) ?hd (cs := #[.int .u64 a, .int .u64 b, .slice A By.length c, .int .u8 o]) (t := 60) ?hr ?_; (case hd => rfl); (case hg => rfl); (case hr => first | (go_simp; done) | (go_simp; rfl)); intro gB hg_ w1 hbB hb; have S1 := S0.box hg_ hb hbB; clear S0 hg_ hbB hb)
    | ((with_reducible refine gate_dst (N := 3) rfl ?_); refine box_event ?hg (N := 3) ?hd (cs := #[.int .u64 0, .int .u64 0, .slice none 0 0, .slice none 0 0]) (t := 66) ?hr ?_; (case hd => rfl); (case hg => rfl); (case hr => first | (go_simp; done) | (go_simp; rfl)); intro gX hg_ w2 hbB hb; have S2 := S1.box hg_ hb hbB; clear S1 hg_ hbB hb; have z0 : w2.cell? ⟨gB, 0, none⟩ = some (.int .u64 a) := (blk_cell (S2.blk 1 rfl) 0).trans rfl; have z1 : w2.cell? ⟨gB, 1, none⟩ = some (.int .u64 b) := (blk_cell (S2.blk 1 rfl) 1).trans rfl; have z2 : w2.cell? ⟨gB, 2, none⟩ = some (.slice A By.length c) := (blk_cell (S2.blk 1 rfl) 2).trans rfl; have z3 : w2.cell? ⟨gB, 3, none⟩ = some (.int .u8 o) := (blk_cell (S2.blk 1 rfl) 3).trans rfl)
    | (go_at_call 30; refine (HE.out _ S2.below).mono ?_; rintro e w3 ⟨v, rfl, hR, hb⟩; obtain ⟨A3, c3, e3⟩ := Kd.R_slice (Kd.S_R hR); subst e3; have S3 := S2.row hb (Kd.S_R hR); have HR3 := Aside0.mk (Kd.R_reads' (Kd.S_R hR)).2; clear S2 hR hb z0 z1 z2 z3; have z0 : w3.cell? ⟨gB, 0, none⟩ = some (.int .u64 a) := (blk_cell (S3.blk 2 rfl) 0).trans rfl; have z1 : w3.cell? ⟨gB, 1, none⟩ = some (.int .u64 b) := (blk_cell (S3.blk 2 rfl) 1).trans rfl)
    | (go_at_call 61; refine (chain_new_bad w3 a b A3 c3 xs HR3.out.2 HR3.out.1 61 (by rw [stands_eval xs (by have := HN.out; omega) a b (by have := HN.out; omega), HG.out])).mono ?_; rintro e w4 ⟨rfl, hb⟩; have S4 := S3.call hb; clear S3 hb HR3 z0 z1; have z0 : w4.cell? ⟨gB, 0, none⟩ = some (.int .u64 a) := (blk_cell (S4.blk 2 rfl) 0).trans rfl; have z1 : w4.cell? ⟨gB, 1, none⟩ = some (.int .u64 b) := (blk_cell (S4.blk 2 rfl) 1).trans rfl))
  go_cut [8] (fun v8 w6 => ∃ g8 A5 c5, v8 = .pointer (some ⟨g8, 0, none⟩) ∧ Aside0 ((pl xs).length ≤ c5) ∧ St W (fun _ => False) w6 [Pt g8 #[.int .u64 a, .int .u64 b, .slice none 0 0, .slice A5 (pl xs).length c5] 66, Vw k63 A5 (pl xs).length (pl xs), Pt gX #[.int .u64 0, .int .u64 0, .slice none 0 0, .slice none 0 0] 66, Pt gB #[.int .u64 a, .int .u64 b, .slice A By.length c, .int .u8 o] 60])
  case first =>
    have n1 : gB ≠ w4.heap.size := Nat.ne_of_lt (blk_lt (S4.blk 2 rfl))
    have n2 := Ne.symm n1
    go_region_held3 (fun w' => w'.cell? ⟨gB, 0, none⟩ = some (.int .u64 a) ∧ w'.cell? ⟨gB, 1, none⟩ = some (.int .u64 b)) (first | exact Y5 | go_keep) (first
      | (go_at_call 41; refine Calls.named ?_; intro w4' hw4'; have hB4 : Below w4.heap.size w4 w4' := (by rw [hw4']; with_reducible exact below_drew1 (Below.refl _ _)); have S4' := S4.call hB4; clear hw4' hB4; obtain ⟨ok, hR, hup⟩ := (S4'.front 0 rfl).shared; (with_reducible refine (jobberlaw32_Plain.calls 61 ok A3 c3 xs (pl xs) w4' (Kd.R_V hR) HPE.out).mono ?_); rintro e w5 ⟨v, rfl, hN, hb⟩; obtain ⟨A5, c5, e5⟩ := Kd.V_slice (Kd.N_V hN (base' := 0)); subst e5; have HC5 := Aside0.mk (Kd.V_at (Kd.N_V hN (base' := 0))).2.1; have S5 := hup w5 (Vw k63 A5 (pl xs).length (pl xs)) hb Vw.loc (Kd.V_at (Kd.N_V hN (base' := 0))).2.2; have Y5 : w5.cell? ⟨gB, 0, none⟩ = some (.int .u64 a) ∧ w5.cell? ⟨gB, 1, none⟩ = some (.int .u64 b) := ⟨(blk_cell (S5.blk 2 rfl) 0).trans rfl, (blk_cell (S5.blk 2 rfl) 1).trans rfl⟩; clear hN hb S4' hup hR)
      | (go_at_call 41; refine Calls.named ?_; intro w4' hw4'; have S4' : St W (fun _ => False) w4' (Pt w4.heap.size #[.int .u64 0, .int .u64 0, .slice none 0 0, .slice none 0 0] 66 :: [Rw KE 78 (.slice A3 xs.length c3) xs, Pt gX #[.int .u64 0, .int .u64 0, .slice none 0 0, .slice none 0 0] 66, Pt gB #[.int .u64 a, .int .u64 b, .slice A By.length c, .int .u8 o] 60]) := (by rw [hw4']; exact S4.alloc.drew1); clear hw4'; obtain ⟨ok, hR, hup⟩ := (S4'.front 1 rfl).shared; (with_reducible refine (jobberlaw32_Plain.calls 61 ok A3 c3 xs (pl xs) w4' (Kd.R_V hR) HPE.out).mono ?_); rintro e w5 ⟨v, rfl, hN, hb⟩; obtain ⟨A5, c5, e5⟩ := Kd.V_slice (Kd.N_V hN (base' := 0)); subst e5; have HC5 := Aside0.mk (Kd.V_at (Kd.N_V hN (base' := 0))).2.1; have S5 := hup w5 (Vw k63 A5 (pl xs).length (pl xs)) hb Vw.loc (Kd.V_at (Kd.N_V hN (base' := 0))).2.2; have Y5 : w5.cell? ⟨gB, 0, none⟩ = some (.int .u64 a) ∧ w5.cell? ⟨gB, 1, none⟩ = some (.int .u64 b) := ⟨(blk_cell (S5.blk 3 rfl) 0).trans rfl, (blk_cell (S5.blk 3 rfl) 1).trans rfl⟩; have y0 : w5.cell? ⟨w4.heap.size, 0, none⟩ = some (.int .u64 0) := (blk_cell (S5.blk 1 rfl) 0).trans rfl; have fy0 : w5.frozen? ⟨w4.heap.size, 0, none⟩ = false := blk_frozen (S5.blk 1 rfl) 0; have y1 : w5.cell? ⟨w4.heap.size, 1, none⟩ = some (.int .u64 0) := (blk_cell (S5.blk 1 rfl) 1).trans rfl; have fy1 : w5.frozen? ⟨w4.heap.size, 1, none⟩ = false := blk_frozen (S5.blk 1 rfl) 1; have y2 : w5.cell? ⟨w4.heap.size, 2, none⟩ = some (.slice none 0 0) := (blk_cell (S5.blk 1 rfl) 2).trans rfl; have fy2 : w5.frozen? ⟨w4.heap.size, 2, none⟩ = false := blk_frozen (S5.blk 1 rfl) 2; have y3 : w5.cell? ⟨w4.heap.size, 3, none⟩ = some (.slice none 0 0) := (blk_cell (S5.blk 1 rfl) 3).trans rfl; have fy3 : w5.frozen? ⟨w4.heap.size, 3, none⟩ = false := blk_frozen (S5.blk 1 rfl) 3; clear hN hb S4' hup hR))
    all_goals (go_wp2_with fail; go_meet)
    case rel => exact ⟨_, A5, c5, rfl, HC5, S5.alloc⟩
    case rel => exact ⟨_, A5, c5, rfl, HC5, ((((S5.front 1 rfl).put 0 _ rfl).put 1 _ rfl).put 2 _ rfl).put 3 _ rfl⟩
  case rest =>
    obtain ⟨g8, A5, c5, rfl, HC5, S6⟩ := hcut
    have z0 : wc.cell? ⟨g8, 0, none⟩ = some (.int .u64 a) := (blk_cell (S6.blk 0 rfl) 0).trans rfl; have z1 : wc.cell? ⟨g8, 1, none⟩ = some (.int .u64 b) := (blk_cell (S6.blk 0 rfl) 1).trans rfl; have z2 : wc.cell? ⟨g8, 2, none⟩ = some (.slice none 0 0) := (blk_cell (S6.blk 0 rfl) 2).trans rfl; have z3 : wc.cell? ⟨g8, 3, none⟩ = some (.slice A5 (pl xs).length c5) := (blk_cell (S6.blk 0 rfl) 3).trans rfl
    go_wp2_with (go_at_call 43; obtain ⟨F6, hF6⟩ := S6.get 1 rfl; refine (jobberref38_Stands.calls 61 _ _ (fun _ => True) none 0 [] F6 A5 c5 (pl xs) false wc (Kd.V_nil _ _ _ _ _) (Kd.V_mk HC5.out hF6) (by rw [rstands_eval xs (by have := HN.out; omega) a b [] (by have := HN.out; omega), HG.out])).mono ?_; rintro e w7 ⟨rfl, hb⟩; have S7 := S6.call hb; clear S6 hb hF6 z0 z1 z2 z3; have z0 : w7.cell? ⟨g8, 0, none⟩ = some (.int .u64 a) := (blk_cell (S7.blk 0 rfl) 0).trans rfl; have z1 : w7.cell? ⟨g8, 1, none⟩ = some (.int .u64 b) := (blk_cell (S7.blk 0 rfl) 1).trans rfl; have z2 : w7.cell? ⟨g8, 2, none⟩ = some (.slice none 0 0) := (blk_cell (S7.blk 0 rfl) 2).trans rfl; have z3 : w7.cell? ⟨g8, 3, none⟩ = some (.slice A5 (pl xs).length c5) := (blk_cell (S7.blk 0 rfl) 3).trans rfl)
    have zx0 : w7.cell? ⟨gX, 0, none⟩ = some (.int .u64 0) := (blk_cell (S7.blk 2 rfl) 0).trans rfl; have fzx0 : w7.frozen? ⟨gX, 0, none⟩ = false := blk_frozen (S7.blk 2 rfl) 0; have zx1 : w7.cell? ⟨gX, 1, none⟩ = some (.int .u64 0) := (blk_cell (S7.blk 2 rfl) 1).trans rfl; have fzx1 : w7.frozen? ⟨gX, 1, none⟩ = false := blk_frozen (S7.blk 2 rfl) 1; have zx2 : w7.cell? ⟨gX, 2, none⟩ = some (.slice none 0 0) := (blk_cell (S7.blk 2 rfl) 2).trans rfl; have fzx2 : w7.frozen? ⟨gX, 2, none⟩ = false := blk_frozen (S7.blk 2 rfl) 2; have zx3 : w7.cell? ⟨gX, 3, none⟩ = some (.slice none 0 0) := (blk_cell (S7.blk 2 rfl) 3).trans rfl; have fzx3 : w7.frozen? ⟨gX, 3, none⟩ = false := blk_frozen (S7.blk 2 rfl) 3
    have nx : gX ≠ g8 := S7.ne 2 0 rfl rfl (by decide); have nx' := Ne.symm nx
    go_region
    go_wp2
    have S8 := (((((S7.front 2 rfl).put 0 (.int .u64 a) rfl).put 1 (.int .u64 b) rfl).put 2 (.slice none 0 0) rfl).put 3 (.slice A5 (pl xs).length c5) rfl).drew1
    refine bodyPost_ret (results_tct rfl _ _ gX 66 _ (0, 0) _ rfl (S8.blk 0 rfl) Try.underlying66 rfl (by kernel_rfl)) rfl ?_
    exact ⟨A5, c5, rfl, S8.below⟩
theorem V_all {α : Type} {d : Kd α} (hd : Kd.Heap d) {w : World} {A : Option Addr} {c e base : Nat} {xs : List α} (h : d.C w A xs.length xs) (hc : xs.length ≤ c) : Kd.V d e w base (fun _ => True) (.slice A xs.length c) xs :=
  Kd.V_mk hc (fun W' hW => hd.C (fun k hk => hW k trivial hk) h)
theorem results_c {P : Program} {fn : Func} {p : Tmp} {ty : TypeId} (h : fn.results = #[.cell p ty]) (tmps : Array Value) (w : World) (g : Nat) (t : TypeId) (cs : Array Value) (fr : Nat × Nat) (d : TypeDesc)
    (hp : tmps.getD p undef = .pointer (some ⟨g, 0, none⟩)) (hg : w.heap[g]? = some (.cells cs t fr))
    (hu : P.underlying ty = some d) (hd : (match d with | .struct _ | .array _ _ => true | _ => false) = true) (hi : (P.info? ty).map (·.size) = some cs.size) :
    (results fn tmps).run P w = .ok (.agg cs) w := by
  have hp' : tmps[p]?.getD undef = .pointer (some ⟨g, 0, none⟩) := by simpa using hp
  simp [results, h, hp', asAddr, run_loadVar_row w g t ty cs fr d hg hu hd hi]
/-- The reference's Last: index, term, and some body. -/
def RLast (W : World) (a b : Int) (xs : List SE) (e : Ending) (w' : World) : Prop := ∃ A' c', ∃ bs' : List Int, e = .returned (.agg #[.int .u64 (a + xs.length), .int .u64 (lastT b xs), .slice A' bs'.length c']) ∧ bs'.length ≤ c' ∧ (Kd.int .u8).C w' A' bs'.length bs' ∧ Below W.heap.size W w'
set_option maxHeartbeats 8000000 in
set_option maxRecDepth 100000 in
theorem rlast (W : World) (a b : Int) (Ab : Option Addr) (cb : Nat) (bs : List Int) (hB : (Kd.int .u8).C W Ab bs.length bs) (hb : bs.length ≤ cb) (A : Option Addr) (c : Nat) (xs : List SE) (hC : k63.C W A (pl xs).length (pl xs)) (hrow : Row a xs) :
    Calls Try.prog 35 #[.agg #[.int .u64 a, .int .u64 b, .slice Ab bs.length cb, .slice A (pl xs).length c]] W (RLast W a b xs) := by
  have hu := Try.underlying66
  have hu2 := Try.underlying63
  have S0 := St.start W (fun _ => False)
  have HB := Aside0.mk hB
  have HBc := Aside0.mk hb
  have HC := Aside0.mk hC
  have HR := Aside0.mk hrow
  clear hB hb hC hrow
  have hpl := pl_len xs
  by_cases hz : xs.length = 0
  · have hd : (((pl xs).length : Int) == 0) = true := by rw [hpl, hz]; rfl
    have HZ := Aside0.mk hz
    clear hz hpl
    go_enter Try.func35, Try.ntmps35
    go_wp2_with (first
      | ((with_reducible refine gate_dst (N := 1) rfl ?_); refine box_event ?hg (N := 1) ?hd (cs := #[.int .u64 a, .int .u64 b, .slice Ab bs.length cb, .slice A (pl xs).length c]) (t := 66) ?hr ?_; (case hd => rfl); (case hg => rfl); (case hr => first | (go_simp; done) | (go_simp; rfl)); intro gB hg_ w1 hbB hb; have S1 := S0.box hg_ hb hbB; clear S0 hg_ hbB hb)
      | ((with_reducible refine gate_dst (N := 2) rfl ?_); refine box_event ?hg (N := 2) ?hd (cs := #[.int .u64 0, .int .u64 0, .slice none 0 0]) (t := 63) ?hr ?_; (case hd => rfl); (case hg => rfl); (case hr => first | (go_simp; done) | (go_simp; rfl)); intro gX hg_ w2 hbB hb; have S2 := S1.box hg_ hb hbB; clear S1 hg_ hbB hb; have z0 : w2.cell? ⟨gB, 0, none⟩ = some (.int .u64 a) := (blk_cell (S2.blk 1 rfl) 0).trans rfl; have z1 : w2.cell? ⟨gB, 1, none⟩ = some (.int .u64 b) := (blk_cell (S2.blk 1 rfl) 1).trans rfl; have z2 : w2.cell? ⟨gB, 2, none⟩ = some (.slice Ab bs.length cb) := (blk_cell (S2.blk 1 rfl) 2).trans rfl; have z3 : w2.cell? ⟨gB, 3, none⟩ = some (.slice A (pl xs).length c) := (blk_cell (S2.blk 1 rfl) 3).trans rfl; have x0 : w2.cell? ⟨gX, 0, none⟩ = some (.int .u64 0) := (blk_cell (S2.blk 0 rfl) 0).trans rfl; have fx0 : w2.frozen? ⟨gX, 0, none⟩ = false := blk_frozen (S2.blk 0 rfl) 0; have x1 : w2.cell? ⟨gX, 1, none⟩ = some (.int .u64 0) := (blk_cell (S2.blk 0 rfl) 1).trans rfl; have fx1 : w2.frozen? ⟨gX, 1, none⟩ = false := blk_frozen (S2.blk 0 rfl) 1; have x2 : w2.cell? ⟨gX, 2, none⟩ = some (.slice none 0 0) := (blk_cell (S2.blk 0 rfl) 2).trans rfl; have fx2 : w2.frozen? ⟨gX, 2, none⟩ = false := blk_frozen (S2.blk 0 rfl) 2; have nx : gX ≠ gB := S2.ne 0 1 rfl rfl (by decide); have nx' := Ne.symm nx))
    have S3 := ((S2.put 0 (.int .u64 a) rfl).put 1 (.int .u64 b) rfl).put 2 (.slice Ab bs.length cb) rfl
    refine bodyPost_ret (results_c rfl _ _ gX 63 _ (0, 0) _ rfl (S3.blk 0 rfl) Try.underlying63 rfl (by kernel_rfl)) rfl ?_
    exact ⟨Ab, cb, bs, by unfold lastT; rw [if_pos HZ.out, HZ.out]; simp, HBc.out, Kd.C_below HB.out S3.below, S3.below⟩
  · have hd : (((pl xs).length : Int) == 0) = false := beq_eq_false_iff_ne.mpr (by rw [hpl]; omega)
    obtain ⟨n, hn⟩ : ∃ n : Int, ((pl xs).length : Int) - 1 = n := ⟨_, rfl⟩
    have hw : wrap64 (((pl xs).length : Int) - 1) = n := by have := HR.out.few; unfold wrap64; omega
    have p1 : (0 ≤ n) = True := eq_true (by omega)
    have p2 : (n < ((pl xs).length : Int)) = True := eq_true (by omega)
    obtain ⟨ad, A2, c2, e1, x0, x1, x2, hl, hC2⟩ := at_T63 HC.out n (of_eq_true p1) (of_eq_true p2)
    subst e1
    have hrd : rd_T63 (pl xs) n = plE (rd_T78 xs n) := rd_pl xs (by omega) (by omega)
    have hf0 := rd_f0 HR.out (i := n) (by omega) (by omega)
    rw [hrd] at x0 x1 x2 hl hC2
    have HE : Aside0 (n = (xs.length : Int) - 1 ∧ (rd_T78 xs n).f0 = a + 1 + n) := ⟨by omega, hf0⟩
    generalize plE (rd_T78 xs n) = y at x0 x1 x2 hl hC2 hrd
    have HY : Aside0 (y = plE (rd_T78 xs n)) := ⟨by
      rw [← hrd]; exact rd_pl xs (by omega) (by omega)⟩
    have HZ := Aside0.mk hz
    have HL := Aside0.mk hl
    have HC2 := Aside0.mk hC2
    have X0 := Aside0.mk x0
    have X1 := Aside0.mk x1
    have X2 := Aside0.mk x2
    clear hz hpl hn hrd hf0 hl hC2 x0 x1 x2
    go_enter Try.func35, Try.ntmps35
    go_wp2_with (first
      | ((with_reducible refine gate_dst (N := 1) rfl ?_); refine box_event ?hg (N := 1) ?hd (cs := #[.int .u64 a, .int .u64 b, .slice Ab bs.length cb, .slice (some ad) (pl xs).length c]) (t := 66) ?hr ?_; (case hd => rfl); (case hg => rfl); (case hr => first | (go_simp; done) | (go_simp; rfl)); intro gB hg_ w1 hbB hb; have S1 := S0.box hg_ hb hbB; clear S0 hg_ hbB hb)
      | ((with_reducible refine gate_dst (N := 2) rfl ?_); refine box_event ?hg (N := 2) ?hd (cs := #[.int .u64 0, .int .u64 0, .slice none 0 0]) (t := 63) ?hr ?_; (case hd => rfl); (case hg => rfl); (case hr => first | (go_simp; done) | (go_simp; rfl)); intro gX hg_ w2 hbB hb; have S2 := S1.box hg_ hb hbB; clear S1 hg_ hbB hb; have z0 : w2.cell? ⟨gB, 0, none⟩ = some (.int .u64 a) := (blk_cell (S2.blk 1 rfl) 0).trans rfl; have z1 : w2.cell? ⟨gB, 1, none⟩ = some (.int .u64 b) := (blk_cell (S2.blk 1 rfl) 1).trans rfl; have z2 : w2.cell? ⟨gB, 2, none⟩ = some (.slice Ab bs.length cb) := (blk_cell (S2.blk 1 rfl) 2).trans rfl; have z3 : w2.cell? ⟨gB, 3, none⟩ = some (.slice (some ad) (pl xs).length c) := (blk_cell (S2.blk 1 rfl) 3).trans rfl; have x0 : w2.cell? ⟨gX, 0, none⟩ = some (.int .u64 0) := (blk_cell (S2.blk 0 rfl) 0).trans rfl; have fx0 : w2.frozen? ⟨gX, 0, none⟩ = false := blk_frozen (S2.blk 0 rfl) 0; have x1 : w2.cell? ⟨gX, 1, none⟩ = some (.int .u64 0) := (blk_cell (S2.blk 0 rfl) 1).trans rfl; have fx1 : w2.frozen? ⟨gX, 1, none⟩ = false := blk_frozen (S2.blk 0 rfl) 1; have x2 : w2.cell? ⟨gX, 2, none⟩ = some (.slice none 0 0) := (blk_cell (S2.blk 0 rfl) 2).trans rfl; have fx2 : w2.frozen? ⟨gX, 2, none⟩ = false := blk_frozen (S2.blk 0 rfl) 2; have nx : gX ≠ gB := S2.ne 0 1 rfl rfl (by decide); have nx' := Ne.symm nx; have y0 := pw_cell_below S2.below X0.out; have y1 := pw_cell_below S2.below X1.out; have y2 := pw_cell_below S2.below X2.out))
    have S3 := ((S2.put 0 (.int .u64 y.f0) rfl).put 1 (.int .u64 y.f1) rfl).put 2 (.slice A2 y.f2.length c2) rfl
    refine bodyPost_ret (results_c rfl _ _ gX 63 _ (0, 0) _ rfl (S3.blk 0 rfl) Try.underlying63 rfl (by kernel_rfl)) rfl ?_
    refine ⟨A2, c2, y.f2, ?_, HL.out, Kd.C_below HC2.out S3.below, S3.below⟩
    have h1 := HE.out
    unfold lastT
    rw [if_neg HZ.out, HY.out, show a + (xs.length : Int) = a + 1 + n by omega, ← h1.2, h1.1]
    rfl
set_option maxHeartbeats 8000000 in
set_option maxRecDepth 100000 in
theorem rnewer (W : World) (a b : Int) (Ab : Option Addr) (cb : Nat) (bs : List Int) (hB : (Kd.int .u8).C W Ab bs.length bs) (hb : bs.length ≤ cb) (A : Option Addr) (c : Nat) (xs : List SE) (hC : k63.C W A (pl xs).length (pl xs)) (hrow : Row a xs) (i t : Int) :
    Calls Try.prog 29 #[.agg #[.int .u64 a, .int .u64 b, .slice Ab bs.length cb, .slice A (pl xs).length c], .int .u64 i, .int .u64 t] W fun e w' => e = .returned (.bool (newerF a b xs i t)) ∧ Below W.heap.size W w' := by
  have hu := Try.underlying66
  have hu2 := Try.underlying63
  have S0 := St.start W (fun _ => False)
  have HL : Aside0 (∀ W', Below W.heap.size W W' → Calls Try.prog 35 #[.agg #[.int .u64 a, .int .u64 b, .slice Ab bs.length cb, .slice A (pl xs).length c]] W' (RLast W' a b xs)) := ⟨fun W' h => rlast W' a b Ab cb bs (Kd.C_below hB h) hb A c xs (Kd.C_below hC h) hrow⟩
  clear hB hb hC hrow
  by_cases c1 : t > lastT b xs
  · have HP : Aside0 (newerF a b xs i t = true) := ⟨by unfold newerF; rw [if_pos c1]⟩
    have d1 : decide (t > lastT b xs) = true := decide_eq_true c1
    clear c1
    rw [HP.out]
    go_enter Try.func29, Try.ntmps29
    go_wp2_with (first
      | ((with_reducible refine gate_dst (N := 3) rfl ?_); refine box_event ?hg (N := 3) ?hd (cs := #[.int .u64 a, .int .u64 b, .slice Ab bs.length cb, .slice A (pl xs).length c]) (t := 66) ?hr ?_; (case hd => rfl); (case hg => rfl); (case hr => first | (go_simp; done) | (go_simp; rfl)); intro gB hg_ w1 hbB hb; have S1 := S0.box hg_ hb hbB; clear S0 hg_ hbB hb; have z0 : w1.cell? ⟨gB, 0, none⟩ = some (.int .u64 a) := (blk_cell (S1.blk 0 rfl) 0).trans rfl; have z1 : w1.cell? ⟨gB, 1, none⟩ = some (.int .u64 b) := (blk_cell (S1.blk 0 rfl) 1).trans rfl; have z2 : w1.cell? ⟨gB, 2, none⟩ = some (.slice Ab bs.length cb) := (blk_cell (S1.blk 0 rfl) 2).trans rfl; have z3 : w1.cell? ⟨gB, 3, none⟩ = some (.slice A (pl xs).length c) := (blk_cell (S1.blk 0 rfl) 3).trans rfl)
      | (go_at_call 35; refine (HL.out _ S1.below).mono ?_; rintro e w2 ⟨A', c', bs', rfl, _, _, hb⟩; have S2 := S1.call hb; clear S1 hb z0 z1 z2 z3)
      | ((with_reducible refine gate_dst (N := 7) rfl ?_); refine box_event ?hg (N := 7) ?hd (cs := #[.int .u64 0, .int .u64 0, .slice none 0 0]) (t := 63) ?hr ?_; (case hd => rfl); (case hg => rfl); (case hr => first | (go_simp; done) | (go_simp; rfl)); intro gX hg_ w3 hbB hb; have S3 := S2.box hg_ hb hbB; clear S2 hg_ hbB hb; have x0 : w3.cell? ⟨gX, 0, none⟩ = some (.int .u64 0) := (blk_cell (S3.blk 0 rfl) 0).trans rfl; have fx0 : w3.frozen? ⟨gX, 0, none⟩ = false := blk_frozen (S3.blk 0 rfl) 0; have x1 : w3.cell? ⟨gX, 1, none⟩ = some (.int .u64 0) := (blk_cell (S3.blk 0 rfl) 1).trans rfl; have fx1 : w3.frozen? ⟨gX, 1, none⟩ = false := blk_frozen (S3.blk 0 rfl) 1; have x2 : w3.cell? ⟨gX, 2, none⟩ = some (.slice none 0 0) := (blk_cell (S3.blk 0 rfl) 2).trans rfl; have fx2 : w3.frozen? ⟨gX, 2, none⟩ = false := blk_frozen (S3.blk 0 rfl) 2))
    go_ret
    have S4 := ((S3.put 0 (.int .u64 (a + xs.length)) rfl).put 1 (.int .u64 (lastT b xs)) rfl).put 2 (.slice A' bs'.length c') rfl
    exact ⟨rfl, S4.below⟩
  by_cases c2 : t = lastT b xs
  · have HP : Aside0 (newerF a b xs i t = decide (i ≥ a + xs.length)) := ⟨by unfold newerF; rw [if_neg c1, if_pos c2]⟩
    have d1 : decide (t > lastT b xs) = false := decide_eq_false c1
    have d2 : (t == lastT b xs) = true := beq_iff_eq.mpr c2
    clear c1 c2
    rw [HP.out]
    go_enter Try.func29, Try.ntmps29
    go_wp2_with (first
      | ((with_reducible refine gate_dst (N := 3) rfl ?_); refine box_event ?hg (N := 3) ?hd (cs := #[.int .u64 a, .int .u64 b, .slice Ab bs.length cb, .slice A (pl xs).length c]) (t := 66) ?hr ?_; (case hd => rfl); (case hg => rfl); (case hr => first | (go_simp; done) | (go_simp; rfl)); intro gB hg_ w1 hbB hb; have S1 := S0.box hg_ hb hbB; clear S0 hg_ hbB hb; have z0 : w1.cell? ⟨gB, 0, none⟩ = some (.int .u64 a) := (blk_cell (S1.blk 0 rfl) 0).trans rfl; have z1 : w1.cell? ⟨gB, 1, none⟩ = some (.int .u64 b) := (blk_cell (S1.blk 0 rfl) 1).trans rfl; have z2 : w1.cell? ⟨gB, 2, none⟩ = some (.slice Ab bs.length cb) := (blk_cell (S1.blk 0 rfl) 2).trans rfl; have z3 : w1.cell? ⟨gB, 3, none⟩ = some (.slice A (pl xs).length c) := (blk_cell (S1.blk 0 rfl) 3).trans rfl)
      | (go_at_call 35; refine (HL.out _ S1.below).mono ?_; rintro e w2 ⟨A', c', bs', rfl, _, _, hb⟩; have S2 := S1.call hb; clear S1 hb z0 z1 z2 z3)
      | ((with_reducible refine gate_dst (N := 7) rfl ?_); refine box_event ?hg (N := 7) ?hd (cs := #[.int .u64 0, .int .u64 0, .slice none 0 0]) (t := 63) ?hr ?_; (case hd => rfl); (case hg => rfl); (case hr => first | (go_simp; done) | (go_simp; rfl)); intro gX hg_ w3 hbB hb; have S3 := S2.box hg_ hb hbB; clear S2 hg_ hbB hb; have x0 : w3.cell? ⟨gX, 0, none⟩ = some (.int .u64 0) := (blk_cell (S3.blk 0 rfl) 0).trans rfl; have fx0 : w3.frozen? ⟨gX, 0, none⟩ = false := blk_frozen (S3.blk 0 rfl) 0; have x1 : w3.cell? ⟨gX, 1, none⟩ = some (.int .u64 0) := (blk_cell (S3.blk 0 rfl) 1).trans rfl; have fx1 : w3.frozen? ⟨gX, 1, none⟩ = false := blk_frozen (S3.blk 0 rfl) 1; have x2 : w3.cell? ⟨gX, 2, none⟩ = some (.slice none 0 0) := (blk_cell (S3.blk 0 rfl) 2).trans rfl; have fx2 : w3.frozen? ⟨gX, 2, none⟩ = false := blk_frozen (S3.blk 0 rfl) 2))
    go_ret
    have S4 := ((S3.put 0 (.int .u64 (a + xs.length)) rfl).put 1 (.int .u64 (lastT b xs)) rfl).put 2 (.slice A' bs'.length c') rfl
    exact ⟨rfl, S4.below⟩
  · have HP : Aside0 (newerF a b xs i t = false) := ⟨by unfold newerF; rw [if_neg c1, if_neg c2]⟩
    have d1 : decide (t > lastT b xs) = false := decide_eq_false c1
    have d2 : (t == lastT b xs) = false := beq_eq_false_iff_ne.mpr c2
    clear c1 c2
    rw [HP.out]
    go_enter Try.func29, Try.ntmps29
    go_wp2_with (first
      | ((with_reducible refine gate_dst (N := 3) rfl ?_); refine box_event ?hg (N := 3) ?hd (cs := #[.int .u64 a, .int .u64 b, .slice Ab bs.length cb, .slice A (pl xs).length c]) (t := 66) ?hr ?_; (case hd => rfl); (case hg => rfl); (case hr => first | (go_simp; done) | (go_simp; rfl)); intro gB hg_ w1 hbB hb; have S1 := S0.box hg_ hb hbB; clear S0 hg_ hbB hb; have z0 : w1.cell? ⟨gB, 0, none⟩ = some (.int .u64 a) := (blk_cell (S1.blk 0 rfl) 0).trans rfl; have z1 : w1.cell? ⟨gB, 1, none⟩ = some (.int .u64 b) := (blk_cell (S1.blk 0 rfl) 1).trans rfl; have z2 : w1.cell? ⟨gB, 2, none⟩ = some (.slice Ab bs.length cb) := (blk_cell (S1.blk 0 rfl) 2).trans rfl; have z3 : w1.cell? ⟨gB, 3, none⟩ = some (.slice A (pl xs).length c) := (blk_cell (S1.blk 0 rfl) 3).trans rfl)
      | (go_at_call 35; refine (HL.out _ S1.below).mono ?_; rintro e w2 ⟨A', c', bs', rfl, _, _, hb⟩; have S2 := S1.call hb; clear S1 hb z0 z1 z2 z3)
      | ((with_reducible refine gate_dst (N := 7) rfl ?_); refine box_event ?hg (N := 7) ?hd (cs := #[.int .u64 0, .int .u64 0, .slice none 0 0]) (t := 63) ?hr ?_; (case hd => rfl); (case hg => rfl); (case hr => first | (go_simp; done) | (go_simp; rfl)); intro gX hg_ w3 hbB hb; have S3 := S2.box hg_ hb hbB; clear S2 hg_ hbB hb; have x0 : w3.cell? ⟨gX, 0, none⟩ = some (.int .u64 0) := (blk_cell (S3.blk 0 rfl) 0).trans rfl; have fx0 : w3.frozen? ⟨gX, 0, none⟩ = false := blk_frozen (S3.blk 0 rfl) 0; have x1 : w3.cell? ⟨gX, 1, none⟩ = some (.int .u64 0) := (blk_cell (S3.blk 0 rfl) 1).trans rfl; have fx1 : w3.frozen? ⟨gX, 1, none⟩ = false := blk_frozen (S3.blk 0 rfl) 1; have x2 : w3.cell? ⟨gX, 2, none⟩ = some (.slice none 0 0) := (blk_cell (S3.blk 0 rfl) 2).trans rfl; have fx2 : w3.frozen? ⟨gX, 2, none⟩ = false := blk_frozen (S3.blk 0 rfl) 2))
    go_ret
    have S4 := ((S3.put 0 (.int .u64 (a + xs.length)) rfl).put 1 (.int .u64 (lastT b xs)) rfl).put 2 (.slice A' bs'.length c') rfl
    exact ⟨rfl, S4.below⟩

/-! ### jobberref38_Chain_Last: function 35 (by hand) -/
/-! Its contract stands in the text of jobber/jobberlaw38.both. -/

end Go.Proofs.Ythkhfhhbldjdlaa.Chp
