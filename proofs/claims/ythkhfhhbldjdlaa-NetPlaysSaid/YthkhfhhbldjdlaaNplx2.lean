/- Printed by this session's wip/drive.py over the translation; some functions by hand. -/
import Derived.Test.YthkhfhhbldjdlaaNplx0
import Derived.Test.YthkhfhhbldjdlaaNplx1
namespace Go.Proofs.Ythkhfhhbldjdlaa.Npl
open Go.RowKit Go.Proofs.YthkhfhhbldjdlaaW.PrintWords Go.Proofs.YthkhfhhbldjdlaaW.PrintLast Go.Proofs.YthkhfhhbldjdlaaW.PrintMore
attribute [local go_sem] max2_int min2_int max_two min_two max_three min_three max_four min_four   -- for this text's walks alone
set_option linter.unusedVariables false
set_option linter.unusedSimpArgs false

/-! ### net_Net_Send: function 13 (by hand; for other hand texts alone) -/
section
/-! ### SL: what a call's own memory holds, part by part, each with the blocks that it lies in -/
/-- From w to w' only the blocks of F have turned, and new ones have come. -/
structure Fr (F : Nat → Prop) (w w' : World) : Prop where
  os : w'.os = w.os
  tape : w'.tape = w.tape
  output : w'.output = w.output
  size : w.heap.size ≤ w'.heap.size
  block : ∀ k, k < w.heap.size → ¬ F k → w'.heap[k]? = w.heap[k]?
theorem Fr.refl (F : Nat → Prop) (w : World) : Fr F w w := ⟨rfl, rfl, rfl, Nat.le_refl _, fun _ _ _ => rfl⟩
theorem Fr.trans {F F' : Nat → Prop} {w w1 w2 : World} (h : Fr F w w1) (k : Fr F' w1 w2) (hF : ∀ i, F' i → F i ∨ w.heap.size ≤ i) : Fr F w w2 :=
  ⟨k.os.trans h.os, k.tape.trans h.tape, k.output.trans h.output, Nat.le_trans h.size k.size, fun i hi hn => (k.block i (Nat.lt_of_lt_of_le hi h.size) (fun hf => (hF i hf).elim hn (fun hh => absurd hi (Nat.not_lt.2 hh)))).trans (h.block i hi hn)⟩
theorem Fr.of_below {F : Nat → Prop} {w w' : World} (h : Below w.heap.size w w') : Fr F w w' := ⟨h.os, h.tape, h.output, h.size, fun k hk _ => h.block k hk⟩
theorem Fr.below {w w' : World} (h : Fr (fun _ => False) w w') : Below w.heap.size w w' := ⟨h.os, h.tape, h.output, h.size, fun k hk => h.block k hk (fun f => f)⟩
theorem Fr.mono {F F' : Nat → Prop} {w w' : World} (h : Fr F w w') (hF : ∀ k, F k → F' k) : Fr F' w w' := ⟨h.os, h.tape, h.output, h.size, fun k hk hn => h.block k hk (fun hf => hn (hF k hf))⟩
theorem Fr.set {F : Nat → Prop} {w w1 : World} (h : Fr F w w1) {p : Addr} (hg : F p.block ∨ w.heap.size ≤ p.block) (u : Value) : Fr F w (w1.setCell p u) :=
  ⟨h.os, h.tape, h.output, by simpa [World.setCell] using h.size, fun k hk hn => (Below.heap_setCell w1 p u k (fun e => by rcases hg with hg | hg; exact hn (e ▸ hg); omega)).trans (h.block k hk hn)⟩
/-- A part of memory: it holds of a world and of the blocks that it lies in. -/
abbrev Part := World → (Nat → Prop) → Prop
structure Loc (A : Part) : Prop where
  step : ∀ {w w' : World} {F : Nat → Prop}, A w F → w.heap.size ≤ w'.heap.size → (∀ k, F k → k < w.heap.size → w'.heap[k]? = w.heap[k]?) → A w' F
  bound : ∀ {w : World} {F : Nat → Prop}, A w F → A w (fun k => F k ∧ k < w.heap.size)
  mono : ∀ {w : World} {F F' : Nat → Prop}, A w F → (∀ k, F k → F' k) → A w F'
def Stars : List Part → (Nat → Prop) → World → Prop
  | [], _, _ => True
  | A :: l, G, w => ∃ F : Nat → Prop, (∀ k, F k → G k) ∧ Loc A ∧ A w F ∧ Stars l (fun k => G k ∧ ¬ F k) w
theorem Stars.mono : ∀ {l : List Part} {G G' : Nat → Prop} {w : World}, Stars l G w → (∀ k, G k → G' k) → Stars l G' w
  | [], _, _, _, _, _ => trivial
  | _ :: _, _, _, _, ⟨F, h1, h2, h3, h4⟩, h => ⟨F, fun k hk => h k (h1 k hk), h2, h3, Stars.mono h4 (fun k hk => ⟨h k hk.1, hk.2⟩)⟩
theorem Stars.step : ∀ {l : List Part} {G : Nat → Prop} {w w' : World}, Stars l G w → w.heap.size ≤ w'.heap.size → (∀ k, G k → k < w.heap.size → w'.heap[k]? = w.heap[k]?) → Stars l G w'
  | [], _, _, _, _, _, _ => trivial
  | _ :: _, _, _, _, ⟨F, h1, h2, h3, h4⟩, hs, h => ⟨F, h1, h2, h2.step h3 hs (fun k hk hl => h k (h1 k hk) hl), Stars.step h4 hs (fun k hk hl => h k hk.1 hl)⟩
theorem Stars.bound : ∀ {l : List Part} {G : Nat → Prop} {w : World}, Stars l G w → Stars l (fun k => G k ∧ k < w.heap.size) w
  | [], _, _, _ => trivial
  | _ :: _, _, _, ⟨F, h1, h2, h3, h4⟩ => ⟨fun k => F k ∧ k < _, fun k hk => ⟨h1 k hk.1, hk.2⟩, h2, h2.bound h3, Stars.mono (Stars.bound h4) (fun k hk => ⟨⟨hk.1.1, hk.2⟩, fun hf => hk.1.2 hf.1⟩)⟩
theorem Stars.swap {A B : Part} {l : List Part} {G : Nat → Prop} {w : World} : Stars (A :: B :: l) G w → Stars (B :: A :: l) G w := by
  rintro ⟨F, h1, h2, h3, F', k1, k2, k3, k4⟩
  exact ⟨F', fun k hk => (k1 k hk).1, k2, k3, F, fun k hk => ⟨h1 k hk, fun hf => (k1 k hf).2 hk⟩, h2, h3, k4.mono (fun k hk => ⟨⟨hk.1.1, hk.2⟩, hk.1.2⟩)⟩
theorem Stars.front : ∀ (i : Nat) {l : List Part} {A : Part} {G : Nat → Prop} {w : World}, Stars l G w → l[i]? = some A → Stars (A :: l.eraseIdx i) G w
  | 0, _ :: _, _, _, _, h, e => by cases e; exact h
  | i + 1, B :: l, A, G, w, ⟨F, h1, h2, h3, h4⟩, e => by
    have := Stars.front i h4 (by simpa using e)
    exact Stars.swap ⟨F, h1, h2, h3, this⟩
theorem Stars.loc : ∀ {l : List Part}, Loc (fun w F => Stars l F w)
  | [] => ⟨fun _ _ _ => trivial, fun _ => trivial, fun _ _ => trivial⟩
  | _ :: _ => ⟨fun h hs hh => Stars.step h hs hh, fun h => Stars.bound h, fun h hh => Stars.mono h hh⟩
/-- Behind W, in a call that may turn the blocks of F0: the parts of l, apart from one another. -/
structure St (W : World) (F0 : Nat → Prop) (w : World) (l : List Part) : Prop where
  fr : Fr F0 W w
  st : Stars l (fun k => F0 k ∨ W.heap.size ≤ k) w
section
variable {W w w' : World} {F0 : Nat → Prop} {l : List Part} {A B : Part}
theorem St.start (W : World) (F0 : Nat → Prop) : St W F0 W [] := ⟨Fr.refl _ _, trivial⟩
theorem St.start1 (hl : Loc A) (h : A W F0) : St W F0 W [A] := ⟨Fr.refl _ _, F0, fun _ hk => .inl hk, hl, h, trivial⟩
theorem St.call (h : St W F0 w l) (hb : Below w.heap.size w w') : St W F0 w' l := ⟨h.fr.trans (Fr.of_below (F := fun _ => False) hb) (fun _ hk => hk.elim), h.st.step hb.size (fun k _ hl => hb.block k hl)⟩
theorem St.drew (h : St W F0 w l) (n : Nat) : St W F0 (w.drewN n) l := h.call (pw_below_drewN (Below.refl _ _) n)
theorem St.drew1 (h : St W F0 w l) : St W F0 w.drew l := h.call (below_drew (Below.refl _ _))
/-- A call that makes memory of its own. -/
theorem St.new (h : St W F0 w l) (hb : Below w.heap.size w w') (hl : Loc A) (ha : A w' (fun k => w.heap.size ≤ k)) : St W F0 w' (A :: l) := by
  have h' := h.call hb
  refine ⟨h'.fr, fun k => w.heap.size ≤ k, fun k hk => .inr (Nat.le_trans h.fr.size hk), hl, ha, ?_⟩
  have hs := h.st.bound.step hb.size (fun k hk hl => hb.block k hl)
  exact hs.mono (fun k hk => ⟨hk.1, by omega⟩)
theorem St.front (h : St W F0 w l) (i : Nat) (e : l[i]? = some A) : St W F0 w (A :: l.eraseIdx i) := ⟨h.fr, h.st.front i e⟩
theorem St.perm2 (h : St W F0 w (A :: B :: l)) : St W F0 w (B :: A :: l) := ⟨h.fr, h.st.swap⟩
theorem St.drop (h : St W F0 w (A :: l)) : St W F0 w l := by
  obtain ⟨h0, F, h1, h2, h3, h4⟩ := h
  exact ⟨h0, h4.mono (fun k hk => hk.1)⟩
theorem St.imp {A' : Part} (h : St W F0 w (A :: l)) (hl : Loc A') (hi : ∀ F, A w F → A' w F) : St W F0 w (A' :: l) := by
  obtain ⟨h0, F, h1, h2, h3, h4⟩ := h
  exact ⟨h0, F, h1, hl, hi F h3, h4⟩
theorem St.get (h : St W F0 w l) (i : Nat) (e : l[i]? = some A) : ∃ F, A w F := by
  obtain ⟨h0, F, h1, h2, h3, h4⟩ := h.front i e
  exact ⟨F, h3⟩
/-- The first part is turned, by a call that turns nothing else. -/
theorem St.upd (h : St W F0 w (A :: l)) : ∃ F, A w F ∧ (∀ k, F k → k < w.heap.size ∧ (F0 k ∨ W.heap.size ≤ k)) ∧ ∀ (w' : World) (A' : Part) (F' : Nat → Prop), Fr F w w' → (∀ k, F' k → F k ∨ w.heap.size ≤ k) → Loc A' → A' w' F' → St W F0 w' (A' :: l) := by
  obtain ⟨h0, hst⟩ := h
  obtain ⟨F, h1, h2, h3, h4⟩ := hst.bound
  refine ⟨F, h3, fun k hk => ⟨(h1 k hk).2, (h1 k hk).1⟩, fun w' A' F' hf hF' hl ha => ?_⟩
  refine ⟨h0.trans hf (fun k hk => (h1 k hk).1), F', fun k hk => ?_, hl, ha, ?_⟩
  · rcases hF' k hk with h | h
    · exact (h1 k h).1
    · exact .inr (Nat.le_trans h0.size h)
  · exact (h4.step hf.size (fun k hk hl => hf.block k hl hk.2)).mono (fun k hk => ⟨hk.1.1, fun hh => by rcases hF' k hh with h | h; exact hk.2 h; have := hk.1.2; omega⟩)
theorem St.end_ (h : St W F0 w (A :: l)) : Fr F0 W w ∧ ∃ F', (∀ k, F' k → F0 k ∨ W.heap.size ≤ k) ∧ A w F' := by
  obtain ⟨h0, F, h1, h2, h3, h4⟩ := h
  exact ⟨h0, F, h1, h3⟩
theorem St.below (h : St W (fun _ => False) w l) : Below W.heap.size W w := h.fr.below
/-- Two parts as one. -/
theorem St.merge (h : St W F0 w (A :: B :: l)) : St W F0 w ((fun w F => Stars [A, B] F w) :: l) := by
  obtain ⟨h0, F, h1, h2, h3, F', k1, k2, k3, k4⟩ := h
  exact ⟨h0, fun k => F k ∨ F' k, fun k hk => hk.elim (h1 k) (fun h => (k1 k h).1), Stars.loc, ⟨F, fun k hk => .inl hk, h2, h3, F', fun k hk => ⟨.inr hk, (k1 k hk).2⟩, k2, k3, trivial⟩, k4.mono (fun k hk => ⟨hk.1.1, fun hh => hh.elim hk.1.2 hk.2⟩)⟩
theorem St.split (h : St W F0 w ((fun w F => Stars [A, B] F w) :: l)) : St W F0 w (A :: B :: l) := by
  obtain ⟨h0, G, h1, h2, ⟨F, k1, k2, k3, F', j1, j2, j3, _⟩, h4⟩ := h
  exact ⟨h0, F, fun k hk => h1 k (k1 k hk), k2, k3, F', fun k hk => ⟨h1 k (j1 k hk).1, (j1 k hk).2⟩, j2, j3, h4.mono (fun k hk => ⟨⟨hk.1, fun hf => hk.2 (k1 k hf)⟩, fun hf => hk.2 (j1 k hf).1⟩)⟩
end
/-- One block of cells. -/
def Pt (g : Nat) (cs : Array Value) (t : TypeId) : Part := fun w F => F g ∧ w.heap[g]? = some (.cells cs t (0, 0))
theorem Pt.loc {g : Nat} {cs : Array Value} {t : TypeId} : Loc (Pt g cs t) :=
  ⟨fun h _ hh => ⟨h.1, (hh g h.1 (blk_lt h.2)).trans h.2⟩, fun h => ⟨⟨h.1, blk_lt h.2⟩, h.2⟩, fun h hh => ⟨hh g h.1, h.2⟩⟩
/-- A row of elements of the call's own. -/
def Rw {α : Type} (d : Kd α) (e : Nat) (v : Value) (xs : List α) : Part := fun w F => d.R e w 0 F v xs
theorem Rw.loc {α : Type} {d : Kd α} {e : Nat} {v : Value} {xs : List α} : Loc (Rw d e v xs) :=
  ⟨fun h _ hh => Kd.R_step h hh, fun h => Kd.R_mono (Kd.R_bound h) (fun _ hk => ⟨hk.1, hk.2.2.1⟩), fun h hh => Kd.R_mono h hh⟩
/-- Whatever holds as long as the blocks of F stay. -/
def Sem (P : World → Prop) : Part := fun w F => ∀ w' : World, w.heap.size ≤ w'.heap.size → (∀ k, F k → k < w.heap.size → w'.heap[k]? = w.heap[k]?) → P w'
theorem Sem.loc {P : World → Prop} : Loc (Sem P) :=
  ⟨fun h hs hh w' hs' h' => h w' (Nat.le_trans hs hs') (fun k hk hl => (h' k hk (Nat.lt_of_lt_of_le hl hs)).trans (hh k hk hl)), fun h w' hs h' => h w' hs (fun k hk hl => h' k ⟨hk, hl⟩ hl), fun h hh w' hs h' => h w' hs (fun k hk hl => h' k (hh k hk) hl)⟩
theorem Sem.now {P : World → Prop} {w : World} {F : Nat → Prop} (h : Sem P w F) : P w := h w (Nat.le_refl _) (fun _ _ _ => rfl)
section
variable {W w w' : World} {F0 : Nat → Prop} {l : List Part} {g g' : Nat} {cs cs' : Array Value} {t t' : TypeId}
theorem St.box (h : St W F0 w l) (e : g = w.heap.size) (hb : Below w.heap.size w w') (hg : w'.heap[g]? = some (.cells cs t (0, 0))) : St W F0 w' (Pt g cs t :: l) := h.new hb Pt.loc ⟨Nat.le_of_eq e.symm, hg⟩
theorem St.row {α : Type} {d : Kd α} {e : Nat} {v : Value} {xs : List α} {ok : Nat → Prop} (h : St W F0 w l) (hb : Below w.heap.size w w') (hr : d.R e w' w.heap.size ok v xs) : St W F0 w' (Rw d e v xs :: l) := h.new hb Rw.loc (Kd.R_lower (Kd.R_mono (Kd.R_bound hr) (fun _ hk => hk.2.1)) (Nat.zero_le _))
theorem St.put (h : St W F0 w (Pt g cs t :: l)) (i : Nat) (u : Value) (e : cs.setIfInBounds i u = cs') : St W F0 (w.setCell ⟨g, i, none⟩ u) (Pt g cs' t :: l) := by
  obtain ⟨F, hA, hF, hu⟩ := h.upd
  refine hu _ _ F (Fr.set (Fr.refl _ _) (.inl hA.1) u) (fun k hk => .inl hk) Pt.loc ⟨hA.1, blk_put hA.2 i u e⟩
theorem St.blk (h : St W F0 w l) (i : Nat) (e : l[i]? = some (Pt g cs t)) : w.heap[g]? = some (.cells cs t (0, 0)) := by
  obtain ⟨F, h1⟩ := h.get i e
  exact h1.2
theorem St.rd {α : Type} {d : Kd α} {q : Nat} {v : Value} {xs : List α} (h : St W F0 w l) (i : Nat) (e : l[i]? = some (Rw d q v xs)) : ∃ ok, d.R q w 0 ok v xs := h.get i e
theorem St.ne (h : St W F0 w l) (i j : Nat) (hi : l[i]? = some (Pt g cs t)) (hj : l[j]? = some (Pt g' cs' t')) (hij : i ≠ j) : g ≠ g' := by
  obtain ⟨h0, F, h1, h2, h3, h4⟩ := h.front i hi
  have hj' : (l.eraseIdx i)[if j < i then j else j - 1]? = some (Pt g' cs' t') := by
    rw [List.getElem?_eraseIdx]
    by_cases c : j < i
    · rw [if_pos c, if_pos c]; exact hj
    · rw [if_neg c, if_neg (by omega), show j - 1 + 1 = j by omega]; exact hj
  obtain ⟨F', k1, k2, k3, k4⟩ := h4.front _ hj'
  rintro rfl
  exact (k1 g k3.1).2 h3.1
end
theorem Calls.named {P : Program} {f : FuncId} {args : Array Value} {w : World} {R : Ending → World → Prop} (h : ∀ w', w' = w → Calls P f args w' R) : Calls P f args w R := h _ rfl
theorem wl_named {P : Program} {ops : Array Oper} {Q : Exit → Act → World → Prop} {l : List Oper} {a : Act} {w : World} (h : ∀ w', w' = w → wpList P ops Q l a w') : wpList P ops Q l a w := h _ rfl
theorem wp_named {P : Program} {c : Code} {Q : Exit → Act → World → Prop} {a : Act} {w : World} (h : ∀ w', w' = w → c.wp P Q a w') : c.wp P Q a w := h _ rfl
theorem St.alloc {W w : World} {F0 : Nat → Prop} {l : List Part} {cs : Array Value} {t : TypeId} (h : St W F0 w l) : St W F0 (w.alloc (.cells cs t)) (Pt w.heap.size cs t :: l) := h.box rfl (below_alloc (Below.refl _ _) _) (blk_new w _)
theorem Stars.append : ∀ {l l' : List Part} {G G' : Nat → Prop} {w : World}, Stars l G w → Stars l' G' w → (∀ k, G k → ¬ G' k) → Stars (l ++ l') (fun k => G k ∨ G' k) w
  | [], _, _, _, _, _, h', _ => h'.mono (fun _ hk => .inr hk)
  | _ :: _, _, _, _, _, ⟨F, h1, h2, h3, h4⟩, h', hd => ⟨F, fun k hk => .inl (h1 k hk), h2, h3, (Stars.append h4 h' (fun k hk => hd k hk.1)).mono (fun k hk => hk.elim (fun h => ⟨.inl h.1, h.2⟩) (fun h => ⟨.inr h, fun hf => hd k (h1 k hf) h⟩))⟩
theorem Stars.take : ∀ (n : Nat) {l : List Part} {G : Nat → Prop} {w : World}, Stars l G w → Stars (l.take n) G w
  | 0, _, _, _, _ => trivial
  | _ + 1, [], _, _, _ => trivial
  | n + 1, _ :: _, _, _, ⟨F, h1, h2, h3, h4⟩ => ⟨F, h1, h2, h3, Stars.take n h4⟩
section
variable {W w w' : World} {F0 : Nat → Prop} {l l' : List Part} {A B : Part}
theorem St.take (h : St W F0 w l) (n : Nat) : St W F0 w (l.take n) := ⟨h.fr, h.st.take n⟩
/-- Behind a call that makes the parts of l', and turns nothing. -/
theorem St.join0 (h : St W F0 w l) (k : St w (fun _ => False) w' l') : St W F0 w' (l' ++ l) := by
  have hb := k.below
  refine ⟨(h.call hb).fr, ?_⟩
  have h1 := k.st.mono (G' := fun i => w.heap.size ≤ i) (fun i hi => hi.elim (fun f => f.elim) (fun x => x))
  have h2 := h.st.bound.step hb.size (fun i _ hl => hb.block i hl)
  exact (Stars.append h1 h2 (fun i hi hi' => by have := hi'.2; omega)).mono (fun i hi => hi.elim (fun h3 => .inr (Nat.le_trans h.fr.size h3)) (fun h3 => h3.1))
/-- Behind a call that turns the first part alone. -/
theorem St.join (h : St W F0 w (A :: l)) : ∃ F, A w F ∧ (∀ k, F k → k < w.heap.size) ∧ ∀ (w' : World) (l' : List Part), St w F w' l' → St W F0 w' (l' ++ l) := by
  obtain ⟨h0, hst⟩ := h
  obtain ⟨F, h1, h2, h3, h4⟩ := hst.bound
  refine ⟨F, h3, fun k hk => (h1 k hk).2, fun w' l' k => ?_⟩
  refine ⟨h0.trans k.fr (fun i hi => (h1 i hi).1), ?_⟩
  have h5 := h4.step k.fr.size (fun i hi hl => k.fr.block i hl hi.2)
  exact (Stars.append k.st h5 (fun i hi hi' => hi.elim hi'.2 (fun hh => by have := hi'.1.2; omega))).mono (fun i hi => hi.elim (fun hh => hh.elim (fun hf => (h1 i hf).1) (fun hs => .inr (Nat.le_trans h0.size hs))) (fun hh => hh.1.1))
theorem St.mono0 (h : St W F0 w l) {F1 : Nat → Prop} (hF : ∀ k, F0 k → F1 k) : St W F1 w l := ⟨h.fr.mono hF, h.st.mono (fun k hk => hk.imp (hF k) (fun x => x))⟩
end
/-- A row that is read, wherever it lies. -/
def Vw {α : Type} (d : Kd α) (A : Option Addr) (n : Nat) (xs : List α) : Part := fun w F => Kd.F d w F A n xs
theorem Vw.loc {α : Type} {d : Kd α} {A : Option Addr} {n : Nat} {xs : List α} : Loc (Vw d A n xs) := ⟨fun h _ hh => Kd.F_step h hh, fun h => Kd.F_bound h, fun h hh => Kd.F_mono h hh⟩
theorem St.vw {W w : World} {F0 : Nat → Prop} {l : List Part} {α : Type} {d : Kd α} {A : Option Addr} {n : Nat} {xs : List α} (h : St W F0 w l) (i : Nat) (e : l[i]? = some (Vw d A n xs)) : d.C w A n xs := by
  obtain ⟨F, h1⟩ := h.get i e
  exact Kd.F_now h1
theorem results_tct {P : Program} {fn : Func} {p u v : Tmp} {ty : TypeId} (h : fn.results = #[.tmp u, .cell p ty, .tmp v]) (tmps : Array Value) (w : World) (g : Nat) (t : TypeId) (cs : Array Value) (fr : Nat × Nat) (d : TypeDesc)
    (hp : tmps.getD p undef = .pointer (some ⟨g, 0, none⟩)) (hg : w.heap[g]? = some (.cells cs t fr))
    (hu : P.underlying ty = some d) (hd : (match d with | .struct _ | .array _ _ => true | _ => false) = true) (hi : (P.info? ty).map (·.size) = some cs.size) :
    (results fn tmps).run P w = .ok (.tuple #[tmps.getD u undef, .agg cs, tmps.getD v undef]) w := by
  have hp' : tmps[p]?.getD undef = .pointer (some ⟨g, 0, none⟩) := by simpa using hp
  simp [results, h, hp', asAddr, run_loadVar_row w g t ty cs fr d hg hu hd hi]
/-- A call that reads a row of the call's own, and hands back what shares memory with it. -/
theorem St.shared {W w : World} {F0 : Nat → Prop} {l : List Part} {α : Type} {d : Kd α} {e : Nat} {v : Value} {xs : List α} (h : St W F0 w (Rw d e v xs :: l)) : ∃ ok, d.R e w 0 ok v xs ∧ ∀ (w' : World) (B : Part), Below w.heap.size w w' → Loc B → B w' (fun k => ok k ∨ w.heap.size ≤ k) → St W F0 w' (B :: l) := by
  obtain ⟨F, hA, _, hu⟩ := h.upd
  exact ⟨F, hA, fun w' B hb hl hB => hu w' B _ (Fr.of_below hb) (fun k hk => hk) hl hB⟩
theorem St.sharedV {W w : World} {F0 : Nat → Prop} {l : List Part} {α : Type} {d : Kd α} {A : Option Addr} {n : Nat} {xs : List α} (h : St W F0 w (Vw d A n xs :: l)) : ∃ ok, d.F w ok A n xs ∧ ∀ (w' : World) (B : Part), Below w.heap.size w w' → Loc B → B w' (fun k => ok k ∨ w.heap.size ≤ k) → St W F0 w' (B :: l) := by
  obtain ⟨F, hA, _, hu⟩ := h.upd
  exact ⟨F, hA, fun w' B hb hl hB => hu w' B _ (Fr.of_below hb) (fun k hk => hk) hl hB⟩
/-- A row of the call's own, whose elements may share what they lead to. -/
def Nw {α : Type} (d : Kd α) (e : Nat) (v : Value) (xs : List α) : Part := fun w F => Kd.N d e w 0 F v xs
theorem Nw.loc {α : Type} {d : Kd α} {e : Nat} {v : Value} {xs : List α} : Loc (Nw d e v xs) := ⟨fun h _ hh => Kd.N_step h hh, fun h => Kd.N_bound h, fun h hh => Kd.N_mono h hh⟩
theorem Fr.of_grown {F : Nat → Prop} {w w' : World} {row : Option Nat} (h : w.grownBy w' row) (hr : ∀ k, row = some k → F k) : Fr F w w' := ⟨h.os, h.tape, h.output, h.size, fun k hk hn => h.block k hk (fun e => hn (hr k e.symm))⟩
section
variable {W w : World} {F0 : Nat → Prop} {l : List Part} {α : Type} {d : Kd α} {e n : Nat} {v : Value} {A : Option Addr} {xs ys : List α}
theorem St.rw_nw (h : St W F0 w (Rw d e v xs :: l)) : St W F0 w (Nw d e v xs :: l) := h.imp Nw.loc (fun _ hh => Kd.R_N hh)
theorem St.nw_vw {c : Nat} (h : St W F0 w (Nw d e (.slice A n c) xs :: l)) : St W F0 w (Vw d A n xs :: l) := h.imp Vw.loc (fun _ hh => Kd.N_F hh)
theorem St.rw_vw {c : Nat} (h : St W F0 w (Rw d e (.slice A n c) xs :: l)) : St W F0 w (Vw d A n xs :: l) := h.imp Vw.loc (fun _ hh => Kd.N_F (Kd.R_N hh))
theorem St.nrd (h : St W F0 w l) (i : Nat) {c : Nat} (q : l[i]? = some (Nw d e (.slice A n c) xs)) : n = xs.length ∧ n ≤ c ∧ d.C w A xs.length xs := by
  obtain ⟨F, h1⟩ := h.get i q
  exact Kd.N_reads' h1
/-- append(v, ys...): what the law for rows asks, and what it leaves. -/
theorem St.append_rows (h : St W F0 w (Nw d e v xs :: Vw d A n ys :: l)) : ∃ ok okp : Nat → Prop, Kd.N d e w 0 ok v xs ∧ Kd.F d w okp A n ys ∧ (∀ k, okp k → ok k ∧ some k ≠ v.ownBlock) ∧ (∀ k, w.heap.size ≤ k → ok k) ∧
    ∀ v1 w1, Kd.N d e w1 0 ok v1 (xs ++ ys) → w.grownBy w1 v.ownBlock → St W F0 w1 (Nw d e v1 (xs ++ ys) :: l) := by
  obtain ⟨h0, hst⟩ := h
  obtain ⟨F1, a1, _, a3, F2, b1, _, b3, hl⟩ := hst.bound
  refine ⟨fun k => F1 k ∨ F2 k ∨ w.heap.size ≤ k, F2, Kd.N_mono a3 (fun k hk => .inl hk), b3, fun k hk => ⟨.inr (.inl hk), fun q => (b1 k hk).2 (a3.1 k q.symm)⟩, fun k hk => .inr (.inr hk), fun v1 w1 hN hg => ?_⟩
  have hf : Fr F1 w w1 := Fr.of_grown hg (fun k hk => a3.1 k hk)
  refine ⟨h0.trans hf (fun k hk => (a1 k hk).1), _, fun k hk => ?_, Nw.loc, hN, ?_⟩
  · rcases hk with hk | hk | hk
    · exact (a1 k hk).1
    · exact (b1 k hk).1.1
    · exact .inr (Nat.le_trans h0.size hk)
  · exact (hl.step hf.size (fun k hk hlt => hf.block k hlt hk.1.2)).mono (fun k hk => ⟨hk.1.1.1, fun q => q.elim hk.1.2 (fun q => q.elim hk.2 (fun q => by have := hk.1.1.2; omega))⟩)
/-- append(v, p) of one element whose cells lie in a block just made (it is the first part). -/
theorem St.append_one (h : St W F0 w (Nw d e v xs :: l)) {p : α} {cs : List Value} {okq : Nat → Prop} (hp : Kd.FK d w okq p cs) (hq : ∀ k, ¬ okq k) : ∃ ok okp : Nat → Prop, Kd.N d e w 0 ok v xs ∧ Kd.FK d w okp p cs ∧ (∀ k, okp k → ok k ∧ some k ≠ v.ownBlock) ∧ (∀ k, w.heap.size ≤ k → ok k) ∧
    ∀ v1 w1, Kd.N d e w1 0 ok v1 (xs ++ [p]) → w.grownBy w1 v.ownBlock → St W F0 w1 (Nw d e v1 (xs ++ [p]) :: l) := by
  obtain ⟨h0, hst⟩ := h
  obtain ⟨F1, a1, _, a3, hl⟩ := hst.bound
  refine ⟨fun k => F1 k ∨ w.heap.size ≤ k, okq, Kd.N_mono a3 (fun k hk => .inl hk), hp, fun k hk => (hq k hk).elim, fun k hk => .inr hk, fun v1 w1 hN hg => ?_⟩
  have hf : Fr F1 w w1 := Fr.of_grown hg (fun k hk => a3.1 k hk)
  refine ⟨h0.trans hf (fun k hk => (a1 k hk).1), _, fun k hk => ?_, Nw.loc, hN, ?_⟩
  · rcases hk with hk | hk
    · exact (a1 k hk).1
    · exact .inr (Nat.le_trans h0.size hk)
  · exact (hl.step hf.size (fun k hk hlt => hf.block k hlt hk.2)).mono (fun k hk => ⟨hk.1.1, fun q => q.elim hk.2 (fun q => by have := hk.1.2; omega)⟩)
end
section
variable {P : Program}
theorem cut_h' (t e : TypeId) (k : IntKind) (z : Nat) (ht : P.underlying t = some (.slice e)) (hs : (P.info? e).map (·.size) = some z) (A : Option Addr) (n c : Nat) (h : Int) (h0 : 0 ≤ h) (hc : h ≤ c) (W : World) :
    (Instr.slice t (.slice A n c) none (some (.int k h)) none).run P W = .ok (.slice A h.toNat c) W := by
  cases hq : P.info? e with
  | none => simp [hq] at hs
  | some i =>
    have hi : i.size = z := by simpa [hq] using hs
    have hel : P.elem t = e := by simp [Program.elem, ht]
    have hu : P.underlying t = some (.slice (P.elem t)) := by rw [hel]; exact ht
    have ha : (A.map fun x => x.add 0) = A := by cases A <;> simp [Addr.add]
    rw [run_slice_h W t A n c hu k h h0 hc, hel]
    simp [sizeOf, typeInfo, hq, hi, sliced, Result.andThen, ha]
theorem cut_l' (t e : TypeId) (k : IntKind) (z : Nat) (ht : P.underlying t = some (.slice e)) (hs : (P.info? e).map (·.size) = some z) (A : Option Addr) (n c : Nat) (l : Int) (h0 : 0 ≤ l) (hc : l ≤ n) (W : World) :
    (Instr.slice t (.slice A n c) (some (.int k l)) none none).run P W = .ok (.slice (if c = l.toNat then A else A.map (·.add (l.toNat * z))) (n - l.toNat) (c - l.toNat)) W := by
  cases hq : P.info? e with
  | none => simp [hq] at hs
  | some i =>
    have hi : i.size = z := by simpa [hq] using hs
    have hel : P.elem t = e := by simp [Program.elem, ht]
    have hu : P.underlying t = some (.slice (P.elem t)) := by rw [hel]; exact ht
    rw [run_slice_l W t A n c hu k l h0 hc, hel]
    simp [sizeOf, typeInfo, hq, hi, sliced, Result.andThen]
end
theorem Stars.get {l : List Part} {G : Nat → Prop} {w : World} {A : Part} (h : Stars l G w) (i : Nat) (e : l[i]? = some A) : ∃ F, A w F := by
  obtain ⟨F, _, _, h3, _⟩ := h.front i e
  exact ⟨F, h3⟩
theorem Stars.rd {α : Type} {d : Kd α} {q : Nat} {v : Value} {xs : List α} {l : List Part} {G : Nat → Prop} {w : World} (h : Stars l G w) (i : Nat) (e : l[i]? = some (Rw d q v xs)) : ∃ ok, d.R q w 0 ok v xs := h.get i e
/-- Behind a call that turns the first part alone: the others stay readable wherever only that part turns. -/
theorem St.joinR {W w : World} {F0 : Nat → Prop} {l : List Part} {A : Part} (h : St W F0 w (A :: l)) : ∃ F, A w F ∧ (∀ k, F k → k < w.heap.size) ∧ (∀ w', Fr F w w' → ∃ G, Stars l G w') ∧ ∀ (w' : World) (l' : List Part), St w F w' l' → St W F0 w' (l' ++ l) := by
  obtain ⟨h0, hst⟩ := h
  obtain ⟨F, h1, h2, h3, h4⟩ := hst.bound
  refine ⟨F, h3, fun k hk => (h1 k hk).2, fun w' hf => ⟨_, h4.step hf.size (fun i hi hl => hf.block i hl hi.2)⟩, fun w' l' k => ?_⟩
  refine ⟨h0.trans k.fr (fun i hi => (h1 i hi).1), ?_⟩
  have h5 := h4.step k.fr.size (fun i hi hl => k.fr.block i hl hi.2)
  exact (Stars.append k.st h5 (fun i hi hi' => hi.elim hi'.2 (fun hh => by have := hi'.1.2; omega))).mono (fun i hi => hi.elim (fun hh => hh.elim (fun hf => (h1 i hf).1) (fun hs => .inr (Nat.le_trans h0.size hs))) (fun hh => hh.1.1))
theorem St.old_ne {W w : World} {l : List Part} {g k : Nat} {cs : Array Value} {t : TypeId} (h : St W (fun _ => False) w l) (i : Nat) (e : l[i]? = some (Pt g cs t)) (hk : k < W.heap.size) : k ≠ g := by
  obtain ⟨_, F, h1, _, h3, _⟩ := h.front i e
  rintro rfl
  exact (h1 _ h3.1).elim (fun f => f) (fun hh => by omega)
end
section
/-! ### VM: a map of the call's own, from keys (of any kind that the kit knows) to values as they are -/
section
open Go.Maps Go.MapKept Go.ChangeMaps
open Go.WideElems (Fit entry_then_store)
open Go.WideMaps (KeyLaw)
def Rv (v : Value) : Option (DataW Value × List MemPlace) := some (.held v, [])
def VM (P : Program) (kt : TypeId) (w : World) (m N : Nat) (z : Value) (f : Lit → Value) : Prop :=
  ∃ n D, n ≤ N ∧ World.ownsMap w P kt Rv m n D ∧ ∀ l, D.atKey l (.held z) = .held (f l)
open Classical in
noncomputable def updL {α : Type} (f : Lit → α) (k : Lit) (v : α) : Lit → α := fun l => if l = k then v else f l
theorem updL_same {α : Type} (f : Lit → α) (k : Lit) (v : α) : updL f k v k = v := if_pos rfl
theorem updL_ne {α : Type} (f : Lit → α) {k l : Lit} (v : α) (h : l ≠ k) : updL f k v l = f l := if_neg h
variable {P : Program} {kt e t : TypeId} {w w' : World} {m N : Nat} {z : Value} {f : Lit → Value}
theorem VM.made (P : Program) (kt : TypeId) (w : World) (z : Value) : VM P kt (w.alloc (.map #[] 0)) w.heap.size 0 z (fun _ => z) :=
  ⟨0, _, Nat.le_refl _, World.ownsMap_made w P kt Rv, fun _ => rfl⟩
theorem VM.lt (h : VM P kt w m N z f) : m < w.heap.size := by
  obtain ⟨n, D, _, h, _⟩ := h
  exact World.ownsMap.lt h
theorem VM.obj (h : VM P kt w m N z f) : ∃ es c, w.heap[m]? = some (.map es c) := by
  obtain ⟨n, D, _, ⟨es, c, hb, _⟩, _⟩ := h
  exact ⟨es, c, hb⟩
theorem VM.same (h : VM P kt w m N z f) (hb : w'.heap[m]? = w.heap[m]?) : VM P kt w' m N z f := by
  obtain ⟨n, D, hn, ⟨es, c, hm, F, hs, hD⟩, hf⟩ := h
  exact ⟨n, D, hn, ⟨es, c, hb.trans hm, F, hs, hD⟩, hf⟩
theorem VM.mono (h : VM P kt w m N z f) {N' : Nat} (hN : N ≤ N') : VM P kt w m N' z f := by
  obtain ⟨n, D, hn, h, hf⟩ := h
  exact ⟨n, D, Nat.le_trans hn hN, h, hf⟩
theorem VM.look (h : VM P kt w m N z f) (K : Keyed P kt) (ht : P.underlying t = some (.map kt e)) (hz : ∀ u : World, (zeroValue e).run P u = .ok z u) {key : Value} {kl : Lit} (hkey : keyOf P kt key = some kl) :
    (Instr.lookup t (.map (some m)) key false).run P w = .ok (f kl) w := by
  obtain ⟨n, D, _, h, hf⟩ := h
  obtain ⟨v, ps, hrun, hv⟩ := World.ownsMap.lookup h K ht (hz w) (zd := .held z) (zp := []) rfl hkey
  rw [hf kl] at hv
  have : v = f kl := (by simpa [Rv] using hv : v = f kl ∧ _).1
  rw [hrun, this]
theorem atKey_put {D : DataW Value} (hD : IsMap D) {k : Lit} (hk : WideAt.IsKeyLit k) (v : Value) (hf : ∀ l, D.atKey l (.held z) = .held (f l)) (l : Lit) : (D.put k (.held v)).atKey l (.held z) = .held (updL f k v l) := by
  unfold updL
  by_cases c : l = k
  · subst c
    rw [if_pos rfl, atKey_put_same hD hk]
  · rw [if_neg c, atKey_put_other c, hf]
theorem VM.put (h : VM P kt w m N z f) (K : Keyed P kt) (ht : P.underlying t = some (.map kt e)) (hN : N < maxLen) {key : Value} {kl : Lit} (hkey : keyOf P kt key = some kl) (v : Value) :
    ∃ w', (Instr.mapUpdate t (.map (some m)) key v).run P w = .ok () w' ∧ VM P kt w' m (N + 1) z (updL f kl v) ∧ w.grownBy w' (some m) := by
  obtain ⟨n, D, hn, h, hf⟩ := h
  obtain ⟨w', hrun, h', hg⟩ := World.ownsMap.update h K ht (Nat.lt_of_le_of_lt hn hN) hkey (val := v) (d := .held v) (ps := []) rfl
  exact ⟨w', hrun, ⟨n + 1, _, by omega, h', atKey_put (World.ownsMap.isMap h) (K.key hkey) v hf⟩, hg⟩
theorem VM.del (h : VM P kt w m N z f) (K : Keyed P kt) (ht : P.underlying t = some (.map kt e)) {key : Value} {kl : Lit} (hkey : keyOf P kt key = some kl) (ty : TypeId) :
    ∃ w', (Builtin.delete_ #[t, kt] ty #[.map (some m), key]).run P w = .ok (.tuple #[]) w' ∧ VM P kt w' m N z (updL f kl z) ∧ w.grownBy w' (some m) := by
  obtain ⟨n, D, hn, h, hf⟩ := h
  obtain ⟨w', hrun, h', hg⟩ := World.ownsMap.drop h K ht hkey ty
  refine ⟨w', hrun, ⟨n, _, hn, h', fun l => ?_⟩, World.mapTurned.grown hg⟩
  unfold updL
  by_cases c : l = kl
  · subst c
    rw [if_pos rfl, atKey_del_same]
  · rw [if_neg c, atKey_del_other c, hf]
theorem keyOf_same_entry {R : Value → Option (DataW Value × List MemPlace)} {es : Array MapEntry} {c : Nat} (K : Keyed P kt) (F : Fit P kt R es c) {x y : MapEntry} (hx : x ∈ es.toList) (hy : y ∈ es.toList) (h : x.key = y.key) : x = y := by
  obtain ⟨i, hi, rfl⟩ := List.getElem_of_mem hx
  obtain ⟨j, hj, rfl⟩ := List.getElem_of_mem hy
  have hp : es.toList.Pairwise (fun x y => x.key ≠ y.key) := ((stamped_iff es c).1 F.stamped).2.2
  rcases Nat.lt_trichotomy i j with q | q | q
  · exact absurd h (List.pairwise_iff_getElem.1 hp i j hi hj q)
  · subst q; rfl
  · exact absurd h.symm (List.pairwise_iff_getElem.1 hp j i hj hi q)
theorem VM.entry (h : VM P kt w m N z f) (L : KeyLaw P kt) (ht : P.underlying t = some (.map kt e)) (hN : N < maxLen) (hz : ∀ u : World, (zeroValue e).run P u = .ok z u) {key : Value} {kl : Lit} (hkey : keyOf P kt key = some kl) :
    ∃ (st : Nat) (w1 : World), (Instr.mapEntry t (.map (some m)) key).run P w = .ok (.tuple #[f kl, goInt st]) w1 ∧ w.grownBy w1 (some m) ∧ ∀ (w2 : World) (val : Value), w2.heap[m]? = w1.heap[m]? →
      ∃ w3, (Instr.entryStore t (.map (some m)) (goInt st) val).run P w2 = .ok () w3 ∧ VM P kt w3 m (N + 1) z (updL f kl val) ∧ w2.grownBy w3 (some m) := by
  have K : Keyed P kt := Keyed.of_law L
  have hlk := h.look K ht hz hkey
  obtain ⟨n, D, hn, h, hf⟩ := h
  obtain ⟨es, clock, hb, F, hs, hD⟩ := h
  obtain ⟨v0, st, es1, clock1, hrun, hv0, hst⟩ := entry_then_store L ht hz hb F hkey
  have hv : v0 = f kl := by
    rcases L.find w hkey es.toList F.keys with ⟨h1, h2⟩ | ⟨j, e0, h1, h2, h3⟩
    · rcases hv0 with ⟨e1, he1, hk1, _⟩ | ⟨_, rfl⟩
      · exact absurd hk1 (h2 e1 he1)
      · have : (Instr.lookup t (.map (some m)) key false).run P w = .ok v0 w := by
          simp [Instr.lookup, run_underlying ht, MapKept.run_getObj_map hb, L.check w _ hkey, h1, hz, Result.andThen]
        rw [hlk] at this
        exact (by injection this : f kl = v0).symm
    · have : (Instr.lookup t (.map (some m)) key false).run P w = .ok e0.val w := by
        simp [Instr.lookup, run_underlying ht, MapKept.run_getObj_map hb, L.check w _ hkey, h1, Result.andThen]
      rw [hlk] at this
      have e1 : f kl = e0.val := by injection this
      rcases hv0 with ⟨e2, he2, hk2, rfl⟩ | ⟨hne, _⟩
      · rw [e1, keyOf_same_entry K F he2 (List.mem_of_getElem? h2) (hk2.trans h3.symm)]
      · exact absurd h3 (hne e0 (List.mem_of_getElem? h2))
  refine ⟨st, setBlock w m (.map es1 clock1), by rw [← hv]; exact hrun, ⟨rfl, rfl, rfl, by simp [setBlock], fun i _ hi => heap_setBlock_other hb _ (fun q => hi (by rw [q]))⟩, fun w2 val hw2 => ?_⟩
  have hw2' : w2.heap[m]? = some (.map es1 clock1) := hw2.trans (heap_setBlock_same hb _)
  obtain ⟨es', clock', hs2, hup⟩ := hst w2 val hw2'
  have h0 : World.ownsMap w P kt Rv m n D := ⟨es, clock, hb, F, hs, hD⟩
  obtain ⟨w', hrun', ⟨es2, clock2, hb2, F2, hsz2, hD2⟩, hg⟩ := World.ownsMap.update h0 K ht (Nat.lt_of_le_of_lt hn hN) hkey (val := val) (d := .held val) (ps := []) rfl
  rw [hup] at hrun'
  have ew : setBlock w m (.map es' clock') = w' := by injection hrun'
  rw [← ew, heap_setBlock_same hb] at hb2
  injection hb2 with hb2
  injection hb2 with q1 q2
  subst q1 q2
  exact ⟨_, hs2, ⟨n + 1, _, by omega, ⟨es', clock', heap_setBlock_same hw2' _, F2, hsz2, hD2⟩, atKey_put (World.ownsMap.isMap h0) (K.key hkey) val hf⟩, ⟨rfl, rfl, rfl, by simp [setBlock], fun i _ hi => heap_setBlock_other hw2' _ (fun q => hi (by rw [q]))⟩⟩
end
end
section
theorem Stars.pack : ∀ {l1 l : List Part} {G : Nat → Prop} {w : World}, Stars (l1 ++ l) G w → ∃ F : Nat → Prop, (∀ k, F k → G k) ∧ Stars l1 F w ∧ Stars l (fun k => G k ∧ ¬ F k) w
  | [], _, _, _, h => ⟨fun _ => False, fun _ hk => hk.elim, trivial, h.mono (fun _ hk => ⟨hk, fun q => q⟩)⟩
  | _ :: _, _, _, _, ⟨F, h1, h2, h3, h4⟩ => by
    obtain ⟨F', k1, k2, k3⟩ := Stars.pack h4
    exact ⟨fun k => F k ∨ F' k, fun k hk => hk.elim (h1 k) (fun q => (k1 k q).1), ⟨F, fun k hk => .inl hk, h2, h3, k2.mono (fun k hk => ⟨.inr hk, (k1 k hk).2⟩)⟩, k3.mono (fun k hk => ⟨hk.1.1, fun q => q.elim hk.1.2 hk.2⟩)⟩
theorem Stars.unpack {l1 l : List Part} {F G : Nat → Prop} {w : World} (h : ∀ k, F k → G k) (h1 : Stars l1 F w) (h2 : Stars l (fun k => G k ∧ ¬ F k) w) : Stars (l1 ++ l) G w :=
  (Stars.append h1 h2 (fun _ hk q => q.2 hk)).mono (fun k hk => hk.elim (h k) (fun q => q.1))
/-! ### Nets -/
section
open Go.Maps Go.MapKept Go.ChangeMaps
open Go.WideMaps (KeyLaw)
abbrev KB : Kd (List Int) := Kd.slice 5 (Kd.int .u8)
abbrev nilv : Value := .slice none 0 0
abbrev kv (a b : Int) : Value := .agg #[.int .i64 a, .int .i64 b]
abbrev WI (a : Int) : Prop := (Lit.int .i64 a).wf = true
noncomputable def kl (a b : Int) : Lit := (keyOf Try.prog 102 (kv a b)).getD (.bool false)
theorem netLaidOut : laidOutB Try.prog = true := by kernel_rfl
theorem netKeys : KeyLaw Try.prog 102 := deep_law_gate netLaidOut (of_decide_eq_true (by kernel_rfl)) (of_decide_eq_true (by kernel_rfl)) (by kernel_rfl) (by kernel_rfl)
theorem netKeyed : Keyed Try.prog 102 := Keyed.of_law netKeys
theorem kl_ok {a b : Int} (ha : WI a) (hb : WI b) : keyOf Try.prog 102 (kv a b) = some (kl a b) := by
  have : ∃ l, keyOf Try.prog 102 (kv a b) = some l := by
    have hk : Program.keyType Try.prog 102 = true := by kernel_rfl
    have hf : (kv a b).formed Try.prog 102 = true := by kernel_rfl
    unfold keyOf
    rw [Try.underlying102]
    simp only [hk, hf, Bool.and_self, if_true]
    obtain ⟨d, hd⟩ : ∃ d, Try.prog.types.size + 1 = d + 2 := ⟨Try.prog.types.size - 1, by kernel_rfl⟩
    rw [hd]
    have h3 : ∀ x : Int, WI x → Try.prog.keyLits (d + 1) 3 [.int .i64 x] = some [.int .i64 x] := fun x hx => by
      unfold Program.keyLits
      rw [Try.underlying3]
      simp [hx]
    have hc : Try.prog.cellsOf 102 = 2 := by kernel_rfl
    have hc3 : Try.prog.cellsOf 3 = 1 := by kernel_rfl
    unfold Program.keyLits
    rw [Try.underlying102]
    simp only [Value.cells, hc, hc3]
    simp [h3 a ha, h3 b hb, List.range_succ, List.mapM_cons]
  obtain ⟨l, hl⟩ := this
  unfold kl
  rw [hl]; rfl
theorem kl_inj {a b c d : Int} (ha : WI a) (hb : WI b) (hc : WI c) (hd : WI d) (h : kl a b = kl c d) : a = c ∧ b = d := by
  have := netKeyed.inj (kl_ok ha hb) (by rw [h]; exact kl_ok hc hd)
  injection this with this
  simpa using this
theorem net_z1 (u : World) : (zeroValue 103).run Try.prog u = .ok nilv u := by first | exact Try.zeroValue103 u | kernel_rfl
theorem net_z2 (u : World) : (zeroValue 4).run Try.prog u = .ok (.bool false) u := by first | exact Try.zeroValue4 u | kernel_rfl
/-- A slice of bytes that is read. -/
def SlP (u : Value) (x : List Int) : Part := fun w F => ∃ A c, u = .slice A x.length c ∧ x.length ≤ c ∧ Kd.F (Kd.int .u8) w F A x.length x
theorem SlP.loc {u : Value} {x : List Int} : Loc (SlP u x) :=
  ⟨fun ⟨A, c, h1, h2, h3⟩ _ hh => ⟨A, c, h1, h2, Kd.F_step h3 hh⟩, fun ⟨A, c, h1, h2, h3⟩ => ⟨A, c, h1, h2, Kd.F_bound h3⟩, fun ⟨A, c, h1, h2, h3⟩ hh => ⟨A, c, h1, h2, Kd.F_mono h3 hh⟩⟩
def elsP (es : List (Value × List Int)) : List Part := es.map (fun e => SlP e.1 e.2)
def rowsOf (es : List (Value × List Int)) : List (List Value) := es.map (fun e => [e.1])
/-- A row of slices of bytes: its own block, and each element apart. -/
def RowP (v : Value) (ys : List (List Int)) : Part := fun w F => ∃ es : List (Value × List Int), ys = es.map Prod.snd ∧ Stars (Nw (Kd.raw 1) 22 v (rowsOf es) :: elsP es) F w
theorem RowP.loc {v : Value} {ys : List (List Int)} : Loc (RowP v ys) :=
  ⟨fun ⟨es, h1, h2⟩ hs hh => ⟨es, h1, h2.step hs hh⟩, fun ⟨es, h1, h2⟩ => ⟨es, h1, h2.bound⟩, fun ⟨es, h1, h2⟩ hh => ⟨es, h1, h2.mono hh⟩⟩
theorem RowP.nil (w : World) (F : Nat → Prop) : RowP nilv [] w F := ⟨[], rfl, fun _ => False, fun _ hk => hk.elim, Nw.loc, Kd.N_nil _ _ _ _ _, trivial⟩
theorem elsP_get {es : List (Value × List Int)} {j : Nat} {e : Value × List Int} (h : es[j]? = some e) : (elsP es)[j]? = some (SlP e.1 e.2) := by simp [elsP, h]
theorem RowP.reads {v : Value} {ys : List (List Int)} {w : World} {F : Nat → Prop} (h : RowP v ys w F) : ∃ A c, v = .slice A ys.length c ∧ ys.length ≤ c ∧ Kd.C KB w A ys.length ys := by
  obtain ⟨es, rfl, F1, _, _, hN, hl⟩ := h
  obtain ⟨A, c, e1⟩ := Kd.N_slice hN
  have hN1 := hN
  unfold Nw at hN1
  rw [e1] at hN1
  obtain ⟨_, hc, hC⟩ := Kd.N_reads' hN1
  have hle : (rowsOf es).length = (es.map Prod.snd).length := by simp [rowsOf]
  rw [hle] at e1 hc hC
  refine ⟨A, c, e1, hc, by simp, hC.2.1, fun h0 => ?_⟩
  obtain ⟨ad, hA, hr⟩ := hC.2.2 h0
  refine ⟨ad, hA, fun j p hp => ?_⟩
  obtain ⟨e, he, hp'⟩ : ∃ e, es[j]? = some e ∧ e.2 = p := by simpa using hp
  obtain ⟨c1, hcl, hK, hcell⟩ := hr j [e.1] (by simp [rowsOf, he])
  obtain ⟨F2, A2, c2, q1, q2, q3⟩ := hl.get j (elsP_get he)
  rw [hp'] at q1 q2 q3
  have hK' : c1 = [e.1] := hK.1
  exact ⟨c1, hcl, ⟨A2, c2, by rw [hK', q1], q2, Kd.F_now q3⟩, hcell⟩
theorem Stars.rot {l1 l2 : List Part} {G : Nat → Prop} {w : World} (h : Stars (l1 ++ l2) G w) : Stars (l2 ++ l1) G w := by
  obtain ⟨F, h1, h2, h3⟩ := h.pack
  exact (Stars.append h3 h2 (fun _ hk q => hk.2 q)).mono (fun k hk => hk.elim (fun q => q.1) (h1 k))
theorem St.rowOpen {W w : World} {F0 : Nat → Prop} {l : List Part} {v : Value} {ys : List (List Int)} (h : St W F0 w (RowP v ys :: l)) : ∃ es : List (Value × List Int), ys = es.map Prod.snd ∧ St W F0 w (Nw (Kd.raw 1) 22 v (rowsOf es) :: (l ++ elsP es)) := by
  obtain ⟨h0, F, h1, h2, ⟨es, he, F1, k1, k2, k3, k4⟩, h4⟩ := h
  refine ⟨es, he, h0, F1, fun k hk => h1 k (k1 k hk), k2, k3, ?_⟩
  exact Stars.rot (l1 := elsP es) (Stars.unpack (F := fun k => F k ∧ ¬ F1 k) (fun k hk => ⟨h1 k hk.1, hk.2⟩) k4 (h4.mono (fun k hk => ⟨⟨hk.1, fun q => hk.2 (k1 k q)⟩, fun q => hk.2 q.1⟩)))
theorem St.rowShut {W w : World} {F0 : Nat → Prop} {l : List Part} {v : Value} {es : List (Value × List Int)} (h : St W F0 w (Nw (Kd.raw 1) 22 v (rowsOf es) :: (l ++ elsP es))) : St W F0 w (RowP v (es.map Prod.snd) :: l) := by
  obtain ⟨h0, F1, k1, k2, k3, k4⟩ := h
  obtain ⟨F2, j1, j2, j3⟩ := (Stars.rot k4).pack
  exact ⟨h0, fun k => F1 k ∨ F2 k, fun k hk => hk.elim (k1 k) (fun q => (j1 k q).1), RowP.loc, ⟨es, rfl, F1, fun k hk => .inl hk, k2, k3, j2.mono (fun k hk => ⟨.inr hk, (j1 k hk).2⟩)⟩, j3.mono (fun k hk => ⟨hk.1.1, fun q => q.elim hk.1.2 hk.2⟩)⟩
theorem St.rot_ {W w : World} {F0 : Nat → Prop} {l1 l2 : List Part} {A : Part} (h : St W F0 w (A :: (l1 ++ l2))) : St W F0 w (l2 ++ (A :: l1)) := ⟨h.fr, Stars.rot (l1 := A :: l1) h.st⟩
theorem eraseIdx_map' {α β : Type} (f : α → β) : ∀ (l : List α) (i : Nat), (l.map f).eraseIdx i = (l.eraseIdx i).map f
  | [], _ => rfl
  | _ :: _, 0 => rfl
  | a :: l, i + 1 => by simp [eraseIdx_map' f l i]
theorem St.elsOut {W w : World} {F0 : Nat → Prop} {l : List Part} {es : List (Value × List Int)} {i : Nat} {u : Value} {x : List Int} (h : St W F0 w (l ++ elsP es)) (he : es[i]? = some (u, x)) : St W F0 w (SlP u x :: (l ++ elsP (es.eraseIdx i))) := by
  have hi : i < (elsP es).length := by simp [elsP]; exact (List.getElem?_eq_some_iff.1 he).1
  have h1 := (Stars.rot h.st).front i (A := SlP u x) (by rw [List.getElem?_append_left hi]; exact elsP_get he)
  rw [List.eraseIdx_append_of_lt_length hi] at h1
  obtain ⟨F, k1, k2, k3, k4⟩ := h1
  have e : (elsP es).eraseIdx i = elsP (es.eraseIdx i) := eraseIdx_map' _ _ _
  exact ⟨h.fr, F, k1, k2, k3, e ▸ Stars.rot k4⟩
theorem St.ptRow {W w : World} {F0 : Nat → Prop} {l : List Part} {g m : Nat} {es : List (Value × List Int)} (h : St W F0 w (Pt g (es.map Prod.fst).toArray 22 :: (l ++ elsP es))) (hm : es.length = m) (hx : m ≤ 1000000) (h1 : ∀ e ∈ es, e.1.oneCell' = true) : St W F0 w (RowP (.slice (some ⟨g, 0, none⟩) m m) (es.map Prod.snd) :: l) := by
  refine St.rowShut (h.imp Nw.loc (fun F hA => Kd.R_N ⟨fun k hk => ?_, es.map Prod.fst, ⟨?_, .inr ⟨g, m, (es.map Prod.fst).toArray, by simp [rowsOf, hm], Nat.zero_le _, hA.2, by simp [rowsOf, hm], by unfold maxLen; omega, by simp [hm, Kd.raw], ?_⟩⟩, ?_, fun j p hj => ?_⟩))
  · have : g = k := by simpa [Value.ownBlock] using hk
    exact this ▸ hA.1
  · simp [rowsOf, Kd.raw]
  · simp only [Kd.raw, rowsOf, List.length_map, Nat.mul_one]
    rw [List.take_of_length_le (by simp)]
  · simp [rowsOf, Kd.raw]
  · have hj' : (es[j]?).map (fun e => [e.1]) = some p := by simpa [rowsOf] using hj
    obtain ⟨e, he, rfl⟩ := Option.map_eq_some_iff.1 hj'
    obtain ⟨hjl, hjv⟩ := List.getElem?_eq_some_iff.1 he
    have q : ((es.map Prod.fst).drop (j * (Kd.raw 1).sz)).take (Kd.raw 1).sz = [e.1] := by
      show ((es.map Prod.fst).drop (j * 1)).take 1 = [e.1]
      rw [Nat.mul_one, List.drop_eq_getElem_cons (by simpa using hjl), List.take_succ_cons, List.take_zero, List.getElem_map, hjv]
    exact ⟨q, by rw [q]; rfl, fun v hv => by rw [q] at hv; rw [List.mem_singleton.1 hv]; exact h1 _ (hjv ▸ List.getElem_mem _)⟩
/-- One element more. -/
theorem St.rowMore {W w : World} {F0 : Nat → Prop} {l : List Part} {u v : Value} {x : List Int} {es : List (Value × List Int)} (h : St W F0 w (SlP u x :: Nw (Kd.raw 1) 22 v (rowsOf es ++ [[u]]) :: (l ++ elsP es))) : St W F0 w (RowP v (es.map Prod.snd ++ [x]) :: l) := by
  obtain ⟨h0, h1⟩ := h
  have h2 := Stars.rot (l1 := [_]) h1
  have e1 : rowsOf (es ++ [(u, x)]) = rowsOf es ++ [[u]] := by simp [rowsOf]
  have e2 : elsP (es ++ [(u, x)]) = elsP es ++ [SlP u x] := by simp [elsP]
  have h3 : St W F0 w (Nw (Kd.raw 1) 22 v (rowsOf (es ++ [(u, x)])) :: (l ++ elsP (es ++ [(u, x)]))) := by
    rw [e1, e2]
    refine ⟨h0, ?_⟩
    simpa using h2
  have := h3.rowShut
  simpa using this
/-- What is under way, by links: the map's block, and a row for each. -/
def BagP (m N : Nat) (B : Lit → List (List Int)) : Part := fun w F => F m ∧ ∃ (f : Lit → Value) (ok : Lit → Nat → Prop), VM Try.prog 102 w m N nilv f ∧
  (∀ l, (∀ k, ok l k → F k ∧ k ≠ m) ∧ RowP (f l) (B l) w (ok l)) ∧ ∀ l l' k, ok l k → ok l' k → l = l'
theorem BagP.loc {m N : Nat} {B : Lit → List (List Int)} : Loc (BagP m N B) :=
  ⟨fun ⟨h1, f, ok, h2, h3, h4⟩ hs hh => ⟨h1, f, ok, h2.same (hh m h1 h2.lt), fun l => ⟨(h3 l).1, RowP.loc.step (h3 l).2 hs (fun k hk hl => hh k ((h3 l).1 k hk).1 hl)⟩, h4⟩,
   fun {w _} ⟨h1, f, ok, h2, h3, h4⟩ => ⟨⟨h1, h2.lt⟩, f, fun l k => ok l k ∧ k < w.heap.size, h2, fun l => ⟨fun k hk => ⟨⟨((h3 l).1 k hk.1).1, hk.2⟩, ((h3 l).1 k hk.1).2⟩, RowP.loc.bound (h3 l).2⟩, fun l l' k hk hk' => h4 l l' k hk.1 hk'.1⟩,
   fun ⟨h1, f, ok, h2, h3, h4⟩ hh => ⟨hh m h1, f, ok, h2, fun l => ⟨fun k hk => ⟨hh k ((h3 l).1 k hk).1, ((h3 l).1 k hk).2⟩, (h3 l).2⟩, h4⟩⟩
/-- .. while one link's entry is written. -/
def BagX (m N : Nat) (k : Lit) (st : Nat) (B : Lit → List (List Int)) : Part := fun w F => F m ∧ m < w.heap.size ∧ ∃ (f : Lit → Value) (ok : Lit → Nat → Prop),
  (∀ (w2 : World) (val : Value), w2.heap[m]? = w.heap[m]? → ∃ w3, (Instr.entryStore 52 (.map (some m)) (goInt st) val).run Try.prog w2 = .ok () w3 ∧ VM Try.prog 102 w3 m (N + 1) nilv (updL f k val) ∧ w2.grownBy w3 (some m)) ∧
  (∀ l, l ≠ k → (∀ k, ok l k → F k ∧ k ≠ m) ∧ RowP (f l) (B l) w (ok l)) ∧ ∀ l l' k, ok l k → ok l' k → l = l'
theorem BagX.loc {m N : Nat} {k : Lit} {st : Nat} {B : Lit → List (List Int)} : Loc (BagX m N k st B) :=
  ⟨fun ⟨h1, h0, f, ok, h2, h3, h4⟩ hs hh => ⟨h1, Nat.lt_of_lt_of_le h0 hs, f, ok, fun w2 val e => h2 w2 val (e.trans (hh m h1 h0)), fun l hl => ⟨(h3 l hl).1, RowP.loc.step (h3 l hl).2 hs (fun k hk hlt => hh k ((h3 l hl).1 k hk).1 hlt)⟩, h4⟩,
   fun {w _} ⟨h1, h0, f, ok, h2, h3, h4⟩ => ⟨⟨h1, h0⟩, h0, f, fun l k => ok l k ∧ k < w.heap.size, h2, fun l hl => ⟨fun k hk => ⟨⟨((h3 l hl).1 k hk.1).1, hk.2⟩, ((h3 l hl).1 k hk.1).2⟩, RowP.loc.bound (h3 l hl).2⟩, fun l l' k hk hk' => h4 l l' k hk.1 hk'.1⟩,
   fun ⟨h1, h0, f, ok, h2, h3, h4⟩ hh => ⟨hh m h1, h0, f, ok, h2, fun l hl => ⟨fun k hk => ⟨hh k ((h3 l hl).1 k hk).1, ((h3 l hl).1 k hk).2⟩, (h3 l hl).2⟩, h4⟩⟩
/-- .. but for one link's row. -/
def BagY (m N : Nat) (k : Lit) (B : Lit → List (List Int)) : Part := fun w F => F m ∧ ∃ (f : Lit → Value) (ok : Lit → Nat → Prop), VM Try.prog 102 w m N nilv f ∧
  (∀ l, l ≠ k → (∀ k, ok l k → F k ∧ k ≠ m) ∧ RowP (f l) (B l) w (ok l)) ∧ ∀ l l' k, ok l k → ok l' k → l = l'
theorem BagY.loc {m N : Nat} {k : Lit} {B : Lit → List (List Int)} : Loc (BagY m N k B) :=
  ⟨fun ⟨h1, f, ok, h2, h3, h4⟩ hs hh => ⟨h1, f, ok, h2.same (hh m h1 h2.lt), fun l hl => ⟨(h3 l hl).1, RowP.loc.step (h3 l hl).2 hs (fun k hk hlt => hh k ((h3 l hl).1 k hk).1 hlt)⟩, h4⟩,
   fun {w _} ⟨h1, f, ok, h2, h3, h4⟩ => ⟨⟨h1, h2.lt⟩, f, fun l k => ok l k ∧ k < w.heap.size, h2, fun l hl => ⟨fun k hk => ⟨⟨((h3 l hl).1 k hk.1).1, hk.2⟩, ((h3 l hl).1 k hk.1).2⟩, RowP.loc.bound (h3 l hl).2⟩, fun l l' k hk hk' => h4 l l' k hk.1 hk'.1⟩,
   fun ⟨h1, f, ok, h2, h3, h4⟩ hh => ⟨hh m h1, f, ok, h2, fun l hl => ⟨fun k hk => ⟨hh k ((h3 l hl).1 k hk).1, ((h3 l hl).1 k hk).2⟩, (h3 l hl).2⟩, h4⟩⟩
def CutP (m N : Nat) (C : Lit → Bool) : Part := fun w F => F m ∧ VM Try.prog 102 w m N (.bool false) (fun l => .bool (C l))
theorem CutP.loc {m N : Nat} {C : Lit → Bool} : Loc (CutP m N C) := ⟨fun ⟨h1, h2⟩ _ hh => ⟨h1, h2.same (hh m h1 h2.lt)⟩, fun ⟨h1, h2⟩ => ⟨⟨h1, h2.lt⟩, h2⟩, fun ⟨h1, h2⟩ hh => ⟨hh m h1, h2⟩⟩
variable {W w : World} {F0 : Nat → Prop} {l : List Part} {m N : Nat} {B : Lit → List (List Int)} {C : Lit → Bool} {a b : Int} {v : Value} {xs : List (List Int)} {st : Nat}
theorem St.bagLook (h : St W F0 w l) (i : Nat) (e : l[i]? = some (BagP m N B)) (ha : WI a) (hb : WI b) :
    ∃ A c, (Instr.lookup 52 (.map (some m)) (kv a b) false).run Try.prog w = .ok (.slice A (B (kl a b)).length c) w ∧ (B (kl a b)).length ≤ c ∧ Kd.C KB w A (B (kl a b)).length (B (kl a b)) := by
  obtain ⟨F, _, f, ok, h2, h3, _⟩ := h.get i e
  obtain ⟨A, c, e1, hc, hC⟩ := (h3 (kl a b)).2.reads
  refine ⟨A, c, ?_, hc, hC⟩
  rw [h2.look netKeyed Try.underlying52 net_z1 (kl_ok ha hb), e1]
theorem St.bagLookN (h : St W F0 w l) (i : Nat) (e : l[i]? = some (BagP m N B)) (ha : WI a) (hb : WI b) :
    ∃ A c, (∀ n : Nat, (Instr.lookup 52 (.map (some m)) (.agg #[.int .i64 a, .int .i64 b]) false).run Try.prog (w.drewN n) = .ok (.slice A (B (kl a b)).length c) (w.drewN n)) ∧ (B (kl a b)).length ≤ c ∧ Kd.C KB w A (B (kl a b)).length (B (kl a b)) := by
  obtain ⟨F, _, f, ok, h2, h3, _⟩ := h.get i e
  obtain ⟨A, c, e1, hc, hC⟩ := (h3 (kl a b)).2.reads
  refine ⟨A, c, fun n => ?_, hc, hC⟩
  rw [← e1]
  exact (h2.same ((pw_below_drewN (Below.refl w.heap.size w) n).block m h2.lt)).look netKeyed Try.underlying52 net_z1 (kl_ok ha hb)
theorem St.cutLook (h : St W F0 w l) (i : Nat) (e : l[i]? = some (CutP m N C)) (ha : WI a) (hb : WI b) :
    (Instr.lookup 53 (.map (some m)) (kv a b) false).run Try.prog w = .ok (.bool (C (kl a b))) w := by
  obtain ⟨F, _, h2⟩ := h.get i e
  exact h2.look netKeyed Try.underlying53 net_z2 (kl_ok ha hb)
theorem St.bagEntry (h : St W F0 w (BagP m N B :: l)) (hN : N < maxLen) (ha : WI a) (hb : WI b) :
    ∃ (st : Nat) (A : Option Addr) (c : Nat) (w1 : World), (Instr.mapEntry 52 (.map (some m)) (kv a b)).run Try.prog w = .ok (.tuple #[.slice A (B (kl a b)).length c, goInt st]) w1 ∧ w.grownBy w1 (some m) ∧
      St W F0 w1 (BagX m N (kl a b) st B :: RowP (.slice A (B (kl a b)).length c) (B (kl a b)) :: l) := by
  obtain ⟨h0, hst⟩ := h
  obtain ⟨F, h1, _, ⟨fm, f, ok, h2, h3, h4⟩, hl⟩ := hst.bound
  obtain ⟨st, w1, hrun, hg, hs⟩ := h2.entry netKeys Try.underlying52 hN net_z1 (kl_ok ha hb)
  obtain ⟨A, c, e1, _, _⟩ := (h3 (kl a b)).2.reads
  have hf : Fr (fun k => k = m) w w1 := Fr.of_grown hg (fun _ e => (Option.some.inj e).symm)
  have hN1 : ∀ l, RowP (f l) (B l) w1 (ok l) := fun l => RowP.loc.step (h3 l).2 hf.size (fun k hk hlt => hf.block k hlt ((h3 l).1 k hk).2)
  refine ⟨st, A, c, w1, by rw [← e1]; exact hrun, hg, h0.trans hf (fun k hk => by subst hk; exact (h1 _ fm).1), fun k => F k ∧ ¬ ok (kl a b) k, fun k hk => (h1 k hk.1).1, BagX.loc,
    ⟨⟨fm, fun q => ((h3 _).1 _ q).2 rfl⟩, Nat.lt_of_lt_of_le h2.lt hf.size, f, fun l k => ok l k ∧ l ≠ kl a b, hs, fun l hl => ⟨fun k hk => ⟨⟨((h3 l).1 k hk.1).1, fun q => hk.2 (h4 _ _ k hk.1 q)⟩, ((h3 l).1 k hk.1).2⟩, RowP.loc.mono (hN1 l) (fun k hk => ⟨hk, hl⟩)⟩, fun l l' k hk hk' => h4 l l' k hk.1 hk'.1⟩,
    ok (kl a b), fun k hk => ⟨(h1 k ((h3 _).1 k hk).1).1, fun q => q.2 hk⟩, RowP.loc, by rw [← e1]; exact hN1 _, (hl.step hf.size (fun k hk hlt => hf.block k hlt (fun q => hk.2 (q ▸ fm)))).mono (fun k hk => ⟨⟨hk.1.1, fun q => hk.2 q.1⟩, fun q => hk.2 ((h3 _).1 k q).1⟩)⟩
/-- Two parts become the map: its own, and the row of one link. -/
theorem St.bagTo {w1 : World} {A : Part} {N' : Nat} {k : Lit} (h : St W F0 w (A :: RowP v xs :: l)) (hg : w.grownBy w1 (some m))
    (hA : ∀ F, A w F → F m ∧ ∃ (f : Lit → Value) (ok : Lit → Nat → Prop), VM Try.prog 102 w1 m N' nilv (updL f k v) ∧ (∀ l, l ≠ k → (∀ k, ok l k → F k ∧ k ≠ m) ∧ RowP (f l) (B l) w (ok l)) ∧ ∀ l l' k, ok l k → ok l' k → l = l') :
    St W F0 w1 (BagP m N' (updL B k xs) :: l) := by
  obtain ⟨h0, hst⟩ := h
  obtain ⟨F1, a1, _, a3, F2, b1, _, b3, hl⟩ := hst.bound
  obtain ⟨fm, f, ok, h2, h3, h4⟩ := hA _ a3
  have hf : Fr (fun k => k = m) w w1 := Fr.of_grown hg (fun _ e => (Option.some.inj e).symm)
  have hm2 : ¬ F2 m := fun q => (b1 m q).2 fm
  refine ⟨h0.trans hf (fun k hk => by subst hk; exact (a1 _ fm).1), fun k => F1 k ∨ F2 k, fun k hk => hk.elim (fun q => (a1 k q).1) (fun q => (b1 k q).1.1), BagP.loc, ⟨.inl fm, updL f k v, fun l x => (l = k ∧ F2 x) ∨ (l ≠ k ∧ ok l x), h2, fun l => ?_, fun l l' x hx hx' => ?_⟩, ?_⟩
  · by_cases c : l = k
    · subst c
      refine ⟨fun x hx => ?_, ?_⟩
      · rcases hx with hx | hx
        · exact ⟨.inr hx.2, fun q => hm2 (q ▸ hx.2)⟩
        · exact absurd rfl hx.1
      · rw [updL_same, updL_same]
        exact RowP.loc.mono (RowP.loc.step b3 hf.size (fun x hx hlt => hf.block x hlt (fun q => hm2 (q ▸ hx)))) (fun x hx => .inl ⟨rfl, hx⟩)
    · refine ⟨fun x hx => ?_, ?_⟩
      · rcases hx with hx | hx
        · exact absurd hx.1 c
        · exact ⟨.inl ((h3 l c).1 x hx.2).1, ((h3 l c).1 x hx.2).2⟩
      · rw [updL_ne _ _ c, updL_ne _ _ c]
        exact RowP.loc.mono (RowP.loc.step (h3 l c).2 hf.size (fun x hx hlt => hf.block x hlt ((h3 l c).1 x hx).2)) (fun x hx => .inr ⟨c, hx⟩)
  · rcases hx with hx | hx <;> rcases hx' with hx' | hx'
    · exact hx.1.trans hx'.1.symm
    · exact absurd ((h3 l' hx'.1).1 x hx'.2).1 (b1 x hx.2).2
    · exact absurd ((h3 l hx.1).1 x hx.2).1 (b1 x hx'.2).2
    · exact h4 l l' x hx.2 hx'.2
  · exact (hl.step hf.size (fun k hk hlt => hf.block k hlt (fun q => hk.1.2 (q ▸ fm)))).mono (fun k hk => ⟨hk.1.1.1, fun q => q.elim hk.1.2 hk.2⟩)
theorem St.bagStore {k : Lit} (h : St W F0 w (BagX m N k st B :: RowP v xs :: l)) :
    ∃ w1, (Instr.entryStore 52 (.map (some m)) (goInt st) v).run Try.prog w = .ok () w1 ∧ w.grownBy w1 (some m) ∧ St W F0 w1 (BagP m (N + 1) (updL B k xs) :: l) := by
  obtain ⟨F, _, _, f, ok, h2, _⟩ := h.get 0 rfl
  obtain ⟨w1, hrun, _, hg⟩ := h2 w v rfl
  refine ⟨w1, hrun, hg, h.bagTo hg (fun F hA => ?_)⟩
  obtain ⟨fm, _, f, ok, h2, h3, h4⟩ := hA
  obtain ⟨w1', hrun', hv, _⟩ := h2 w v rfl
  rw [hrun] at hrun'
  injection hrun' with _ e
  subst e
  exact ⟨fm, f, ok, hv, h3, h4⟩
theorem St.bagPut (h : St W F0 w (BagY m N (kl a b) B :: RowP v xs :: l)) (hN : N < maxLen) (ha : WI a) (hb : WI b) :
    ∃ w1, (Instr.mapUpdate 52 (.map (some m)) (kv a b) v).run Try.prog w = .ok () w1 ∧ w.grownBy w1 (some m) ∧ St W F0 w1 (BagP m (N + 1) (updL B (kl a b) xs) :: l) := by
  obtain ⟨F, _, f, ok, h2, _⟩ := h.get 0 rfl
  obtain ⟨w1, hrun, _, hg⟩ := h2.put netKeyed Try.underlying52 hN (kl_ok ha hb) v
  refine ⟨w1, hrun, hg, h.bagTo hg (fun F hA => ?_)⟩
  obtain ⟨fm, f, ok, h2, h3, h4⟩ := hA
  obtain ⟨w1', hrun', hv, _⟩ := h2.put netKeyed Try.underlying52 hN (kl_ok ha hb) v
  rw [hrun] at hrun'
  injection hrun' with _ e
  subst e
  exact ⟨fm, f, ok, hv, h3, h4⟩
/-- One link's row by itself. -/
theorem St.bagOut (h : St W F0 w (BagP m N B :: l)) (ha : WI a) (hb : WI b) :
    ∃ A c, (∀ n : Nat, (Instr.lookup 52 (.map (some m)) (.agg #[.int .i64 a, .int .i64 b]) false).run Try.prog (w.drewN n) = .ok (.slice A (B (kl a b)).length c) (w.drewN n)) ∧ (B (kl a b)).length ≤ c ∧ Kd.C KB w A (B (kl a b)).length (B (kl a b)) ∧
      St W F0 w (BagY m N (kl a b) B :: RowP (.slice A (B (kl a b)).length c) (B (kl a b)) :: l) := by
  obtain ⟨h0, hst⟩ := h
  obtain ⟨F, h1, _, ⟨fm, f, ok, h2, h3, h4⟩, hl⟩ := hst.bound
  obtain ⟨A, c, e1, hc, hC⟩ := (h3 (kl a b)).2.reads
  refine ⟨A, c, fun n => ?_, hc, hC, h0, fun k => F k ∧ ¬ ok (kl a b) k, fun k hk => (h1 k hk.1).1, BagY.loc,
    ⟨⟨fm, fun q => ((h3 _).1 _ q).2 rfl⟩, f, fun l k => ok l k ∧ l ≠ kl a b, h2, fun l hl => ⟨fun k hk => ⟨⟨((h3 l).1 k hk.1).1, fun q => hk.2 (h4 _ _ k hk.1 q)⟩, ((h3 l).1 k hk.1).2⟩, RowP.loc.mono (h3 l).2 (fun k hk => ⟨hk, hl⟩)⟩, fun l l' k hk hk' => h4 l l' k hk.1 hk'.1⟩,
    ok (kl a b), fun k hk => ⟨(h1 k ((h3 _).1 k hk).1).1, fun q => q.2 hk⟩, RowP.loc, by rw [← e1]; exact (h3 _).2, hl.mono (fun k hk => ⟨⟨hk.1.1, fun q => hk.2 q.1⟩, fun q => hk.2 ((h3 _).1 k q).1⟩)⟩
  rw [← e1]
  exact (h2.same ((pw_below_drewN (Below.refl w.heap.size w) n).block m h2.lt)).look netKeyed Try.underlying52 net_z1 (kl_ok ha hb)
theorem St.nilRow (h : St W F0 w l) : St W F0 w (RowP nilv [] :: l) :=
  ⟨h.fr, fun _ => False, fun _ hk => hk.elim, RowP.loc, RowP.nil _ _, h.st.mono (fun k hk => ⟨hk, fun q => q⟩)⟩
theorem St.bagDel (h : St W F0 w (BagP m N B :: l)) (ha : WI a) (hb : WI b) (ty : TypeId) :
    ∃ w1, (Builtin.delete_ #[52, 102] ty #[.map (some m), kv a b]).run Try.prog w = .ok (.tuple #[]) w1 ∧ w.grownBy w1 (some m) ∧ St W F0 w1 (BagP m N (updL B (kl a b) []) :: l) := by
  obtain ⟨F, _, f, ok, h2, _⟩ := h.get 0 rfl
  obtain ⟨w1, hrun, _, hg⟩ := h2.del netKeyed Try.underlying52 (kl_ok ha hb) ty
  refine ⟨w1, hrun, hg, h.nilRow.perm2.bagTo hg (fun F hA => ?_)⟩
  obtain ⟨fm, f, ok, h2, h3, h4⟩ := hA
  obtain ⟨w1', hrun', hv, _⟩ := h2.del netKeyed Try.underlying52 (kl_ok ha hb) ty
  rw [hrun] at hrun'
  injection hrun' with _ e
  subst e
  exact ⟨fm, f, ok, hv, fun l _ => h3 l, h4⟩
theorem St.cutPut (h : St W F0 w (CutP m N C :: l)) (hN : N < maxLen) (ha : WI a) (hb : WI b) (c : Bool) :
    ∃ w1, (Instr.mapUpdate 53 (.map (some m)) (kv a b) (.bool c)).run Try.prog w = .ok () w1 ∧ w.grownBy w1 (some m) ∧ St W F0 w1 (CutP m (N + 1) (updL C (kl a b) c) :: l) := by
  obtain ⟨F, hA, hF, hu⟩ := h.upd
  obtain ⟨fm, h2⟩ := hA
  obtain ⟨w1, hrun, hv, hg⟩ := h2.put netKeyed Try.underlying53 hN (kl_ok ha hb) (.bool c)
  refine ⟨w1, hrun, hg, hu w1 _ F (Fr.of_grown hg (fun _ e => Option.some.inj e ▸ fm)) (fun k hk => .inl hk) CutP.loc ⟨fm, ?_⟩⟩
  have e : (fun l => Value.bool (updL C (kl a b) c l)) = updL (fun l => Value.bool (C l)) (kl a b) (.bool c) := by
    funext l; unfold updL; by_cases q : l = kl a b <;> simp [q]
  rw [e]; exact hv
theorem netInfo22 : (Try.prog.info? 22).map (fun i => (i.zero, i.size, i.bytes)) = some (some (.slice none 0 0), 1, 24) := by kernel_rfl
theorem St.ptVw {W w : World} {F0 : Nat → Prop} {l : List Part} {g : Nat} {t : TypeId} {u : Value} (h : St W F0 w (Pt g #[u] t :: l)) (hu : u.oneCell' = true) : St W F0 w (Vw (Kd.raw 1) (some ⟨g, 0, none⟩) 1 [[u]] :: l) :=
  h.imp Vw.loc (fun F hA W' hW => ⟨rfl, by decide, fun _ => ⟨_, rfl, fun j p hj => by
    rcases j with _ | j
    · have : [u] = p := by simpa using hj
      subst this
      refine ⟨[u], rfl, ⟨rfl, rfl, fun v hv => by rw [List.mem_singleton.1 hv]; exact hu⟩, fun i v hi => ?_⟩
      rcases i with _ | i
      · have : u = v := by simpa using hi
        subst this
        exact (blk_cell ((hW g hA.1 (blk_lt hA.2)).trans hA.2) 0).trans rfl
      · simp at hi
    · simp at hj⟩⟩)
theorem St.rw_sl {W w : World} {F0 : Nat → Prop} {l : List Part} {A : Option Addr} {n c : Nat} {x : List Int} (h : St W F0 w (Rw (Kd.int .u8) 5 (.slice A n c) x :: l)) : St W F0 w (SlP (.slice A n c) x :: l) :=
  h.imp SlP.loc (fun F hA => by
    have h1 := Kd.N_reads' (Kd.R_N hA)
    exact ⟨A, c, by rw [h1.1], h1.1 ▸ h1.2.1, h1.1 ▸ Kd.R_F hA⟩)
theorem St.bagDelY (h : St W F0 w (BagY m N (kl a b) B :: l)) (ha : WI a) (hb : WI b) (ty : TypeId) :
    ∃ w1, (Builtin.delete_ #[52, 102] ty #[.map (some m), kv a b]).run Try.prog w = .ok (.tuple #[]) w1 ∧ w.grownBy w1 (some m) ∧ St W F0 w1 (BagP m N (updL B (kl a b) []) :: l) := by
  obtain ⟨F, _, f, ok, h2, _⟩ := h.get 0 rfl
  obtain ⟨w1, hrun, _, hg⟩ := h2.del netKeyed Try.underlying52 (kl_ok ha hb) ty
  refine ⟨w1, hrun, hg, h.nilRow.perm2.bagTo hg (fun F hA => ?_)⟩
  obtain ⟨fm, f, ok, h2, h3, h4⟩ := hA
  obtain ⟨w1', hrun', hv, _⟩ := h2.del netKeyed Try.underlying52 (kl_ok ha hb) ty
  rw [hrun] at hrun'
  injection hrun' with _ e
  subst e
  exact ⟨fm, f, ok, hv, h3, h4⟩
/-- A net of the call's own. -/
def NetP (g N : Nat) (B : Lit → List (List Int)) (C : Lit → Bool) : Part := fun w F => ∃ m1 m2, Stars [Pt g #[.map (some m1), .map (some m2)] 55, BagP m1 N B, CutP m2 N C] F w
theorem NetP.loc {g N : Nat} {B : Lit → List (List Int)} {C : Lit → Bool} : Loc (NetP g N B C) :=
  ⟨fun ⟨m1, m2, h⟩ hs hh => ⟨m1, m2, h.step hs hh⟩, fun ⟨m1, m2, h⟩ => ⟨m1, m2, h.bound⟩, fun ⟨m1, m2, h⟩ hh => ⟨m1, m2, h.mono hh⟩⟩
theorem St.netOpen {g : Nat} (h : St W F0 w (NetP g N B C :: l)) : ∃ m1 m2, St W F0 w (Pt g #[.map (some m1), .map (some m2)] 55 :: BagP m1 N B :: CutP m2 N C :: l) := by
  obtain ⟨h0, F, h1, h2, ⟨m1, m2, h3⟩, h4⟩ := h
  exact ⟨m1, m2, h0, Stars.unpack h1 h3 h4⟩
theorem St.netShut {g m1 m2 N1 N2 N' : Nat} (h : St W F0 w (Pt g #[.map (some m1), .map (some m2)] 55 :: BagP m1 N1 B :: CutP m2 N2 C :: l)) (hN1 : N1 ≤ N') (hN2 : N2 ≤ N') : St W F0 w (NetP g N' B C :: l) := by
  have h' : St W F0 w (Pt g #[.map (some m1), .map (some m2)] 55 :: BagP m1 N' B :: CutP m2 N' C :: l) := by
    have k1 := (h.front 1 rfl).imp (A' := BagP m1 N' B) BagP.loc (fun F ⟨a1, f, ok, a2, a3⟩ => ⟨a1, f, ok, a2.mono hN1, a3⟩)
    have k2 := (k1.front 2 rfl).imp (A' := CutP m2 N' C) CutP.loc (fun F ⟨a1, a2⟩ => ⟨a1, a2.mono hN2⟩)
    exact (k2.front 1 rfl).front 2 rfl
  obtain ⟨h0, hst⟩ := h'
  obtain ⟨F, k1, k2, k3⟩ := Stars.pack (l1 := [_, _, _]) hst
  exact ⟨h0, F, k1, NetP.loc, ⟨m1, m2, k2⟩, k3⟩
end
end
section
set_option maxHeartbeats 8000000 in
set_option maxRecDepth 100000 in
theorem net_none (w : World) (g m1 : Nat) (v2 : Value) (hb : w.heap[g]? = some (.cells #[.map (some m1), v2] 55 (0, 0))) :
    Calls Try.prog 49 #[.pointer (some ⟨g, 0, none⟩)] w fun e w' => e = .returned (.bool false) ∧ w' = w := by
  have n0 : w.cell? ⟨g, 0, none⟩ = some (.map (some m1)) := (blk_cell hb 0).trans rfl
  have fn0 : w.frozen? ⟨g, 0, none⟩ = false := blk_frozen hb 0
  have hq : ∀ W : World, ∀ r : Option Nat, (binOp .eql 52 (.map r) (.map none)).run Try.prog W = .ok (.bool r.isNone) W := fun W r => run_eql_map_nil W _ _ _ r Try.underlying52
  clear hb
  go_enter Try.func49, Try.ntmps49
  go_wp2
  go_ret
  exact ⟨rfl, rfl⟩
set_option maxHeartbeats 8000000 in
set_option maxRecDepth 100000 in
theorem net_none_nil (w : World) :
    Calls Try.prog 49 #[.pointer none] w fun e w' => e = .returned (.bool true) ∧ w' = w := by
  go_enter Try.func49, Try.ntmps49
  go_wp2
  go_ret
  exact ⟨rfl, rfl⟩
set_option maxHeartbeats 8000000 in
set_option maxRecDepth 100000 in
theorem net_none_bare (w : World) (g : Nat) (v2 : Value) (hb : w.heap[g]? = some (.cells #[.map none, v2] 55 (0, 0))) :
    Calls Try.prog 49 #[.pointer (some ⟨g, 0, none⟩)] w fun e w' => e = .returned (.bool true) ∧ w' = w := by
  have n0 : w.cell? ⟨g, 0, none⟩ = some (.map none) := (blk_cell hb 0).trans rfl
  have fn0 : w.frozen? ⟨g, 0, none⟩ = false := blk_frozen hb 0
  have hq : ∀ W : World, ∀ r : Option Nat, (binOp .eql 52 (.map r) (.map none)).run Try.prog W = .ok (.bool r.isNone) W := fun W r => run_eql_map_nil W _ _ _ r Try.underlying52
  clear hb
  go_enter Try.func49, Try.ntmps49
  go_wp2
  go_ret
  exact ⟨rfl, rfl⟩
def isB (a b : Int) : Bool := decide (0 ≤ a ∧ a < 16 ∧ 0 ≤ b ∧ b < 16)
theorem isB_iff {a b : Int} : isB a b = true ↔ 0 ≤ a ∧ a < 16 ∧ 0 ≤ b ∧ b < 16 := by unfold isB; exact decide_eq_true_iff
set_option maxHeartbeats 8000000 in
set_option maxRecDepth 100000 in
theorem net_is (w : World) (a b : Int) :
    Calls Try.prog 50 #[.agg #[.int .i64 a, .int .i64 b]] w fun e w' => e = .returned (.bool (isB a b)) ∧ Below w.heap.size w w' := by
  obtain ⟨x, hx⟩ : ∃ x : Bool, isB a b = x := ⟨_, rfl⟩
  obtain ⟨lo, hlo⟩ : ∃ lo : Int, lo = if b < a then b else a := ⟨_, rfl⟩
  obtain ⟨hi, hhi⟩ : ∃ hi : Int, hi = if a < b then b else a := ⟨_, rfl⟩
  have e1 : (if b < a then b else a) = lo := hlo.symm
  have e2 : (if a < b then b else a) = hi := hhi.symm
  have hxx : x = (decide (0 ≤ lo) && decide (hi < 16)) := by
    rw [← hx, Bool.eq_iff_iff, isB_iff, hlo, hhi]
    simp only [Bool.and_eq_true, decide_eq_true_eq]
    repeat' split
    all_goals omega
  rw [hx]
  clear hx hlo hhi
  by_cases c : 0 ≤ lo
  · have d : decide (0 ≤ lo) = true := decide_eq_true c
    rw [d, Bool.true_and] at hxx
    subst hxx
    clear d
    go_enter Try.func50, Try.ntmps50
    go_wp2
    all_goals
      go_ret
      exact ⟨rfl, below_alloc (Below.refl _ _) _⟩
  · have d : decide (0 ≤ lo) = false := decide_eq_false c
    rw [d, Bool.false_and] at hxx
    subst hxx
    go_enter Try.func50, Try.ntmps50
    go_wp2
    all_goals
      go_ret
      exact ⟨rfl, below_alloc (Below.refl _ _) _⟩
variable {w : World} {F : Nat → Prop} {g N : Nat} {B : Lit → List (List Int)} {C : Lit → Bool} {a b : Int}
set_option maxHeartbeats 8000000 in
set_option maxRecDepth 100000 in
theorem net_count (h : NetP g N B C w F) (ha : WI a) (hb : WI b) :
    Calls Try.prog 21 #[.pointer (some ⟨g, 0, none⟩), .int .i64 a, .int .i64 b] w fun e w' => e = .returned (.int .i64 (B (kl a b)).length) ∧ w' = w := by
  obtain ⟨m1, m2, S⟩ := (St.start1 NetP.loc h).netOpen
  obtain ⟨A, c, hl, _, _⟩ := S.bagLook 1 rfl ha hb
  obtain ⟨n, hn⟩ : ∃ n, (B (kl a b)).length = n := ⟨_, rfl⟩
  rw [hn] at hl ⊢
  have hl' : (Instr.lookup 52 (.map (some m1)) (.agg #[.int .i64 a, .int .i64 b]) false).run Try.prog w = .ok (.slice A n c) w := hl
  have HB := Aside0.mk (S.blk 0 rfl)
  have n0 : w.cell? ⟨g, 0, none⟩ = some (.map (some m1)) := (blk_cell (S.blk 0 rfl) 0).trans rfl; have fn0 : w.frozen? ⟨g, 0, none⟩ = false := blk_frozen (S.blk 0 rfl) 0; have n1 : w.cell? ⟨g, 1, none⟩ = some (.map (some m2)) := (blk_cell (S.blk 0 rfl) 1).trans rfl; have fn1 : w.frozen? ⟨g, 1, none⟩ = false := blk_frozen (S.blk 0 rfl) 1
  clear h ha hb S hl hn
  go_enter Try.func21, Try.ntmps21
  go_wp2_with (go_at_call 49; refine (net_none w g m1 _ HB.out).mono ?_; rintro e w1 ⟨rfl, rfl⟩)
  go_ret
  exact ⟨rfl, rfl⟩
end
section
def placeI (which n : Int) : Int := IntKind.u64.wrap which % n
theorem placeI_lt {which n : Int} (hn : 0 < n) : 0 ≤ placeI which n ∧ placeI which n < n := ⟨Int.emod_nonneg _ (by omega), Int.emod_lt_of_pos _ hn⟩
variable {w : World} {F : Nat → Prop} {g N : Nat} {B : Lit → List (List Int)} {C : Lit → Bool} {a b : Int}
set_option maxHeartbeats 8000000 in
set_option maxRecDepth 100000 in
theorem net_place0 (h : NetP g N B C w F) (ha : WI a) (hb : WI b) (hB : B (kl a b) = []) (k : Int) :
    Calls Try.prog 52 #[.pointer (some ⟨g, 0, none⟩), .agg #[.int .i64 a, .int .i64 b], .int .i64 k] w fun e w' => e = .returned (.tuple #[.int .i64 0, .bool false]) ∧ Below w.heap.size w w' := by
  have S := St.start1 NetP.loc h
  have HS := Aside0.mk S
  have HA := Aside0.mk (And.intro ha hb)
  have HL := Aside0.mk (congrArg List.length hB)
  clear h S ha hb hB
  go_enter Try.func52, Try.ntmps52
  go_wp2_with (go_at_call 21; obtain ⟨F1, h1⟩ := (HS.out.call (below_alloc (Below.refl _ _) (.cells #[.int .i64 a, .int .i64 b] 102))).get 0 rfl; refine (net_count h1 HA.out.1 HA.out.2).mono ?_; rw [HL.out]; rintro e w1 ⟨rfl, rfl⟩; clear h1)
  go_ret2
  exact ⟨rfl, below_alloc (Below.refl _ _) _⟩
set_option maxHeartbeats 8000000 in
set_option maxRecDepth 100000 in
theorem net_place1 (h : NetP g N B C w F) (ha : WI a) (hb : WI b) (n : Nat) (hB : (B (kl a b)).length = n) (h0 : 0 < n) (hm : n ≤ 9223372036854775807) (k : Int) (hk : WI k) :
    Calls Try.prog 52 #[.pointer (some ⟨g, 0, none⟩), .agg #[.int .i64 a, .int .i64 b], .int .i64 k] w fun e w' => e = .returned (.tuple #[.int .i64 (placeI k n), .bool true]) ∧ Below w.heap.size w w' := by
  have S := St.start1 NetP.loc h
  have HS := Aside0.mk S
  have HA := Aside0.mk (And.intro ha hb)
  have HL := Aside0.mk hB
  have hp := placeI_lt (which := k) (show (0 : Int) < n by omega)
  obtain ⟨p, hpp⟩ : ∃ p, placeI k n = p := ⟨_, rfl⟩
  rw [hpp] at hp ⊢
  unfold placeI at hpp
  obtain ⟨u, hu⟩ : ∃ u, IntKind.u64.wrap k = u := ⟨_, rfl⟩
  rw [hu] at hpp
  have hu0 : 0 ≤ u ∧ u < 18446744073709551616 := by rw [← hu, IntKind.wrap_u64]; omega
  obtain ⟨hu1, hu2⟩ := hu0
  obtain ⟨hp1, hp2⟩ := hp
  have e1 : ((n : Int) == 0) = false := by rw [beq_eq_false_iff_ne]; omega
  have e2 : IntKind.u64.wrap (n : Int) = n := by rw [IntKind.wrap_u64]; omega
  have e3 : IntKind.i64.wrap p = p := by rw [IntKind.wrap_i64]; omega
  have h0' : (0 : Int) < n := by omega
  have hm' : (n : Int) < 18446744073709551616 := by omega
  clear h S ha hb hB hk
  go_enter Try.func52, Try.ntmps52
  go_wp2_with (go_at_call 21; obtain ⟨F1, h1⟩ := (HS.out.call (below_alloc (Below.refl _ _) (.cells #[.int .i64 a, .int .i64 b] 102))).get 0 rfl; refine (net_count h1 HA.out.1 HA.out.2).mono ?_; rw [HL.out]; rintro e w1 ⟨rfl, rfl⟩; clear h1)
  go_ret2
  exact ⟨rfl, below_alloc (Below.refl _ _) _⟩
end
section
theorem KB_get {w : World} {A : Option Addr} {n : Nat} {xs : List (List Int)} (h : Kd.C KB w A n xs) {i : Int} (h0 : 0 ≤ i) (h1 : i < n) :
    ∃ ad A1 c1, A = some ad ∧ w.cell? (ad.add i.toNat) = some (.slice A1 (xs.getD i.toNat []).length c1) ∧ (xs.getD i.toNat []).length ≤ c1 ∧ (Kd.int .u8).C w A1 (xs.getD i.toNat []).length (xs.getD i.toNat []) := by
  obtain ⟨ad, c, hA, hl, ⟨A1, c1, rfl, hc1, hC⟩, hc⟩ := Kd.C_get h [] i h0 h1
  have := hc 0 _ rfl
  rw [show i.toNat * KB.sz + 0 = i.toNat by show i.toNat * 1 + 0 = _; omega] at this
  exact ⟨ad, A1, c1, hA, this, hc1, hC⟩
variable {w : World} {F : Nat → Prop} {g N : Nat} {B : Lit → List (List Int)} {C : Lit → Bool} {a b : Int}
set_option maxHeartbeats 8000000 in
set_option maxRecDepth 100000 in
theorem net_peek0 (h : NetP g N B C w F) (ha : WI a) (hb : WI b) (hB : B (kl a b) = []) (k : Int) :
    Calls Try.prog 14 #[.pointer (some ⟨g, 0, none⟩), .int .i64 a, .int .i64 b, .int .i64 k] w fun e w' => e = .returned (.tuple #[.slice none 0 0, .bool false]) ∧ Below w.heap.size w w' := by
  have S0 := St.start1 NetP.loc h
  have HA := Aside0.mk (And.intro ha hb)
  have HL := Aside0.mk hB
  clear h ha hb hB
  go_enter Try.func14, Try.ntmps14
  go_wp2_with (go_at_call 52; have S1 := S0.call (below_alloc (Below.refl _ _) (.cells #[.int .i64 a, .int .i64 b] 102)); obtain ⟨F1, h1⟩ := S1.get 0 rfl; refine (net_place0 h1 HA.out.1 HA.out.2 HL.out k).mono ?_; rintro e w1 ⟨rfl, hb1⟩; have HB1 := Aside0.mk hb1; clear hb1 h1)
  go_ret2
  exact ⟨rfl, below_step (below_alloc (Below.refl _ _) _) HB1.out⟩
set_option maxHeartbeats 8000000 in
set_option maxRecDepth 100000 in
theorem net_peek1 (h : NetP g N B C w F) (ha : WI a) (hb : WI b) (n : Nat) (hB : (B (kl a b)).length = n) (h0 : 0 < n) (hm : n ≤ 1000000) (hS : ∀ x ∈ B (kl a b), x.length ≤ 1000000) (k : Int) (hk : WI k) :
    Calls Try.prog 14 #[.pointer (some ⟨g, 0, none⟩), .int .i64 a, .int .i64 b, .int .i64 k] w fun e w' => ∃ v, e = .returned (.tuple #[v, .bool true]) ∧ (Kd.int .u8).R 5 w' w.heap.size (fun _ => True) v ((B (kl a b)).getD (placeI k n).toNat []) ∧ Below w.heap.size w w' := by
  have S0 := St.start1 NetP.loc h
  have HA := Aside0.mk (And.intro ha hb)
  have HL := Aside0.mk hB
  have HK := Aside0.mk hk
  obtain ⟨hp0, hp1⟩ := placeI_lt (which := k) (show (0 : Int) < n by omega)
  obtain ⟨p, hp⟩ : ∃ p, placeI k n = p := ⟨_, rfl⟩
  have HP := Aside0.mk hp
  rw [hp] at hp0 hp1 ⊢
  have hSx : ((B (kl a b)).getD p.toNat []).length ≤ 1000000 := by
    rw [List.getD_eq_getElem?_getD, List.getElem?_eq_getElem (by omega)]
    exact hS _ (List.getElem_mem _)
  obtain ⟨x, hx⟩ : ∃ x, (B (kl a b)).getD p.toNat [] = x := ⟨_, rfl⟩
  have HX := Aside0.mk hx
  rw [hx] at hSx ⊢
  have HSX := Aside0.mk hSx
  have HN := Aside0.mk (And.intro h0 hm)
  clear h ha hb hB hk hp hS hx hSx h0 hm
  go_enter Try.func14, Try.ntmps14
  go_wp2_with (go_at_call 52; have S1 := S0.alloc (cs := #[.int .i64 a, .int .i64 b]) (t := 102); clear S0; obtain ⟨F1, h1⟩ := S1.get 1 rfl; refine (net_place1 h1 HA.out.1 HA.out.2 n HL.out HN.out.1 (by have := HN.out; omega) k HK.out).mono ?_; rw [HP.out]; rintro e w1 ⟨rfl, hb1⟩; have S2 := S1.call hb1; have HB1 : Aside0 (Below w.heap.size w w1) := ⟨below_step (below_alloc (Below.refl _ _) _) hb1⟩; clear hb1 h1 S1; have HS2 := Aside0.mk S2; obtain ⟨m1, m2, S3⟩ := (S2.front 1 rfl).netOpen; clear S2; have HS3 := Aside0.mk S3; obtain ⟨A, c, hl, hcl, hC⟩ := S3.drew1.bagLook 1 rfl HA.out.1 HA.out.2; rw [HL.out] at hl hcl hC; have hl' : (Instr.lookup 52 (.map (some m1)) (.agg #[.int .i64 a, .int .i64 b]) false).run Try.prog w1.drew = .ok (.slice A n c) w1.drew := hl; obtain ⟨ad, A1, c1, rfl, hx, hx1, hxC⟩ := KB_get hC hp0 hp1; rw [HX.out] at hx hx1 hxC; have HXC := Aside0.mk hxC; have HC1 := Aside0.mk hx1; have n0 : w1.cell? ⟨g, 0, none⟩ = some (.map (some m1)) := (blk_cell (S3.blk 0 rfl) 0).trans rfl; have fn0 : w1.frozen? ⟨g, 0, none⟩ = false := blk_frozen (S3.blk 0 rfl) 0; have n1 : w1.cell? ⟨g, 1, none⟩ = some (.map (some m2)) := (blk_cell (S3.blk 0 rfl) 1).trans rfl; have fn1 : w1.frozen? ⟨g, 1, none⟩ = false := blk_frozen (S3.blk 0 rfl) 1; have q0 : w1.cell? ⟨w.heap.size, 0, none⟩ = some (.int .i64 a) := (blk_cell (S3.blk 3 rfl) 0).trans rfl; have fq0 : w1.frozen? ⟨w.heap.size, 0, none⟩ = false := blk_frozen (S3.blk 3 rfl) 0; have q1 : w1.cell? ⟨w.heap.size, 1, none⟩ = some (.int .i64 b) := (blk_cell (S3.blk 3 rfl) 1).trans rfl; have fq1 : w1.frozen? ⟨w.heap.size, 1, none⟩ = false := blk_frozen (S3.blk 3 rfl) 1; clear S3 hl hC hx1 hxC hcl)
  go_region_with (first | (go_at_call 51; refine (clone_calls A1 c1 x _ HXC.out (by have := HSX.out; omega)).mono ?_; rintro e w2 ⟨v, rfl, hR, hb2⟩; have HR := Aside0.mk hR; have HB2 := Aside0.mk hb2; clear hR hb2))
  all_goals
    go_wp2
    go_ret2
    exact ⟨_, rfl, Kd.R_lower HR.out (below_size (below_drew HB1.out)), below_step (below_drew HB1.out) HB2.out⟩
set_option maxHeartbeats 8000000 in
set_option maxRecDepth 100000 in
theorem net_new (W : World) :
    Calls Try.prog 12 #[] W fun e w' => ∃ g, e = .returned (.pointer (some ⟨g, 0, none⟩)) ∧ St W (fun _ => False) w' [NetP g 0 (fun _ => []) (fun _ => false)] := by
  have hmm := @run_makeMap Try.prog
  have S0' := (St.start W (fun _ => False)).new (A := BagP W.heap.size 0 (fun _ => [])) (below_alloc (Below.refl _ _) (.map #[] 0)) BagP.loc ⟨Nat.le_refl _, fun _ => nilv, fun _ _ => False, VM.made Try.prog 102 W nilv, fun l => ⟨fun _ hk => hk.elim, RowP.nil _ _⟩, fun _ _ _ hk => hk.elim⟩
  have S1 := S0'.new (A := CutP (W.alloc (.map #[] 0)).heap.size 0 (fun _ => false)) (below_alloc (Below.refl _ _) (.map #[] 0)) CutP.loc ⟨Nat.le_refl _, VM.made Try.prog 102 _ (.bool false)⟩
  have S2 := ((S1.alloc (cs := #[.map (some W.heap.size), .map (some (W.alloc (.map #[] 0)).heap.size)]) (t := 55)).front 2 rfl).front 1 rfl
  have S3 := St.netShut S2 (Nat.le_refl _) (Nat.le_refl _)
  simp only [World.size_alloc] at S3
  have HS3 := Aside0.mk S3
  clear S0' S1 S2 S3
  go_enter Try.func12, Try.ntmps12
  go_wp2_with fail
  go_ret
  exact ⟨_, rfl, HS3.out⟩
end
section
variable {w : World} {F : Nat → Prop} {g N : Nat} {B : Lit → List (List Int)} {C : Lit → Bool} {a b : Int}
noncomputable def sendE (B : Lit → List (List Int)) (C : Lit → Bool) (a b : Int) : Int := if isB a b = true then (if C (kl a b) = true then 70 else if 256 ≤ (B (kl a b)).length then 50 else 0) else 2
theorem isB_WI {a b : Int} (h : isB a b = true) : WI a ∧ WI b := by
  have := isB_iff.1 h
  constructor <;> (show (Lit.int .i64 _).wf = true; simp [Lit.wf, IntKind.min, IntKind.max, IntKind.signed, IntKind.bits]; omega)
set_option maxHeartbeats 8000000 in
set_option maxRecDepth 100000 in
theorem net_send_err (h : NetP g N B C w F) (ha : WI a) (hb : WI b) (x : Int) (hx : sendE B C a b = x) (h0 : x ≠ 0) (A : Option Addr) (n c : Nat) :
    Calls Try.prog 13 #[.pointer (some ⟨g, 0, none⟩), .int .i64 a, .int .i64 b, .slice A n c] w fun e w' => e = .returned (.int .i64 x) ∧ Below w.heap.size w w' := by
  have S0 := St.start1 NetP.loc h
  have HA := Aside0.mk (And.intro ha hb)
  obtain ⟨m1, m2, S1⟩ := (S0.alloc (cs := #[.int .i64 a, .int .i64 b]) (t := 102)).perm2.netOpen
  have HB0 := Aside0.mk (S1.blk 0 rfl)
  clear S0 h
  unfold sendE at hx
  cases hi : isB a b with
  | false =>
    rw [if_neg (by rw [hi]; decide)] at hx
    subst hx
    have HI := Aside0.mk hi
    clear hi h0 ha hb S1
    go_enter Try.func13, Try.ntmps13
    go_wp2_with (first | (go_at_call 49; refine (net_none _ g m1 _ HB0.out).mono ?_; rintro e w1 ⟨rfl, rfl⟩) | (go_at_call 50; refine (net_is _ a b).mono ?_; rw [HI.out]; rintro e w1 ⟨rfl, hb1⟩; have HB1 := Aside0.mk (below_step (below_alloc (Below.refl _ _) _) hb1); clear hb1))
    go_ret
    exact ⟨rfl, HB1.out⟩
  | true =>
    rw [if_pos hi] at hx
    have HI := Aside0.mk hi
    clear hi
    cases hc : C (kl a b) with
    | true =>
      rw [if_pos hc] at hx
      subst hx
      have HC := Aside0.mk hc
      clear hc h0 ha hb
      go_enter Try.func13, Try.ntmps13
      go_wp2_with (first | (go_at_call 49; refine (net_none _ g m1 _ HB0.out).mono ?_; rintro e w1 ⟨rfl, rfl⟩) | (go_at_call 50; refine (net_is _ a b).mono ?_; rw [HI.out]; rintro e w1 ⟨rfl, hb1⟩; have HB1 := Aside0.mk (below_step (below_alloc (Below.refl _ _) _) hb1); have S2 := S1.call hb1; have hl := fun n : Nat => (S2.drew n).cutLook 2 rfl HA.out.1 HA.out.2; rw [HC.out] at hl; have hl' : ∀ n : Nat, (Instr.lookup 53 (.map (some m2)) (.agg #[.int .i64 a, .int .i64 b]) false).run Try.prog (w1.drewN n) = .ok (.bool true) (w1.drewN n) := hl; have z0 : w1.cell? ⟨g, 0, none⟩ = some (.map (some m1)) := (blk_cell (S2.blk 0 rfl) 0).trans rfl; have fz0 : w1.frozen? ⟨g, 0, none⟩ = false := blk_frozen (S2.blk 0 rfl) 0; have z1 : w1.cell? ⟨g, 1, none⟩ = some (.map (some m2)) := (blk_cell (S2.blk 0 rfl) 1).trans rfl; have fz1 : w1.frozen? ⟨g, 1, none⟩ = false := blk_frozen (S2.blk 0 rfl) 1; have q0 : w1.cell? ⟨w.heap.size, 0, none⟩ = some (.int .i64 a) := (blk_cell (S2.blk 3 rfl) 0).trans rfl; have fq0 : w1.frozen? ⟨w.heap.size, 0, none⟩ = false := blk_frozen (S2.blk 3 rfl) 0; have q1 : w1.cell? ⟨w.heap.size, 1, none⟩ = some (.int .i64 b) := (blk_cell (S2.blk 3 rfl) 1).trans rfl; have fq1 : w1.frozen? ⟨w.heap.size, 1, none⟩ = false := blk_frozen (S2.blk 3 rfl) 1; clear hl hb1 S1 S2))
      go_quiet (fail)
      go_wp2
      go_ret
      exact ⟨rfl, pw_below_drewN HB1.out _⟩
    | false =>
      rw [if_neg (by rw [hc]; decide)] at hx
      by_cases hn : 256 ≤ (B (kl a b)).length
      · rw [if_pos hn] at hx
        subst hx
        obtain ⟨k, hk⟩ : ∃ k, (B (kl a b)).length = k := ⟨_, rfl⟩
        rw [hk] at hn
        have HK := Aside0.mk hk
        have hd : decide ((256 : Int) ≤ (k : Int)) = true := decide_eq_true (by omega)
        have hd' : (256 : Int) ≤ (k : Int) := by omega
        have HC := Aside0.mk hc
        clear hc h0 ha hb hk hn
        go_enter Try.func13, Try.ntmps13
        go_wp2_with (first | (go_at_call 49; refine (net_none _ g m1 _ HB0.out).mono ?_; rintro e w1 ⟨rfl, rfl⟩) | (go_at_call 50; refine (net_is _ a b).mono ?_; rw [HI.out]; rintro e w1 ⟨rfl, hb1⟩; have HB1 := Aside0.mk (below_step (below_alloc (Below.refl _ _) _) hb1); have S2 := S1.call hb1; have hl := fun n : Nat => (S2.drew n).cutLook 2 rfl HA.out.1 HA.out.2; rw [HC.out] at hl; have hl' : ∀ n : Nat, (Instr.lookup 53 (.map (some m2)) (.agg #[.int .i64 a, .int .i64 b]) false).run Try.prog (w1.drewN n) = .ok (.bool false) (w1.drewN n) := hl; have z0 : w1.cell? ⟨g, 0, none⟩ = some (.map (some m1)) := (blk_cell (S2.blk 0 rfl) 0).trans rfl; have fz0 : w1.frozen? ⟨g, 0, none⟩ = false := blk_frozen (S2.blk 0 rfl) 0; have z1 : w1.cell? ⟨g, 1, none⟩ = some (.map (some m2)) := (blk_cell (S2.blk 0 rfl) 1).trans rfl; have fz1 : w1.frozen? ⟨g, 1, none⟩ = false := blk_frozen (S2.blk 0 rfl) 1; have q0 : w1.cell? ⟨w.heap.size, 0, none⟩ = some (.int .i64 a) := (blk_cell (S2.blk 3 rfl) 0).trans rfl; have fq0 : w1.frozen? ⟨w.heap.size, 0, none⟩ = false := blk_frozen (S2.blk 3 rfl) 0; have q1 : w1.cell? ⟨w.heap.size, 1, none⟩ = some (.int .i64 b) := (blk_cell (S2.blk 3 rfl) 1).trans rfl; have fq1 : w1.frozen? ⟨w.heap.size, 1, none⟩ = false := blk_frozen (S2.blk 3 rfl) 1; have HS2 := Aside0.mk S2; clear hl hb1 S1 S2))
        go_quiet (fail)
        go_wp2
        obtain ⟨A1, c1, hl2, _, _⟩ := HS2.out.bagLookN 1 rfl HA.out.1 HA.out.2
        rw [HK.out] at hl2
        go_quiet (fail)
        go_wp2
        go_ret
        exact ⟨rfl, pw_below_drewN (pw_below_drewN HB1.out _) _⟩
      · rw [if_neg hn] at hx
        exact absurd hx.symm h0
set_option maxHeartbeats 8000000 in
set_option maxRecDepth 100000 in
theorem net_send_ok (h : NetP g N B C w F) (ha : WI a) (hb : WI b) (hx : sendE B C a b = 0) (A : Option Addr) (c : Nat) (x : List Int) (hC : ∀ W', Fr F w W' → Kd.C (Kd.int .u8) W' A x.length x) (hm : x.length ≤ 1000000) (hN : N < 1000000) :
    Calls Try.prog 13 #[.pointer (some ⟨g, 0, none⟩), .int .i64 a, .int .i64 b, .slice A x.length c] w fun e w' => e = .returned (.int .i64 0) ∧ St w F w' [NetP g (N + 1) (updL B (kl a b) (B (kl a b) ++ [x])) C] := by
  have S0 := St.start1 NetP.loc h
  have HA := Aside0.mk (And.intro ha hb)
  obtain ⟨m1, m2, S1⟩ := (S0.alloc (cs := #[.int .i64 a, .int .i64 b]) (t := 102)).perm2.netOpen
  have HB0 := Aside0.mk (S1.blk 0 rfl)
  have HX := Aside0.mk hC
  have HM := Aside0.mk hm
  have HN := Aside0.mk hN
  clear S0 h hC hm hN
  unfold sendE at hx
  have hi : isB a b = true := by
    cases q : isB a b with
    | false => rw [if_neg (by rw [q]; decide)] at hx; exact absurd hx (by decide)
    | true => rfl
  rw [if_pos hi] at hx
  have hc : C (kl a b) = false := by
    cases q : C (kl a b) with
    | false => rfl
    | true => rw [if_pos q] at hx; exact absurd hx (by decide)
  rw [if_neg (by rw [hc]; decide)] at hx
  obtain ⟨ys, hys⟩ : ∃ ys, B (kl a b) = ys := ⟨_, rfl⟩
  obtain ⟨k, hk⟩ : ∃ k, ys.length = k := ⟨_, rfl⟩
  have hn : k < 256 := by
    by_cases q : 256 ≤ (B (kl a b)).length
    · rw [if_pos q] at hx; exact absurd hx (by decide)
    · rw [hys, hk] at q; omega
  obtain ⟨zs, hzs⟩ : ∃ zs, ys ++ [x] = zs := ⟨_, rfl⟩
  rw [hys, hzs]
  obtain ⟨n, hnx⟩ : ∃ n, x.length = n := ⟨_, rfl⟩
  rw [hnx] at HX HM ⊢
  have HNX := Aside0.mk hnx
  have HYS := Aside0.mk hys
  have HZS := Aside0.mk hzs
  have HK := Aside0.mk hk
  have HI := Aside0.mk hi
  have HC := Aside0.mk hc
  have HKN := Aside0.mk hn
  have hd : ¬ (256 : Int) ≤ (k : Int) := by omega
  clear hi hc hx ha hb hk hys hzs hn hnx
  go_enter Try.func13, Try.ntmps13
  go_wp2_with (first | (go_at_call 49; refine (net_none _ g m1 _ HB0.out).mono ?_; rintro e w1 ⟨rfl, rfl⟩) | (go_at_call 50; refine (net_is _ a b).mono ?_; rw [HI.out]; rintro e w1 ⟨rfl, hb1⟩; have S2 := S1.call hb1; have hl := fun n : Nat => (S2.drew n).cutLook 2 rfl HA.out.1 HA.out.2; rw [HC.out] at hl; have hl' : ∀ n : Nat, (Instr.lookup 53 (.map (some m2)) (.agg #[.int .i64 a, .int .i64 b]) false).run Try.prog (w1.drewN n) = .ok (.bool false) (w1.drewN n) := hl; have z0 : w1.cell? ⟨g, 0, none⟩ = some (.map (some m1)) := (blk_cell (S2.blk 0 rfl) 0).trans rfl; have fz0 : w1.frozen? ⟨g, 0, none⟩ = false := blk_frozen (S2.blk 0 rfl) 0; have z1 : w1.cell? ⟨g, 1, none⟩ = some (.map (some m2)) := (blk_cell (S2.blk 0 rfl) 1).trans rfl; have fz1 : w1.frozen? ⟨g, 1, none⟩ = false := blk_frozen (S2.blk 0 rfl) 1; have q0 : w1.cell? ⟨w.heap.size, 0, none⟩ = some (.int .i64 a) := (blk_cell (S2.blk 3 rfl) 0).trans rfl; have fq0 : w1.frozen? ⟨w.heap.size, 0, none⟩ = false := blk_frozen (S2.blk 3 rfl) 0; have q1 : w1.cell? ⟨w.heap.size, 1, none⟩ = some (.int .i64 b) := (blk_cell (S2.blk 3 rfl) 1).trans rfl; have fq1 : w1.frozen? ⟨w.heap.size, 1, none⟩ = false := blk_frozen (S2.blk 3 rfl) 1; have HS2 := Aside0.mk S2; clear hl hb1 S1 S2))
  go_quiet (fail)
  go_wp2
  obtain ⟨A1, c1, hl2, _, _⟩ := HS2.out.bagLookN 1 rfl HA.out.1 HA.out.2
  rw [HYS.out, HK.out] at hl2
  go_quiet (fail)
  go_wp2_with fail
  clear hl2 hl'
  refine wp_named ?_
  intro w2 hw2
  have S3 : St w F w2 (Pt g #[.map (some m1), .map (some m2)] 55 :: BagP m1 N B :: CutP m2 N C :: [Pt w.heap.size #[.int .i64 a, .int .i64 b] 102]) := by rw [hw2]; exact (HS2.out.drew _).drew _
  clear hw2 HS2 z0 z1 fz0 fz1 q0 q1 fq0 fq1
  have z0 : w2.cell? ⟨g, 0, none⟩ = some (.map (some m1)) := (blk_cell (S3.blk 0 rfl) 0).trans rfl; have fz0 : w2.frozen? ⟨g, 0, none⟩ = false := blk_frozen (S3.blk 0 rfl) 0; have z1 : w2.cell? ⟨g, 1, none⟩ = some (.map (some m2)) := (blk_cell (S3.blk 0 rfl) 1).trans rfl; have fz1 : w2.frozen? ⟨g, 1, none⟩ = false := blk_frozen (S3.blk 0 rfl) 1
  have q0 : w2.cell? ⟨w.heap.size, 0, none⟩ = some (.int .i64 a) := (blk_cell (S3.blk 3 rfl) 0).trans rfl; have fq0 : w2.frozen? ⟨w.heap.size, 0, none⟩ = false := blk_frozen (S3.blk 3 rfl) 0; have q1 : w2.cell? ⟨w.heap.size, 1, none⟩ = some (.int .i64 b) := (blk_cell (S3.blk 3 rfl) 1).trans rfl; have fq1 : w2.frozen? ⟨w.heap.size, 1, none⟩ = false := blk_frozen (S3.blk 3 rfl) 1
  go_region_law (first | (go_simp; go_at_call 51; refine Calls.named ?_; intro w3 hw3; have hB3 : Below w2.heap.size w2 w3 := (by rw [hw3]; repeat (first | exact Below.refl _ _ | apply below_drew1)); have S4 := S3.call hB3; clear hw3; have hcl := clone_calls A c x w3 (by rw [HNX.out]; exact HX.out _ S4.fr) (by have := HM.out; have := HNX.out; omega); rw [HNX.out] at hcl; refine hcl.mono ?_; clear hcl; rintro e w4 ⟨v, rfl, hR, hb⟩; obtain ⟨A4, c4, e4⟩ := Kd.R_slice hR; rw [HNX.out] at e4; subst e4; have S5 := S4.row hb hR; clear S4 hb hR hB3 z0 z1 fz0 fz1 q0 q1 fq0 fq1; have z0 : w4.cell? ⟨g, 0, none⟩ = some (.map (some m1)) := (blk_cell (S5.blk 1 rfl) 0).trans rfl; have fz0 : w4.frozen? ⟨g, 0, none⟩ = false := blk_frozen (S5.blk 1 rfl) 0; have z1 : w4.cell? ⟨g, 1, none⟩ = some (.map (some m2)) := (blk_cell (S5.blk 1 rfl) 1).trans rfl; have fz1 : w4.frozen? ⟨g, 1, none⟩ = false := blk_frozen (S5.blk 1 rfl) 1; have q0 : w4.cell? ⟨w.heap.size, 0, none⟩ = some (.int .i64 a) := (blk_cell (S5.blk 4 rfl) 0).trans rfl; have fq0 : w4.frozen? ⟨w.heap.size, 0, none⟩ = false := blk_frozen (S5.blk 4 rfl) 0; have q1 : w4.cell? ⟨w.heap.size, 1, none⟩ = some (.int .i64 b) := (blk_cell (S5.blk 4 rfl) 1).trans rfl; have fq1 : w4.frozen? ⟨w.heap.size, 1, none⟩ = false := blk_frozen (S5.blk 4 rfl) 1; have S6 := S5.alloc (cs := #[.slice A4 n c4]) (t := 22); have y0 : (w4.alloc (.cells #[.slice A4 n c4] 22)).cell? ⟨g, 0, none⟩ = some (.map (some m1)) := (blk_cell (S6.blk 2 rfl) 0).trans rfl; have fy0 : (w4.alloc (.cells #[.slice A4 n c4] 22)).frozen? ⟨g, 0, none⟩ = false := blk_frozen (S6.blk 2 rfl) 0; have y1 : (w4.alloc (.cells #[.slice A4 n c4] 22)).cell? ⟨g, 1, none⟩ = some (.map (some m2)) := (blk_cell (S6.blk 2 rfl) 1).trans rfl; have fy1 : (w4.alloc (.cells #[.slice A4 n c4] 22)).frozen? ⟨g, 1, none⟩ = false := blk_frozen (S6.blk 2 rfl) 1; have p0 : (w4.alloc (.cells #[.slice A4 n c4] 22)).cell? ⟨w.heap.size, 0, none⟩ = some (.int .i64 a) := (blk_cell (S6.blk 5 rfl) 0).trans rfl; have fp0 : (w4.alloc (.cells #[.slice A4 n c4] 22)).frozen? ⟨w.heap.size, 0, none⟩ = false := blk_frozen (S6.blk 5 rfl) 0; have p1 : (w4.alloc (.cells #[.slice A4 n c4] 22)).cell? ⟨w.heap.size, 1, none⟩ = some (.int .i64 b) := (blk_cell (S6.blk 5 rfl) 1).trans rfl; have fp1 : (w4.alloc (.cells #[.slice A4 n c4] 22)).frozen? ⟨w.heap.size, 1, none⟩ = false := blk_frozen (S6.blk 5 rfl) 1; obtain ⟨st, A7, c7, w7, hme, hg7, S7⟩ := (S6.front 3 rfl).bagEntry (by have := HN.out; unfold maxLen; omega) HA.out.1 HA.out.2; rw [HYS.out, HK.out] at hme S7; have hme' : (Instr.mapEntry 52 (.map (some m1)) (.agg #[.int .i64 a, .int .i64 b])).run Try.prog (w4.alloc (.cells #[.slice A4 n c4] 22)) = .ok (.tuple #[.slice A7 k c7, .int .i64 st]) w7 := hme; have HS7 := Aside0.mk S7; clear hme hg7 S5 S6 S7) | (obtain ⟨es, hes0, T0⟩ := (HS7.out.front 1 rfl).rowOpen; have hel : (rowsOf es).length = k := (by rw [← HK.out, hes0]; simp [rowsOf]); obtain ⟨ok, okp, p1, p2, p3, p4, p5⟩ := (((T0.front 2 rfl).ptVw rfl).front 1 rfl).append_rows; refine Kd.N_append_rows_step (Kd.raw 1) (w0 := w7) 0 (by rfl) (.tmp 41) (.tmp 44) 103 22 (.slice none 0 0) 24 rfl Try.underlying103 netInfo22 rfl (by decide) (by decide) (.slice A7 k c7) (rowsOf es) [[.slice A4 n c4]] (some ⟨w4.heap.size, 0, none⟩) 1 1 ok okp rfl rfl p1 p2 p3 p4 (Below.refl _ _) (Nat.zero_le _) (by rw [hel]; have := HKN.out; omega) ?_; intro v1 w8 hN _ hg _; obtain ⟨A8, c8, e8⟩ := Kd.N_slice hN; obtain ⟨m8, hm8⟩ : ∃ m8, (rowsOf es ++ [[(.slice A4 n c4 : Value)]]).length = m8 := ⟨_, rfl⟩; rw [hm8] at e8; subst e8; have S8 := St.rowMore (l := [_, _, _, _]) ((p5 _ _ hN hg).front 2 rfl).rw_sl; rw [← hes0, HZS.out] at S8; clear p1 p2 p3 p4 p5 hN hg T0 hel hes0 hm8; obtain ⟨w9, hes, _, S9⟩ := (S8.front 1 rfl).bagStore; have hes' : (Instr.entryStore 52 (.map (some m1)) (.int .i64 st) (.slice A8 m8 c8)).run Try.prog w8 = .ok () w9 := hes; have HS9 := Aside0.mk S9; clear hes S8 S9))
  all_goals
    go_wp2
    go_ret
    exact ⟨rfl, ((HS9.out.front 1 rfl).netShut (Nat.le_refl _) (Nat.le_succ _)).take 1⟩
end

end Go.Proofs.Ythkhfhhbldjdlaa.Npl
