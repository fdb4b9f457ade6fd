/- Printed by this session's wip/drive.py over the translation; some functions by hand. -/
import Derived.Test.YtlihfiajbhpokaaZLdox0
namespace Go.Proofs.Ytlihfiajbhpokaa.Ldo
open Go.RowKit Go.Proofs.YtlihfiajbhpokaaW.PrintWords Go.Proofs.YtlihfiajbhpokaaW.PrintLast Go.Proofs.YtlihfiajbhpokaaW.PrintMore
attribute [local go_sem] max2_int min2_int max_two min_two max_three min_three max_four min_four
set_option linter.unusedVariables false
set_option linter.unusedSimpArgs false
structure Fr (F : Nat → Prop) (w w' : World) : Prop where
  os : w'.os = w.os
  tape : w'.tape = w.tape
  output : w'.output = w.output
  size : w.heap.size ≤ w'.heap.size
  block : ∀ k, k < w.heap.size → ¬ F k → w'.heap[k]? = w.heap[k]?
theorem Fr.refl (F : Nat → Prop) (w : World) : Fr F w w := ⟨rfl, rfl, rfl, Nat.le_refl _, fun _ _ _ => rfl⟩
theorem Fr.trans {F F' : Nat → Prop} {w w1 w2 : World} (h : Fr F w w1) (k : Fr F' w1 w2) (hF : ∀ i, F' i → F i ∨ w.heap.size ≤ i) : Fr F w w2 :=
  ⟨k.os.trans h.os, k.tape.trans h.tape, k.output.trans h.output, Nat.le_trans h.size k.size, fun i hi hn => (k.block i (Nat.lt_of_lt_of_le hi h.size) (fun hf => (hF i hf).elim hn (fun hh => absurd hi (Nat.not_lt.2 hh)))).trans (h.block i hi hn)⟩
theorem Fr.of_below {F : Nat → Prop} {w w' : World} (h : Below w.heap.size w w') : Fr F w w' := ⟨h.os, h.tape, h.output, h.size, fun k hk _ => h.block k hk⟩
theorem Fr.below {w w' : World} (h : Fr (fun _ => False) w w') : Below w.heap.size w w' := ⟨h.os, h.tape, h.output, h.size, fun k hk => h.block k hk (fun f => f)⟩
theorem Fr.mono {F F' : Nat → Prop} {w w' : World} (h : Fr F w w') (hF : ∀ k, F k → F' k) : Fr F' w w' := ⟨h.os, h.tape, h.output, h.size, fun k hk hn => h.block k hk (fun hf => hn (hF k hf))⟩
theorem Fr.set {F : Nat → Prop} {w w1 : World} (h : Fr F w w1) {p : Addr} (hg : F p.block ∨ w.heap.size ≤ p.block) (u : Value) : Fr F w (w1.setCell p u) :=
  ⟨h.os, h.tape, h.output, by simpa [World.setCell] using h.size, fun k hk hn => (Below.heap_setCell w1 p u k (fun e => by rcases hg with hg | hg; exact hn (e ▸ hg); omega)).trans (h.block k hk hn)⟩
abbrev Part := World → (Nat → Prop) → Prop
structure Loc (A : Part) : Prop where
  step : ∀ {w w' : World} {F : Nat → Prop}, A w F → w.heap.size ≤ w'.heap.size → (∀ k, F k → k < w.heap.size → w'.heap[k]? = w.heap[k]?) → A w' F
  bound : ∀ {w : World} {F : Nat → Prop}, A w F → A w (fun k => F k ∧ k < w.heap.size)
  mono : ∀ {w : World} {F F' : Nat → Prop}, A w F → (∀ k, F k → F' k) → A w F'
def Stars : List Part → (Nat → Prop) → World → Prop
  | [], _, _ => True
  | A :: l, G, w => ∃ F : Nat → Prop, (∀ k, F k → G k) ∧ Loc A ∧ A w F ∧ Stars l (fun k => G k ∧ ¬ F k) w
theorem Stars.mono : ∀ {l : List Part} {G G' : Nat → Prop} {w : World}, Stars l G w → (∀ k, G k → G' k) → Stars l G' w
  | [], _, _, _, _, _ => trivial
  | _ :: _, _, _, _, ⟨F, h1, h2, h3, h4⟩, h => ⟨F, fun k hk => h k (h1 k hk), h2, h3, Stars.mono h4 (fun k hk => ⟨h k hk.1, hk.2⟩)⟩
theorem Stars.step : ∀ {l : List Part} {G : Nat → Prop} {w w' : World}, Stars l G w → w.heap.size ≤ w'.heap.size → (∀ k, G k → k < w.heap.size → w'.heap[k]? = w.heap[k]?) → Stars l G w'
  | [], _, _, _, _, _, _ => trivial
  | _ :: _, _, _, _, ⟨F, h1, h2, h3, h4⟩, hs, h => ⟨F, h1, h2, h2.step h3 hs (fun k hk hl => h k (h1 k hk) hl), Stars.step h4 hs (fun k hk hl => h k hk.1 hl)⟩
theorem Stars.bound : ∀ {l : List Part} {G : Nat → Prop} {w : World}, Stars l G w → Stars l (fun k => G k ∧ k < w.heap.size) w
  | [], _, _, _ => trivial
  | _ :: _, _, _, ⟨F, h1, h2, h3, h4⟩ => ⟨fun k => F k ∧ k < _, fun k hk => ⟨h1 k hk.1, hk.2⟩, h2, h2.bound h3, Stars.mono (Stars.bound h4) (fun k hk => ⟨⟨hk.1.1, hk.2⟩, fun hf => hk.1.2 hf.1⟩)⟩
theorem Stars.swap {A B : Part} {l : List Part} {G : Nat → Prop} {w : World} : Stars (A :: B :: l) G w → Stars (B :: A :: l) G w := by
  rintro ⟨F, h1, h2, h3, F', k1, k2, k3, k4⟩
  exact ⟨F', fun k hk => (k1 k hk).1, k2, k3, F, fun k hk => ⟨h1 k hk, fun hf => (k1 k hf).2 hk⟩, h2, h3, k4.mono (fun k hk => ⟨⟨hk.1.1, hk.2⟩, hk.1.2⟩)⟩
theorem Stars.front : ∀ (i : Nat) {l : List Part} {A : Part} {G : Nat → Prop} {w : World}, Stars l G w → l[i]? = some A → Stars (A :: l.eraseIdx i) G w
  | 0, _ :: _, _, _, _, h, e => by cases e; exact h
  | i + 1, B :: l, A, G, w, ⟨F, h1, h2, h3, h4⟩, e => by
    have := Stars.front i h4 (by simpa using e)
    exact Stars.swap ⟨F, h1, h2, h3, this⟩
theorem Stars.loc : ∀ {l : List Part}, Loc (fun w F => Stars l F w)
  | [] => ⟨fun _ _ _ => trivial, fun _ => trivial, fun _ _ => trivial⟩
  | _ :: _ => ⟨fun h hs hh => Stars.step h hs hh, fun h => Stars.bound h, fun h hh => Stars.mono h hh⟩
structure St (W : World) (F0 : Nat → Prop) (w : World) (l : List Part) : Prop where
  fr : Fr F0 W w
  st : Stars l (fun k => F0 k ∨ W.heap.size ≤ k) w
section
variable {W w w' : World} {F0 : Nat → Prop} {l : List Part} {A B : Part}
theorem St.start (W : World) (F0 : Nat → Prop) : St W F0 W [] := ⟨Fr.refl _ _, trivial⟩
theorem St.start1 (hl : Loc A) (h : A W F0) : St W F0 W [A] := ⟨Fr.refl _ _, F0, fun _ hk => .inl hk, hl, h, trivial⟩
theorem St.call (h : St W F0 w l) (hb : Below w.heap.size w w') : St W F0 w' l := ⟨h.fr.trans (Fr.of_below (F := fun _ => False) hb) (fun _ hk => hk.elim), h.st.step hb.size (fun k _ hl => hb.block k hl)⟩
theorem St.drew (h : St W F0 w l) (n : Nat) : St W F0 (w.drewN n) l := h.call (pw_below_drewN (Below.refl _ _) n)
theorem St.drew1 (h : St W F0 w l) : St W F0 w.drew l := h.call (below_drew (Below.refl _ _))
theorem St.new (h : St W F0 w l) (hb : Below w.heap.size w w') (hl : Loc A) (ha : A w' (fun k => w.heap.size ≤ k)) : St W F0 w' (A :: l) := by
  have h' := h.call hb
  refine ⟨h'.fr, fun k => w.heap.size ≤ k, fun k hk => .inr (Nat.le_trans h.fr.size hk), hl, ha, ?_⟩
  have hs := h.st.bound.step hb.size (fun k hk hl => hb.block k hl)
  exact hs.mono (fun k hk => ⟨hk.1, by omega⟩)
theorem St.front (h : St W F0 w l) (i : Nat) (e : l[i]? = some A) : St W F0 w (A :: l.eraseIdx i) := ⟨h.fr, h.st.front i e⟩
theorem St.perm2 (h : St W F0 w (A :: B :: l)) : St W F0 w (B :: A :: l) := ⟨h.fr, h.st.swap⟩
theorem St.drop (h : St W F0 w (A :: l)) : St W F0 w l := by
  obtain ⟨h0, F, h1, h2, h3, h4⟩ := h
  exact ⟨h0, h4.mono (fun k hk => hk.1)⟩
theorem St.imp {A' : Part} (h : St W F0 w (A :: l)) (hl : Loc A') (hi : ∀ F, A w F → A' w F) : St W F0 w (A' :: l) := by
  obtain ⟨h0, F, h1, h2, h3, h4⟩ := h
  exact ⟨h0, F, h1, hl, hi F h3, h4⟩
theorem St.get (h : St W F0 w l) (i : Nat) (e : l[i]? = some A) : ∃ F, A w F := by
  obtain ⟨h0, F, h1, h2, h3, h4⟩ := h.front i e
  exact ⟨F, h3⟩
theorem St.upd (h : St W F0 w (A :: l)) : ∃ F, A w F ∧ (∀ k, F k → k < w.heap.size ∧ (F0 k ∨ W.heap.size ≤ k)) ∧ ∀ (w' : World) (A' : Part) (F' : Nat → Prop), Fr F w w' → (∀ k, F' k → F k ∨ w.heap.size ≤ k) → Loc A' → A' w' F' → St W F0 w' (A' :: l) := by
  obtain ⟨h0, hst⟩ := h
  obtain ⟨F, h1, h2, h3, h4⟩ := hst.bound
  refine ⟨F, h3, fun k hk => ⟨(h1 k hk).2, (h1 k hk).1⟩, fun w' A' F' hf hF' hl ha => ?_⟩
  refine ⟨h0.trans hf (fun k hk => (h1 k hk).1), F', fun k hk => ?_, hl, ha, ?_⟩
  · rcases hF' k hk with h | h
    · exact (h1 k h).1
    · exact .inr (Nat.le_trans h0.size h)
  · exact (h4.step hf.size (fun k hk hl => hf.block k hl hk.2)).mono (fun k hk => ⟨hk.1.1, fun hh => by rcases hF' k hh with h | h; exact hk.2 h; have := hk.1.2; omega⟩)
theorem St.below (h : St W (fun _ => False) w l) : Below W.heap.size W w := h.fr.below
theorem St.split (h : St W F0 w ((fun w F => Stars [A, B] F w) :: l)) : St W F0 w (A :: B :: l) := by
  obtain ⟨h0, G, h1, h2, ⟨F, k1, k2, k3, F', j1, j2, j3, _⟩, h4⟩ := h
  exact ⟨h0, F, fun k hk => h1 k (k1 k hk), k2, k3, F', fun k hk => ⟨h1 k (j1 k hk).1, (j1 k hk).2⟩, j2, j3, h4.mono (fun k hk => ⟨⟨hk.1, fun hf => hk.2 (k1 k hf)⟩, fun hf => hk.2 (j1 k hf).1⟩)⟩
end
def Pt (g : Nat) (cs : Array Value) (t : TypeId) : Part := fun w F => F g ∧ w.heap[g]? = some (.cells cs t (0, 0))
theorem Pt.loc {g : Nat} {cs : Array Value} {t : TypeId} : Loc (Pt g cs t) :=
  ⟨fun h _ hh => ⟨h.1, (hh g h.1 (blk_lt h.2)).trans h.2⟩, fun h => ⟨⟨h.1, blk_lt h.2⟩, h.2⟩, fun h hh => ⟨hh g h.1, h.2⟩⟩
def Rw {α : Type} (d : Kd α) (e : Nat) (v : Value) (xs : List α) : Part := fun w F => d.R e w 0 F v xs
theorem Rw.loc {α : Type} {d : Kd α} {e : Nat} {v : Value} {xs : List α} : Loc (Rw d e v xs) :=
  ⟨fun h _ hh => Kd.R_step h hh, fun h => Kd.R_mono (Kd.R_bound h) (fun _ hk => ⟨hk.1, hk.2.2.1⟩), fun h hh => Kd.R_mono h hh⟩
def Sem (P : World → Prop) : Part := fun w F => ∀ w' : World, w.heap.size ≤ w'.heap.size → (∀ k, F k → k < w.heap.size → w'.heap[k]? = w.heap[k]?) → P w'
theorem Sem.loc {P : World → Prop} : Loc (Sem P) :=
  ⟨fun h hs hh w' hs' h' => h w' (Nat.le_trans hs hs') (fun k hk hl => (h' k hk (Nat.lt_of_lt_of_le hl hs)).trans (hh k hk hl)), fun h w' hs h' => h w' hs (fun k hk hl => h' k ⟨hk, hl⟩ hl), fun h hh w' hs h' => h w' hs (fun k hk hl => h' k (hh k hk) hl)⟩
theorem Sem.now {P : World → Prop} {w : World} {F : Nat → Prop} (h : Sem P w F) : P w := h w (Nat.le_refl _) (fun _ _ _ => rfl)
section
variable {W w w' : World} {F0 : Nat → Prop} {l : List Part} {g g' : Nat} {cs cs' : Array Value} {t t' : TypeId}
theorem St.box (h : St W F0 w l) (e : g = w.heap.size) (hb : Below w.heap.size w w') (hg : w'.heap[g]? = some (.cells cs t (0, 0))) : St W F0 w' (Pt g cs t :: l) := h.new hb Pt.loc ⟨Nat.le_of_eq e.symm, hg⟩
theorem St.row {α : Type} {d : Kd α} {e : Nat} {v : Value} {xs : List α} {ok : Nat → Prop} (h : St W F0 w l) (hb : Below w.heap.size w w') (hr : d.R e w' w.heap.size ok v xs) : St W F0 w' (Rw d e v xs :: l) := h.new hb Rw.loc (Kd.R_lower (Kd.R_mono (Kd.R_bound hr) (fun _ hk => hk.2.1)) (Nat.zero_le _))
theorem St.put (h : St W F0 w (Pt g cs t :: l)) (i : Nat) (u : Value) (e : cs.setIfInBounds i u = cs') : St W F0 (w.setCell ⟨g, i, none⟩ u) (Pt g cs' t :: l) := by
  obtain ⟨F, hA, hF, hu⟩ := h.upd
  refine hu _ _ F (Fr.set (Fr.refl _ _) (.inl hA.1) u) (fun k hk => .inl hk) Pt.loc ⟨hA.1, blk_put hA.2 i u e⟩
theorem St.blk (h : St W F0 w l) (i : Nat) (e : l[i]? = some (Pt g cs t)) : w.heap[g]? = some (.cells cs t (0, 0)) := by
  obtain ⟨F, h1⟩ := h.get i e
  exact h1.2
theorem St.rd {α : Type} {d : Kd α} {q : Nat} {v : Value} {xs : List α} (h : St W F0 w l) (i : Nat) (e : l[i]? = some (Rw d q v xs)) : ∃ ok, d.R q w 0 ok v xs := h.get i e
end
theorem Calls.named {P : Program} {f : FuncId} {args : Array Value} {w : World} {R : Ending → World → Prop} (h : ∀ w', w' = w → Calls P f args w' R) : Calls P f args w R := h _ rfl
theorem St.alloc {W w : World} {F0 : Nat → Prop} {l : List Part} {cs : Array Value} {t : TypeId} (h : St W F0 w l) : St W F0 (w.alloc (.cells cs t)) (Pt w.heap.size cs t :: l) := h.box rfl (below_alloc (Below.refl _ _) _) (blk_new w _)
theorem Stars.append : ∀ {l l' : List Part} {G G' : Nat → Prop} {w : World}, Stars l G w → Stars l' G' w → (∀ k, G k → ¬ G' k) → Stars (l ++ l') (fun k => G k ∨ G' k) w
  | [], _, _, _, _, _, h', _ => h'.mono (fun _ hk => .inr hk)
  | _ :: _, _, _, _, _, ⟨F, h1, h2, h3, h4⟩, h', hd => ⟨F, fun k hk => .inl (h1 k hk), h2, h3, (Stars.append h4 h' (fun k hk => hd k hk.1)).mono (fun k hk => hk.elim (fun h => ⟨.inl h.1, h.2⟩) (fun h => ⟨.inr h, fun hf => hd k (h1 k hf) h⟩))⟩
theorem Stars.take : ∀ (n : Nat) {l : List Part} {G : Nat → Prop} {w : World}, Stars l G w → Stars (l.take n) G w
  | 0, _, _, _, _ => trivial
  | _ + 1, [], _, _, _ => trivial
  | n + 1, _ :: _, _, _, ⟨F, h1, h2, h3, h4⟩ => ⟨F, h1, h2, h3, Stars.take n h4⟩
section
variable {W w w' : World} {F0 : Nat → Prop} {l l' : List Part} {A B : Part}
theorem St.take (h : St W F0 w l) (n : Nat) : St W F0 w (l.take n) := ⟨h.fr, h.st.take n⟩
theorem St.join0 (h : St W F0 w l) (k : St w (fun _ => False) w' l') : St W F0 w' (l' ++ l) := by
  have hb := k.below
  refine ⟨(h.call hb).fr, ?_⟩
  have h1 := k.st.mono (G' := fun i => w.heap.size ≤ i) (fun i hi => hi.elim (fun f => f.elim) (fun x => x))
  have h2 := h.st.bound.step hb.size (fun i _ hl => hb.block i hl)
  exact (Stars.append h1 h2 (fun i hi hi' => by have := hi'.2; omega)).mono (fun i hi => hi.elim (fun h3 => .inr (Nat.le_trans h.fr.size h3)) (fun h3 => h3.1))
theorem St.join (h : St W F0 w (A :: l)) : ∃ F, A w F ∧ (∀ k, F k → k < w.heap.size) ∧ ∀ (w' : World) (l' : List Part), St w F w' l' → St W F0 w' (l' ++ l) := by
  obtain ⟨h0, hst⟩ := h
  obtain ⟨F, h1, h2, h3, h4⟩ := hst.bound
  refine ⟨F, h3, fun k hk => (h1 k hk).2, fun w' l' k => ?_⟩
  refine ⟨h0.trans k.fr (fun i hi => (h1 i hi).1), ?_⟩
  have h5 := h4.step k.fr.size (fun i hi hl => k.fr.block i hl hi.2)
  exact (Stars.append k.st h5 (fun i hi hi' => hi.elim hi'.2 (fun hh => by have := hi'.1.2; omega))).mono (fun i hi => hi.elim (fun hh => hh.elim (fun hf => (h1 i hf).1) (fun hs => .inr (Nat.le_trans h0.size hs))) (fun hh => hh.1.1))
end
theorem Fr.of_grown {F : Nat → Prop} {w w' : World} {row : Option Nat} (h : w.grownBy w' row) (hr : ∀ k, row = some k → F k) : Fr F w w' := ⟨h.os, h.tape, h.output, h.size, fun k hk hn => h.block k hk (fun e => hn (hr k e.symm))⟩
section
variable {W w : World} {F0 : Nat → Prop} {l : List Part} {α : Type} {d : Kd α} {e n : Nat} {v : Value} {A : Option Addr} {xs ys : List α}
end
section
variable {P : Program}
theorem cut_h' (t e : TypeId) (k : IntKind) (z : Nat) (ht : P.underlying t = some (.slice e)) (hs : (P.info? e).map (·.size) = some z) (A : Option Addr) (n c : Nat) (h : Int) (h0 : 0 ≤ h) (hc : h ≤ c) (W : World) :
    (Instr.slice t (.slice A n c) none (some (.int k h)) none).run P W = .ok (.slice A h.toNat c) W := by
  cases hq : P.info? e with
  | none => simp [hq] at hs
  | some i =>
    have hi : i.size = z := by simpa [hq] using hs
    have hel : P.elem t = e := by simp [Program.elem, ht]
    have hu : P.underlying t = some (.slice (P.elem t)) := by rw [hel]; exact ht
    have ha : (A.map fun x => x.add 0) = A := by cases A <;> simp [Addr.add]
    rw [run_slice_h W t A n c hu k h h0 hc, hel]
    simp [sizeOf, typeInfo, hq, hi, sliced, Result.andThen, ha]
end
theorem Stars.get {l : List Part} {G : Nat → Prop} {w : World} {A : Part} (h : Stars l G w) (i : Nat) (e : l[i]? = some A) : ∃ F, A w F := by
  obtain ⟨F, _, _, h3, _⟩ := h.front i e
  exact ⟨F, h3⟩
theorem Stars.rd {α : Type} {d : Kd α} {q : Nat} {v : Value} {xs : List α} {l : List Part} {G : Nat → Prop} {w : World} (h : Stars l G w) (i : Nat) (e : l[i]? = some (Rw d q v xs)) : ∃ ok, d.R q w 0 ok v xs := h.get i e
def OwP (e sz : Nat) (v : Value) (n : Nat) (cs : List Value) : Part := fun w F => (∀ k, v.ownBlock = some k → F k) ∧ w.ownsRow 0 e sz v n cs ∧ ∀ u ∈ cs, u.oneCell' = true
theorem OwP.loc {e sz n : Nat} {v : Value} {cs : List Value} : Loc (OwP e sz v n cs) :=
  ⟨fun ⟨h1, h2, h3⟩ hs hh => ⟨h1, own_move h2 (fun k hk => hh k (h1 k hk) (h2.lt k hk).2), h3⟩, fun ⟨h1, h2, h3⟩ => ⟨fun k hk => ⟨h1 k hk, (h2.lt k hk).2⟩, h2, h3⟩, fun ⟨h1, h2, h3⟩ hh => ⟨fun k hk => hh k (h1 k hk), h2, h3⟩⟩
theorem OwP.nil {e sz : Nat} {w : World} {F : Nat → Prop} : OwP e sz (.slice none 0 0) 0 [] w F := ⟨fun k hk => by simp [Value.ownBlock] at hk, World.ownsRow_nil _ _ _ _, fun _ h => by cases h⟩
theorem OwP.block {e sz n : Nat} {v : Value} {cs : List Value} {w : World} {F : Nat → Prop} (h : OwP e sz v n cs w F) : (v = .slice none 0 0 ∧ n = 0 ∧ cs = []) ∨ ∃ g cap cur, v = .slice (some ⟨g, 0, none⟩) n cap ∧ F g ∧ w.heap[g]? = some (.cells cur e (0, 0)) ∧ n ≤ cap ∧ cap ≤ maxLen ∧ cur.size = cap * sz ∧ cur.toList.take (n * sz) = cs ∧ cs.length = n * sz := by
  obtain ⟨h1, ⟨hl, h2⟩, h3⟩ := h
  rcases h2 with ⟨rfl, rfl⟩ | ⟨g, cap, cur, rfl, _, hh, r1, r2, r3, r4⟩
  · exact .inl ⟨rfl, rfl, List.eq_nil_of_length_eq_zero (by rw [hl]; simp)⟩
  · exact .inr ⟨g, cap, cur, rfl, h1 g rfl, hh, r1, r2, r3, r4, hl⟩
theorem OwP.of {e sz n cap g : Nat} {cs : List Value} {cur : Array Value} {w : World} {F : Nat → Prop} (hF : F g) (hh : w.heap[g]? = some (.cells cur e (0, 0))) (h1 : n ≤ cap) (h2 : cap ≤ maxLen) (h3 : cur.size = cap * sz) (h4 : cur.toList.take (n * sz) = cs) (h5 : cs.length = n * sz) (h6 : ∀ u ∈ cs, u.oneCell' = true) : OwP e sz (.slice (some ⟨g, 0, none⟩) n cap) n cs w F :=
  ⟨fun k hk => by have : g = k := by simpa [Value.ownBlock] using hk
                  exact this ▸ hF, ⟨h5, .inr ⟨g, cap, cur, rfl, Nat.zero_le _, hh, h1, h2, h3, h4⟩⟩, h6⟩
theorem cells_at {w : World} {g : Nat} {cur : Array Value} {t : TypeId} {cs : List Value} {m : Nat} (hh : w.heap[g]? = some (.cells cur t (0, 0))) (h4 : cur.toList.take m = cs) : ∀ j v, cs[j]? = some v → w.cell? ⟨g, 0 + j, none⟩ = some v := fun j v hj => by
  rw [Nat.zero_add, blk_cell hh j]
  rw [← h4, List.getElem?_take] at hj
  split at hj
  · simpa using hj
  · cases hj
theorem heap_setCells {w : World} {g : Nat} {t : TypeId} : ∀ (vs : List Value) (o : Nat) (cur : Array Value), w.heap[g]? = some (.cells cur t (0, 0)) → o + vs.length ≤ cur.size → ∃ cur' : Array Value, (w.setCells g o vs).heap[g]? = some (.cells cur' t (0, 0)) ∧ cur'.size = cur.size ∧ cur'.toList = cur.toList.take o ++ vs ++ cur.toList.drop (o + vs.length) := by
  intro vs
  induction vs generalizing w with
  | nil => intro o cur h ho; exact ⟨cur, h, rfl, by simp⟩
  | cons v vs ih =>
    intro o cur h ho
    have h1 : (w.setCell ⟨g, o, none⟩ v).heap[g]? = some (.cells (cur.setIfInBounds o v) t (0, 0)) := blk_put (cs := cur) h o v rfl
    obtain ⟨cur', k1, k2, k3⟩ := ih (w := w.setCell ⟨g, o, none⟩ v) (o + 1) (cur.setIfInBounds o v) h1 (by simp at ho ⊢; omega)
    refine ⟨cur', by rw [World.setCells]; exact k1, by rw [k2]; simp, ?_⟩
    have hlt : o < cur.toList.length := by simp at ho ⊢; omega
    rw [k3, Array.toList_setIfInBounds, List.take_set, List.drop_set]
    rw [if_pos (by omega)]
    have e1 : (cur.toList.take (o + 1)).set o v = cur.toList.take o ++ [v] := by
      rw [List.take_add_one, List.getElem?_eq_getElem hlt]
      show (cur.toList.take o ++ [cur.toList[o]]).set o v = _
      rw [List.set_append_right _ _ (by rw [List.length_take]; omega), List.length_take, Nat.min_eq_left (Nat.le_of_lt hlt), Nat.sub_self]
      rfl
    rw [e1]
    simp [Nat.add_assoc, Nat.add_comm 1]
theorem setCells_other {g : Nat} : ∀ (vs : List Value) (o : Nat) (w : World) (k : Nat), k ≠ g → (w.setCells g o vs).heap[k]? = w.heap[k]?
  | [], _, _, _, _ => rfl
  | v :: vs, o, w, k, h => by rw [World.setCells, setCells_other vs (o + 1) _ k h]; exact Below.heap_setCell w ⟨g, o, none⟩ v k (fun e => h e)
theorem setCells_keeps {g : Nat} : ∀ (vs : List Value) (o : Nat) (w : World), (w.setCells g o vs).os = w.os ∧ (w.setCells g o vs).tape = w.tape ∧ (w.setCells g o vs).output = w.output ∧ (w.setCells g o vs).heap.size = w.heap.size
  | [], _, _ => ⟨rfl, rfl, rfl, rfl⟩
  | v :: vs, o, w => by
    obtain ⟨h1, h2, h3, h4⟩ := setCells_keeps (g := g) vs (o + 1) (w.setCell ⟨g, o, none⟩ v)
    exact ⟨h1, h2, h3, h4.trans (by simp [World.setCell])⟩
theorem Fr.setCells {F : Nat → Prop} {w w1 : World} (h : Fr F w w1) {g : Nat} (hg : F g ∨ w.heap.size ≤ g) (o : Nat) (vs : List Value) : Fr F w (w1.setCells g o vs) := by
  obtain ⟨h1, h2, h3, h4⟩ := setCells_keeps (g := g) vs o w1
  exact ⟨h1.trans h.os, h2.trans h.tape, h3.trans h.output, by rw [h4]; exact h.size, fun k hk hn => (setCells_other vs o w1 k (fun e => by subst e; rcases hg with hg | hg; exact hn hg; omega)).trans (h.block k hk hn)⟩
theorem ins_list {cur vs : List Value} {i n z : Nat} (hi : i ≤ n) (hl : vs.length = z) (hc : (n + 1) * z ≤ cur.length) (cs : List Value) (hcs : cur.take (n * z) = cs) :
    ((cur.take (i * z + z) ++ cs.drop (i * z) ++ cur.drop ((i * z + z) + (cs.drop (i * z)).length)).take (i * z) ++ vs ++ (cur.take (i * z + z) ++ cs.drop (i * z) ++ cur.drop ((i * z + z) + (cs.drop (i * z)).length)).drop (i * z + vs.length)).take ((n + 1) * z) = cs.take (i * z) ++ vs ++ cs.drop (i * z) := by
  have h1 : i * z ≤ n * z := Nat.mul_le_mul_right _ hi
  have h2 : (n + 1) * z = n * z + z := Nat.succ_mul n z
  have h3 : cs.length = n * z := by rw [← hcs, List.length_take]; omega
  have h4 : (cs.drop (i * z)).length = n * z - i * z := by rw [List.length_drop, h3]
  rw [h4]
  have e1 : (cur.take (i * z + z) ++ cs.drop (i * z) ++ cur.drop ((i * z + z) + (n * z - i * z))).take (i * z) = cs.take (i * z) := by
    rw [List.append_assoc, List.take_append_of_le_length (by rw [List.length_take]; omega), List.take_take, Nat.min_eq_left (by omega), ← hcs, List.take_take, Nat.min_eq_left h1]
  have e2 : (cur.take (i * z + z) ++ cs.drop (i * z) ++ cur.drop ((i * z + z) + (n * z - i * z))).drop (i * z + vs.length) = cs.drop (i * z) ++ cur.drop ((i * z + z) + (n * z - i * z)) := by
    rw [hl, List.append_assoc, List.drop_append_of_le_length (by rw [List.length_take]; omega), List.drop_eq_nil_of_le (by rw [List.length_take]; omega), List.nil_append]
  rw [e1, e2, ← List.append_assoc, List.take_append_of_le_length (by simp only [List.length_append, List.length_take, h3, hl, h4]; omega), List.take_of_length_le (by simp only [List.length_append, List.length_take, h3, hl, h4]; omega)]
theorem cut_lo3 {P : Program} (t e : TypeId) (z : Nat) (ht : P.underlying t = some (.slice e)) (hs : (P.info? e).map (·.size) = some z) (A : Option Addr) (n c : Nat) (j : Int) (h0 : 0 ≤ j) (hc : j ≤ n) (W : World) :
    (Instr.slice t (.slice A n c) (some (.int .i64 j)) none none).run P W = .ok (.slice (if c = j.toNat then A else A.map (·.add (j.toNat * z))) (n - j.toNat) (c - j.toNat)) W := by
  cases hq : P.info? e with
  | none => simp [hq] at hs
  | some i =>
    have hi : i.size = z := by simpa [hq] using hs
    have hel : P.elem t = e := by simp [Program.elem, ht]
    have hu : P.underlying t = some (.slice (P.elem t)) := by rw [hel]; exact ht
    rw [run_slice_l W t A n c hu .i64 j h0 hc, hel]
    simp [sizeOf, typeInfo, hq, hi, sliced, Result.andThen]
theorem inf_row : (Try.prog.info? 115).map (fun i => (i.zero, i.size, i.bytes)) = some (some (.agg #[.int .i64 0, .slice none 0 0]), 2, 32) := by kernel_rfl
set_option maxHeartbeats 8000000 in
set_option maxRecDepth 100000 in
theorem ins_end_row (W : World) (F : Nat → Prop) (v : Value) (n gv : Nat) (cs vs : List Value) (h : OwP 115 2 v n cs W F) (hn : n ≤ 100000) (hv : W.heap[gv]? = some (.cells vs.toArray 115 (0, 0))) (hvl : vs.length = 2) (hv1 : ∀ u ∈ vs, u.oneCell' = true) :
    Calls Try.prog 73 #[v, .int .i64 n, .slice (some ⟨gv, 0, none⟩) 1 1] W fun e w' => ∃ v', e = .returned v' ∧ St W F w' [OwP 115 2 v' (n + 1) (cs ++ vs)] := by
  have ht := Try.underlying105
  obtain ⟨i0, hi0, hz0, hzs, hzb⟩ := info_parts inf_row
  have H := Aside0.mk h
  have hz2 : ((n : Int) == (n : Int)) = true := by simp
  have HV := Aside0.mk (And.intro hv (And.intro hvl hv1))
  have HN := Aside0.mk hn
  obtain ⟨v', w', hrun, hO, hg, _, hat⟩ := run_append_own_at (P := Try.prog) W 0 105 105 115 i0 _ 2 32 ht hi0 hz0 hzs hzb (by rfl) (by decide) v n cs h.2.1 ⟨gv, 0, none⟩ 1 1 vs (by rw [hvl]) (fun j u hj => by rw [Addr.add_lit, Nat.zero_add, blk_cell hv j]; simpa using hj) hv1 (by unfold maxLen; omega) (by omega) (Nat.zero_le _)
  have HO := Aside0.mk hO
  have HG := Aside0.mk hg
  have HA := Aside0.mk hat
  have hcut : ∃ A9 m9 c9, ∀ w : World, (Instr.slice 105 v (some (.int .i64 n)) none none).run Try.prog w = .ok (.slice A9 m9 c9) w := by
    rcases h.block with ⟨rfl, rfl, rfl⟩ | ⟨g, cap, cur, rfl, _, hh, h1, _, _, _, _⟩
    · exact ⟨_, _, _, fun w => cut_lo3 105 115 2 ht (by kernel_rfl) none 0 0 0 (by omega) (by omega) w⟩
    · exact ⟨_, _, _, fun w => cut_lo3 105 115 2 ht (by kernel_rfl) _ n cap n (by omega) (by omega) w⟩
  obtain ⟨A9, m9, c9, hcut⟩ := hcut
  obtain ⟨Av, cv, hvv⟩ : ∃ Av cv, v = .slice Av n cv := by
    rcases h.block with ⟨rfl, rfl, _⟩ | ⟨g, cap, cur, rfl, _⟩
    · exact ⟨_, _, rfl⟩
    · exact ⟨_, _, rfl⟩
  subst hvv
  clear h hv hvl hv1 hn hi0 hz0 hzs hzb hO hg hat
  go_enter Try.func73, Try.ntmps73
  go_wp2_with (at_builtin; refine Lib.wpList_append_run _ rfl _ _ _ _ rfl _ _ rfl rfl _ _ hrun ?_)
  go_ret
  have hfr : Fr F W w' := Fr.of_grown HG.out (fun k hk => H.out.1 k hk)
  refine ⟨v', rfl, hfr, fun k => F k ∨ W.heap.size ≤ k, fun k hk => hk, OwP.loc, ⟨fun k hk => ?_, HO.out, fun u hu => ?_⟩, trivial⟩
  · rcases HA.out with e | e
    · exact .inl (H.out.1 k (e ▸ hk))
    · rw [e] at hk
      exact .inr (Nat.le_of_eq (Option.some.inj hk))
  · rcases List.mem_append.1 hu with hu | hu
    · exact H.out.2.2 u hu
    · exact HV.out.2.2 u hu
theorem inf_ord : (Try.prog.info? 33).map (fun i => (i.zero, i.size, i.bytes)) = some (some (.agg #[.int .u64 0, .int .i64 0, .int .i64 0, .int .i64 0, .int .i64 0, .int .u64 0]), 6, 48) := by kernel_rfl
set_option maxHeartbeats 8000000 in
set_option maxRecDepth 100000 in
theorem ins_end_ord (W : World) (F : Nat → Prop) (v : Value) (n gv : Nat) (cs vs : List Value) (h : OwP 33 6 v n cs W F) (hn : n ≤ 100000) (hv : W.heap[gv]? = some (.cells vs.toArray 33 (0, 0))) (hvl : vs.length = 6) (hv1 : ∀ u ∈ vs, u.oneCell' = true) :
    Calls Try.prog 76 #[v, .int .i64 n, .slice (some ⟨gv, 0, none⟩) 1 1] W fun e w' => ∃ v', e = .returned v' ∧ St W F w' [OwP 33 6 v' (n + 1) (cs ++ vs)] := by
  have ht := Try.underlying22
  obtain ⟨i0, hi0, hz0, hzs, hzb⟩ := info_parts inf_ord
  have H := Aside0.mk h
  have hz2 : ((n : Int) == (n : Int)) = true := by simp
  have HV := Aside0.mk (And.intro hv (And.intro hvl hv1))
  have HN := Aside0.mk hn
  obtain ⟨v', w', hrun, hO, hg, _, hat⟩ := run_append_own_at (P := Try.prog) W 0 22 22 33 i0 _ 6 48 ht hi0 hz0 hzs hzb (by rfl) (by decide) v n cs h.2.1 ⟨gv, 0, none⟩ 1 1 vs (by rw [hvl]) (fun j u hj => by rw [Addr.add_lit, Nat.zero_add, blk_cell hv j]; simpa using hj) hv1 (by unfold maxLen; omega) (by omega) (Nat.zero_le _)
  have HO := Aside0.mk hO
  have HG := Aside0.mk hg
  have HA := Aside0.mk hat
  have hcut : ∃ A9 m9 c9, ∀ w : World, (Instr.slice 22 v (some (.int .i64 n)) none none).run Try.prog w = .ok (.slice A9 m9 c9) w := by
    rcases h.block with ⟨rfl, rfl, rfl⟩ | ⟨g, cap, cur, rfl, _, hh, h1, _, _, _, _⟩
    · exact ⟨_, _, _, fun w => cut_lo3 22 33 6 ht (by kernel_rfl) none 0 0 0 (by omega) (by omega) w⟩
    · exact ⟨_, _, _, fun w => cut_lo3 22 33 6 ht (by kernel_rfl) _ n cap n (by omega) (by omega) w⟩
  obtain ⟨A9, m9, c9, hcut⟩ := hcut
  obtain ⟨Av, cv, hvv⟩ : ∃ Av cv, v = .slice Av n cv := by
    rcases h.block with ⟨rfl, rfl, _⟩ | ⟨g, cap, cur, rfl, _⟩
    · exact ⟨_, _, rfl⟩
    · exact ⟨_, _, rfl⟩
  subst hvv
  clear h hv hvl hv1 hn hi0 hz0 hzs hzb hO hg hat
  go_enter Try.func76, Try.ntmps76
  go_wp2_with (at_builtin; refine Lib.wpList_append_run _ rfl _ _ _ _ rfl _ _ rfl rfl _ _ hrun ?_)
  go_ret
  have hfr : Fr F W w' := Fr.of_grown HG.out (fun k hk => H.out.1 k hk)
  refine ⟨v', rfl, hfr, fun k => F k ∨ W.heap.size ≤ k, fun k hk => hk, OwP.loc, ⟨fun k hk => ?_, HO.out, fun u hu => ?_⟩, trivial⟩
  · rcases HA.out with e | e
    · exact .inl (H.out.1 k (e ▸ hk))
    · rw [e] at hk
      exact .inr (Nat.le_of_eq (Option.some.inj hk))
  · rcases List.mem_append.1 hu with hu | hu
    · exact H.out.2.2 u hu
    · exact HV.out.2.2 u hu
theorem wrap_n' (n : Nat) (h : n ≤ 100000) : IntKind.i64.wrap ((n : Int) + 1) = (n : Int) + 1 := by rw [IntKind.wrap_i64]; omega
theorem wrap_n (n : Nat) (h : n ≤ 100000) : wrap64 ((n : Int) + 1) = (n : Int) + 1 := by unfold wrap64; omega
theorem run_copyZ {P : Program} (w : World) (dT sT ty elem : TypeId) (z b o dLen dCap : Nat) (a : Addr) (sLen sCap k : Nat) (cs : List Value)
    (hu : P.underlying dT = some (.slice elem)) (hs : (P.info? elem).map (·.size) = some z) (hk : Nat.min sLen dLen = k) (hn : cs.length = k * z)
    (hsrc : ∀ j v, cs[j]? = some v → w.cell? (a.add j) = some v) (hc : ∀ j, j < cs.length → (w.cell? ⟨b, o + j, none⟩).isSome = true) (hf : ∀ j, j < cs.length → w.frozen? ⟨b, o + j, none⟩ = false) (h1 : ∀ v ∈ cs, v.oneCell' = true) :
    (Builtin.copy_ #[dT, sT] ty #[.slice (some ⟨b, o, none⟩) dLen dCap, .slice (some a) sLen sCap]).run P w = .ok (goInt k) (w.setCells b o cs) := by
  have hl := run_loadCells_list (P := P) w a cs hsrc
  have hst := run_storeCells_cells (P := P) b o cs 0 w (by simpa using hc) (by simpa using hf) h1
  cases hq : P.info? elem with
  | none => simp [hq] at hs
  | some i =>
    have hi : i.size = z := by simpa [hq] using hs
    simp [Builtin.copy_, run_underlying hu, Builtin.lenOf, Builtin.firstCells, sizeOf, typeInfo, hq, hi, hk, ← hn, hl, hst]
set_option maxHeartbeats 8000000 in
set_option maxRecDepth 100000 in
theorem ins_room_row (W : World) (F : Nat → Prop) (g n cap i gv : Nat) (cur : Array Value) (cs vs : List Value) (hF : F g) (hh : W.heap[g]? = some (.cells cur 115 (0, 0))) (h1 : n + 1 ≤ cap) (h2 : cap ≤ maxLen) (h3 : cur.size = cap * 2) (h4 : cur.toList.take (n * 2) = cs) (h5 : cs.length = n * 2) (h6 : ∀ u ∈ cs, u.oneCell' = true)
    (hi : i < n) (hn : n ≤ 100000) (hv : W.heap[gv]? = some (.cells vs.toArray 115 (0, 0))) (hvl : vs.length = 2) (hvg : gv ≠ g) (hv1 : ∀ u ∈ vs, u.oneCell' = true) :
    Calls Try.prog 73 #[.slice (some ⟨g, 0, none⟩) n cap, .int .i64 i, .slice (some ⟨gv, 0, none⟩) 1 1] W fun e w' => ∃ v', e = .returned v' ∧ St W F w' [OwP 115 2 v' (n + 1) (cs.take (i * 2) ++ vs ++ cs.drop (i * 2))] := by
  have ht := Try.underlying105
  have hz1 : ¬ ((1 : Int) = 0) := by decide
  have hz2 : ((i : Int) == (n : Int)) = false := beq_eq_false_iff_ne.mpr (by omega)
  have hz3 : decide (((n : Int) + 1) > (cap : Int)) = false := decide_eq_false (by omega)
  have hw1 := wrap_n n hn
  have hw2 := wrap_n i (Nat.le_trans (Nat.le_of_lt hi) hn)
  have hw1' := wrap_n' n hn
  have hw2' := wrap_n' i (Nat.le_trans (Nat.le_of_lt hi) hn)
  have mixed : Try.prog.follows .mixedOrders = true := by kernel_rfl
  have him : i * 2 + 2 ≤ n * 2 := by rw [← Nat.succ_mul]; exact Nat.mul_le_mul_right _ hi
  have hsz : (Try.prog.info? 115).map (·.size) = some 2 := by kernel_rfl
  have hb := cells_at hh h4
  have hcsz : cur.size ≥ (n + 1) * 2 := by rw [h3]; exact Nat.mul_le_mul_right _ h1
  have hs : ∀ k, k < (n + 1) * 2 → (W.cell? ⟨g, k, none⟩).isSome = true := fun k hk => by rw [blk_cell hh k, Array.getElem?_eq_getElem (by omega)]; rfl
  have hfz : ∀ k, W.frozen? ⟨g, k, none⟩ = false := fun k => blk_frozen hh k
  have hvc : ∀ j v, vs[j]? = some v → W.cell? ⟨gv, j, none⟩ = some v := fun j v hj => by rw [blk_cell hv j]; simpa using hj
  have e1 : ∀ w : World, (Instr.slice 105 (.slice (some ⟨g, 0, none⟩) n cap) (some (.int .i64 i)) none none).run Try.prog w = .ok (.slice (some ⟨g, i * 2, none⟩) (n - i) (cap - i)) w := fun w => by
    rw [cut_lo3 105 115 2 ht (by kernel_rfl) _ n cap i (by omega) (by omega) w, if_neg (by omega), Option.map_some, Addr.add_lit, Int.toNat_natCast, Nat.zero_add]
  have e2 : ∀ w : World, (Instr.slice 105 (.slice (some ⟨g, 0, none⟩) n cap) none (some (.int .i64 ((n : Int) + 1))) none).run Try.prog w = .ok (.slice (some ⟨g, 0, none⟩) (n + 1) cap) w := fun w => by
    rw [cut_h' 105 115 .i64 2 ht (by kernel_rfl) _ n cap ((n : Int) + 1) (by omega) (by omega) w]
    simp
  have e3 : ∀ w : World, (Instr.slice 105 (.slice (some ⟨g, 0, none⟩) (n + 1) cap) (some (.int .i64 ((i : Int) + 1))) none none).run Try.prog w = .ok (.slice (some ⟨g, (i + 1) * 2, none⟩) (n - i) (cap - (i + 1))) w := fun w => by
    rw [cut_lo3 105 115 2 ht (by kernel_rfl) _ (n + 1) cap ((i : Int) + 1) (by omega) (by omega) w, if_neg (by omega), show ((i : Int) + 1).toNat = i + 1 by omega, show n + 1 - (i + 1) = n - i by omega]
    simp [Addr.add]
  have e4 : ∀ w : World, (Instr.slice 105 (.slice (some ⟨g, 0, none⟩) (n + 1) cap) (some (.int .i64 i)) none none).run Try.prog w = .ok (.slice (some ⟨g, i * 2, none⟩) (n + 1 - i) (cap - i)) w := fun w => by
    rw [cut_lo3 105 115 2 ht (by kernel_rfl) _ (n + 1) cap i (by omega) (by omega) w, if_neg (by omega), Option.map_some, Addr.add_lit, Int.toNat_natCast, Nat.zero_add]
  have hdl : (cs.drop (i * 2)).length = (n - i) * 2 := by rw [List.length_drop, h5, Nat.sub_mul]
  have hcp1 : ∀ ty dc sc, (Builtin.copy_ #[105, 105] ty #[.slice (some ⟨g, (i + 1) * 2, none⟩) (n - i) dc, .slice (some ⟨g, i * 2, none⟩) (n + 1 - i) sc]).run Try.prog W.drew = .ok (goInt (n - i : Nat)) (W.drew.setCells g ((i + 1) * 2) (cs.drop (i * 2))) := fun ty dc sc =>
    run_copyZ W.drew _ _ ty 115 2 g ((i + 1) * 2) (n - i) dc ⟨g, i * 2, none⟩ (n + 1 - i) sc (n - i) (cs.drop (i * 2)) ht hsz (by simp only [Nat.min_def]; split <;> omega) hdl
      (fun j v hj => by rw [Addr.add_lit]; have := hb (i * 2 + j) v (by rwa [List.getElem?_drop] at hj); rwa [Nat.zero_add] at this)
      (fun j hj => hs _ (by rw [hdl] at hj; have := Nat.sub_mul n i 2; have : i * 2 ≤ n * 2 := Nat.mul_le_mul_right _ (by omega); omega)) (fun j _ => hfz _) (fun v hv => h6 v (List.mem_of_mem_drop hv))
  obtain ⟨cur1, k1, k2, k3⟩ := heap_setCells (w := W.drew) (cs.drop (i * 2)) ((i + 1) * 2) cur hh (by rw [hdl]; have := Nat.sub_mul n i 2; have : i * 2 ≤ n * 2 := Nat.mul_le_mul_right _ (by omega); omega)
  obtain ⟨W1, hW1⟩ : ∃ W1, W1 = W.drew.setCells g ((i + 1) * 2) (cs.drop (i * 2)) := ⟨_, rfl⟩
  have hfr1 : Fr F W W1 := hW1 ▸ (Fr.of_below (below_drew (Below.refl _ _))).setCells (.inl hF) _ _
  rw [← hW1] at k1
  have hv2 : W1.heap[gv]? = some (.cells vs.toArray 115 (0, 0)) := by rw [hW1, setCells_other _ _ _ _ hvg]; exact hv
  have hcp2 : ∀ W2 : World, W2.heap = W1.heap → ∀ ty dc, (Builtin.copy_ #[105, 105] ty #[.slice (some ⟨g, i * 2, none⟩) (n + 1 - i) dc, .slice (some ⟨gv, 0, none⟩) 1 1]).run Try.prog W2 = .ok (goInt (1 : Nat)) (W2.setCells g (i * 2) vs) := fun W2 hW2 ty dc =>
    run_copyZ W2 _ _ ty 115 2 g (i * 2) (n + 1 - i) dc ⟨gv, 0, none⟩ 1 1 1 vs ht hsz (by simp only [Nat.min_def]; split <;> omega) (by rw [hvl])
      (fun j v hj => by rw [Addr.add_lit, Nat.zero_add, blk_cell (w := W2) (by rw [hW2]; exact hv2) j]; simpa using hj)
      (fun j hj => by rw [blk_cell (w := W2) (by rw [hW2]; exact k1) _, Array.getElem?_eq_getElem (by rw [k2]; rw [hvl] at hj; have : i * 2 ≤ n * 2 := Nat.mul_le_mul_right _ (by omega); omega)]; rfl)
      (fun j _ => blk_frozen (w := W2) (by rw [hW2]; exact k1) _) hv1
  have hov : ∀ lb cb, (callFunc 94 #[.slice (some ⟨gv, 0, none⟩) 1 1, .slice (some ⟨g, (i + 1) * 2, none⟩) lb cb]).run Try.prog W = .ok (.value (.bool false)) W := fun lb cb => by
    rw [run_callFunc_extern Try.func94 (by kernel_rfl) (by kernel_rfl) (by kernel_rfl) (e := Extern.SlicesOverlaps.overlaps #[105, 105] #[4]) (by kernel_rfl),
      Lib.run_overlaps_apart W 105 4 115 ht 2 (fun w => by kernel_rfl) ⟨gv, 0, none⟩ ⟨g, (i + 1) * 2, none⟩ 1 1 lb cb hvg 115 115 vs.length cur.size (by simp [World.shape?, hv]) (by simp [World.shape?, hh]) (by omega) (blk_frozen hv 0) (blk_frozen hv _)]
    rfl
  obtain ⟨cur2, j1, j2, j3⟩ := heap_setCells (w := W1) vs (i * 2) cur1 k1 (by rw [k2, hvl]; have : i * 2 ≤ n * 2 := Nat.mul_le_mul_right _ (by omega); omega)
  have HFIN : Aside0 (∀ W2 : World, W2.heap = W1.heap → Fr F W W2 → St W F (W2.setCells g (i * 2) vs) [OwP 115 2 (.slice (some ⟨g, 0, none⟩) (n + 1) cap) (n + 1) (cs.take (i * 2) ++ vs ++ cs.drop (i * 2))]) := ⟨fun W2 hW2 hfr2 => by
    obtain ⟨cur3, m1, m2, m3⟩ := heap_setCells (w := W2) vs (i * 2) cur1 (by rw [hW2]; exact k1) (by rw [k2, hvl]; have : i * 2 ≤ n * 2 := Nat.mul_le_mul_right _ (by omega); omega)
    refine ⟨hfr2.setCells (.inl hF) _ _, F, fun k hk => .inl hk, OwP.loc, OwP.of hF m1 h1 h2 (by rw [m2, k2, h3]) ?_ ?_ ?_, trivial⟩
    · rw [m3, k3, show (i + 1) * 2 = i * 2 + 2 from Nat.succ_mul _ _]
      exact ins_list (by omega) hvl (by simpa using hcsz) cs h4
    · simp only [List.length_append, List.length_take, hdl, hvl, h5]
      have := Nat.sub_mul n i 2
      have : i * 2 ≤ n * 2 := Nat.mul_le_mul_right _ (by omega)
      omega
    · intro u hu
      rcases List.mem_append.1 hu with hu | hu
      · rcases List.mem_append.1 hu with hu | hu
        · exact h6 u (List.mem_of_mem_take hu)
        · exact hv1 u hu
      · exact h6 u (List.mem_of_mem_drop hu)⟩
  have HFR1 := Aside0.mk hfr1
  clear hF hh h2 h3 h4 h5 h6 hv hvl hvg hv1 hb hcsz hs hfz hvc hdl k1 k2 k3 j1 j2 j3 hv2 hsz hfr1 cur2
  go_enter Try.func73, Try.ntmps73
  go_wp2_with (simp only [hov])
  go_region_law_o (refine step_copy_runI rfl _ _ 105 105 rfl _ _ (by simp [Act.eval, Act.put]) (by simp [Act.eval, Act.put]) (hcp1 _ _ _) ?_)
  go_wp2_with (at_builtin; refine wpList_copy_runI _ rfl _ _ 105 105 rfl _ _ rfl rfl (hcp2 _ (by rw [hW1]; rfl) _ _) ?_)
  go_ret
  exact ⟨_, rfl, HFIN.out _ (by rw [hW1]) (by have := HFR1.out; rw [hW1] at this; exact this)⟩
set_option maxHeartbeats 8000000 in
set_option maxRecDepth 100000 in
theorem ins_room_ord (W : World) (F : Nat → Prop) (g n cap i gv : Nat) (cur : Array Value) (cs vs : List Value) (hF : F g) (hh : W.heap[g]? = some (.cells cur 33 (0, 0))) (h1 : n + 1 ≤ cap) (h2 : cap ≤ maxLen) (h3 : cur.size = cap * 6) (h4 : cur.toList.take (n * 6) = cs) (h5 : cs.length = n * 6) (h6 : ∀ u ∈ cs, u.oneCell' = true)
    (hi : i < n) (hn : n ≤ 100000) (hv : W.heap[gv]? = some (.cells vs.toArray 33 (0, 0))) (hvl : vs.length = 6) (hvg : gv ≠ g) (hv1 : ∀ u ∈ vs, u.oneCell' = true) :
    Calls Try.prog 76 #[.slice (some ⟨g, 0, none⟩) n cap, .int .i64 i, .slice (some ⟨gv, 0, none⟩) 1 1] W fun e w' => ∃ v', e = .returned v' ∧ St W F w' [OwP 33 6 v' (n + 1) (cs.take (i * 6) ++ vs ++ cs.drop (i * 6))] := by
  have ht := Try.underlying22
  have hz1 : ¬ ((1 : Int) = 0) := by decide
  have hz2 : ((i : Int) == (n : Int)) = false := beq_eq_false_iff_ne.mpr (by omega)
  have hz3 : decide (((n : Int) + 1) > (cap : Int)) = false := decide_eq_false (by omega)
  have hw1 := wrap_n n hn
  have hw2 := wrap_n i (Nat.le_trans (Nat.le_of_lt hi) hn)
  have hw1' := wrap_n' n hn
  have hw2' := wrap_n' i (Nat.le_trans (Nat.le_of_lt hi) hn)
  have mixed : Try.prog.follows .mixedOrders = true := by kernel_rfl
  have him : i * 6 + 6 ≤ n * 6 := by rw [← Nat.succ_mul]; exact Nat.mul_le_mul_right _ hi
  have hsz : (Try.prog.info? 33).map (·.size) = some 6 := by kernel_rfl
  have hb := cells_at hh h4
  have hcsz : cur.size ≥ (n + 1) * 6 := by rw [h3]; exact Nat.mul_le_mul_right _ h1
  have hs : ∀ k, k < (n + 1) * 6 → (W.cell? ⟨g, k, none⟩).isSome = true := fun k hk => by rw [blk_cell hh k, Array.getElem?_eq_getElem (by omega)]; rfl
  have hfz : ∀ k, W.frozen? ⟨g, k, none⟩ = false := fun k => blk_frozen hh k
  have hvc : ∀ j v, vs[j]? = some v → W.cell? ⟨gv, j, none⟩ = some v := fun j v hj => by rw [blk_cell hv j]; simpa using hj
  have e1 : ∀ w : World, (Instr.slice 22 (.slice (some ⟨g, 0, none⟩) n cap) (some (.int .i64 i)) none none).run Try.prog w = .ok (.slice (some ⟨g, i * 6, none⟩) (n - i) (cap - i)) w := fun w => by
    rw [cut_lo3 22 33 6 ht (by kernel_rfl) _ n cap i (by omega) (by omega) w, if_neg (by omega), Option.map_some, Addr.add_lit, Int.toNat_natCast, Nat.zero_add]
  have e2 : ∀ w : World, (Instr.slice 22 (.slice (some ⟨g, 0, none⟩) n cap) none (some (.int .i64 ((n : Int) + 1))) none).run Try.prog w = .ok (.slice (some ⟨g, 0, none⟩) (n + 1) cap) w := fun w => by
    rw [cut_h' 22 33 .i64 6 ht (by kernel_rfl) _ n cap ((n : Int) + 1) (by omega) (by omega) w]
    simp
  have e3 : ∀ w : World, (Instr.slice 22 (.slice (some ⟨g, 0, none⟩) (n + 1) cap) (some (.int .i64 ((i : Int) + 1))) none none).run Try.prog w = .ok (.slice (some ⟨g, (i + 1) * 6, none⟩) (n - i) (cap - (i + 1))) w := fun w => by
    rw [cut_lo3 22 33 6 ht (by kernel_rfl) _ (n + 1) cap ((i : Int) + 1) (by omega) (by omega) w, if_neg (by omega), show ((i : Int) + 1).toNat = i + 1 by omega, show n + 1 - (i + 1) = n - i by omega]
    simp [Addr.add]
  have e4 : ∀ w : World, (Instr.slice 22 (.slice (some ⟨g, 0, none⟩) (n + 1) cap) (some (.int .i64 i)) none none).run Try.prog w = .ok (.slice (some ⟨g, i * 6, none⟩) (n + 1 - i) (cap - i)) w := fun w => by
    rw [cut_lo3 22 33 6 ht (by kernel_rfl) _ (n + 1) cap i (by omega) (by omega) w, if_neg (by omega), Option.map_some, Addr.add_lit, Int.toNat_natCast, Nat.zero_add]
  have hdl : (cs.drop (i * 6)).length = (n - i) * 6 := by rw [List.length_drop, h5, Nat.sub_mul]
  have hcp1 : ∀ ty dc sc, (Builtin.copy_ #[22, 22] ty #[.slice (some ⟨g, (i + 1) * 6, none⟩) (n - i) dc, .slice (some ⟨g, i * 6, none⟩) (n + 1 - i) sc]).run Try.prog W.drew = .ok (goInt (n - i : Nat)) (W.drew.setCells g ((i + 1) * 6) (cs.drop (i * 6))) := fun ty dc sc =>
    run_copyZ W.drew _ _ ty 33 6 g ((i + 1) * 6) (n - i) dc ⟨g, i * 6, none⟩ (n + 1 - i) sc (n - i) (cs.drop (i * 6)) ht hsz (by simp only [Nat.min_def]; split <;> omega) hdl
      (fun j v hj => by rw [Addr.add_lit]; have := hb (i * 6 + j) v (by rwa [List.getElem?_drop] at hj); rwa [Nat.zero_add] at this)
      (fun j hj => hs _ (by rw [hdl] at hj; have := Nat.sub_mul n i 6; have : i * 6 ≤ n * 6 := Nat.mul_le_mul_right _ (by omega); omega)) (fun j _ => hfz _) (fun v hv => h6 v (List.mem_of_mem_drop hv))
  obtain ⟨cur1, k1, k2, k3⟩ := heap_setCells (w := W.drew) (cs.drop (i * 6)) ((i + 1) * 6) cur hh (by rw [hdl]; have := Nat.sub_mul n i 6; have : i * 6 ≤ n * 6 := Nat.mul_le_mul_right _ (by omega); omega)
  obtain ⟨W1, hW1⟩ : ∃ W1, W1 = W.drew.setCells g ((i + 1) * 6) (cs.drop (i * 6)) := ⟨_, rfl⟩
  have hfr1 : Fr F W W1 := hW1 ▸ (Fr.of_below (below_drew (Below.refl _ _))).setCells (.inl hF) _ _
  rw [← hW1] at k1
  have hv2 : W1.heap[gv]? = some (.cells vs.toArray 33 (0, 0)) := by rw [hW1, setCells_other _ _ _ _ hvg]; exact hv
  have hcp2 : ∀ W2 : World, W2.heap = W1.heap → ∀ ty dc, (Builtin.copy_ #[22, 22] ty #[.slice (some ⟨g, i * 6, none⟩) (n + 1 - i) dc, .slice (some ⟨gv, 0, none⟩) 1 1]).run Try.prog W2 = .ok (goInt (1 : Nat)) (W2.setCells g (i * 6) vs) := fun W2 hW2 ty dc =>
    run_copyZ W2 _ _ ty 33 6 g (i * 6) (n + 1 - i) dc ⟨gv, 0, none⟩ 1 1 1 vs ht hsz (by simp only [Nat.min_def]; split <;> omega) (by rw [hvl])
      (fun j v hj => by rw [Addr.add_lit, Nat.zero_add, blk_cell (w := W2) (by rw [hW2]; exact hv2) j]; simpa using hj)
      (fun j hj => by rw [blk_cell (w := W2) (by rw [hW2]; exact k1) _, Array.getElem?_eq_getElem (by rw [k2]; rw [hvl] at hj; have : i * 6 ≤ n * 6 := Nat.mul_le_mul_right _ (by omega); omega)]; rfl)
      (fun j _ => blk_frozen (w := W2) (by rw [hW2]; exact k1) _) hv1
  have hov : ∀ lb cb, (callFunc 96 #[.slice (some ⟨gv, 0, none⟩) 1 1, .slice (some ⟨g, (i + 1) * 6, none⟩) lb cb]).run Try.prog W = .ok (.value (.bool false)) W := fun lb cb => by
    rw [run_callFunc_extern Try.func96 (by kernel_rfl) (by kernel_rfl) (by kernel_rfl) (e := Extern.SlicesOverlaps.overlaps #[22, 22] #[4]) (by kernel_rfl),
      Lib.run_overlaps_apart W 22 4 33 ht 6 (fun w => by kernel_rfl) ⟨gv, 0, none⟩ ⟨g, (i + 1) * 6, none⟩ 1 1 lb cb hvg 33 33 vs.length cur.size (by simp [World.shape?, hv]) (by simp [World.shape?, hh]) (by omega) (blk_frozen hv 0) (blk_frozen hv _)]
    rfl
  obtain ⟨cur2, j1, j2, j3⟩ := heap_setCells (w := W1) vs (i * 6) cur1 k1 (by rw [k2, hvl]; have : i * 6 ≤ n * 6 := Nat.mul_le_mul_right _ (by omega); omega)
  have HFIN : Aside0 (∀ W2 : World, W2.heap = W1.heap → Fr F W W2 → St W F (W2.setCells g (i * 6) vs) [OwP 33 6 (.slice (some ⟨g, 0, none⟩) (n + 1) cap) (n + 1) (cs.take (i * 6) ++ vs ++ cs.drop (i * 6))]) := ⟨fun W2 hW2 hfr2 => by
    obtain ⟨cur3, m1, m2, m3⟩ := heap_setCells (w := W2) vs (i * 6) cur1 (by rw [hW2]; exact k1) (by rw [k2, hvl]; have : i * 6 ≤ n * 6 := Nat.mul_le_mul_right _ (by omega); omega)
    refine ⟨hfr2.setCells (.inl hF) _ _, F, fun k hk => .inl hk, OwP.loc, OwP.of hF m1 h1 h2 (by rw [m2, k2, h3]) ?_ ?_ ?_, trivial⟩
    · rw [m3, k3, show (i + 1) * 6 = i * 6 + 6 from Nat.succ_mul _ _]
      exact ins_list (by omega) hvl (by simpa using hcsz) cs h4
    · simp only [List.length_append, List.length_take, hdl, hvl, h5]
      have := Nat.sub_mul n i 6
      have : i * 6 ≤ n * 6 := Nat.mul_le_mul_right _ (by omega)
      omega
    · intro u hu
      rcases List.mem_append.1 hu with hu | hu
      · rcases List.mem_append.1 hu with hu | hu
        · exact h6 u (List.mem_of_mem_take hu)
        · exact hv1 u hu
      · exact h6 u (List.mem_of_mem_drop hu)⟩
  have HFR1 := Aside0.mk hfr1
  clear hF hh h2 h3 h4 h5 h6 hv hvl hvg hv1 hb hcsz hs hfz hvc hdl k1 k2 k3 j1 j2 j3 hv2 hsz hfr1 cur2
  go_enter Try.func76, Try.ntmps76
  go_wp2_with (simp only [hov])
  go_region_law_o (refine step_copy_runI rfl _ _ 22 22 rfl _ _ (by simp [Act.eval, Act.put]) (by simp [Act.eval, Act.put]) (hcp1 _ _ _) ?_)
  go_wp2_with (at_builtin; refine wpList_copy_runI _ rfl _ _ 22 22 rfl _ _ rfl rfl (hcp2 _ (by rw [hW1]; rfl) _ _) ?_)
  go_ret
  exact ⟨_, rfl, HFIN.out _ (by rw [hW1]) (by have := HFR1.out; rw [hW1] at this; exact this)⟩
theorem grow_list {R vs cs : List Value} {i n z : Nat} (hi : i ≤ n) (hl : vs.length = z) (hR : (n + 1) * z ≤ R.length) (hcs : cs.length = n * z) (ht : R.take (i * z) = cs.take (i * z)) :
    ((R.take (i * z) ++ vs ++ R.drop (i * z + vs.length)).take (i * z + z) ++ cs.drop (i * z) ++ (R.take (i * z) ++ vs ++ R.drop (i * z + vs.length)).drop (i * z + z + (cs.drop (i * z)).length)).take ((n + 1) * z) = cs.take (i * z) ++ vs ++ cs.drop (i * z) := by
  have h1 : i * z ≤ n * z := Nat.mul_le_mul_right _ hi
  have h2 : (n + 1) * z = n * z + z := Nat.succ_mul n z
  have h4 : (cs.drop (i * z)).length = n * z - i * z := by rw [List.length_drop, hcs]
  have e1 : (R.take (i * z) ++ vs ++ R.drop (i * z + vs.length)).take (i * z + z) = cs.take (i * z) ++ vs := by
    rw [ht, List.take_append_of_le_length (by simp only [List.length_append, List.length_take, hl, hcs]; omega), List.take_of_length_le (by simp only [List.length_append, List.length_take, hl, hcs]; omega)]
  rw [e1, List.take_append_of_le_length (by simp only [List.length_append, List.length_take, hl, hcs, h4]; omega), List.take_of_length_le (by simp only [List.length_append, List.length_take, hl, hcs, h4]; omega)]
set_option maxHeartbeats 8000000 in
set_option maxRecDepth 100000 in
theorem ins_grow_row (W : World) (F : Nat → Prop) (g n cap i gv : Nat) (cur : Array Value) (cs vs : List Value) (hh : W.heap[g]? = some (.cells cur 115 (0, 0))) (h0 : n ≤ cap) (h1 : ¬ n + 1 ≤ cap) (h4 : cur.toList.take (n * 2) = cs) (h5 : cs.length = n * 2) (h6 : ∀ u ∈ cs, u.oneCell' = true)
    (hi : i < n) (hn : n ≤ 100000) (hv : W.heap[gv]? = some (.cells vs.toArray 115 (0, 0))) (hvl : vs.length = 2) (hv1 : ∀ u ∈ vs, u.oneCell' = true) :
    Calls Try.prog 73 #[.slice (some ⟨g, 0, none⟩) n cap, .int .i64 i, .slice (some ⟨gv, 0, none⟩) 1 1] W fun e w' => ∃ v', e = .returned v' ∧ St W F w' [OwP 115 2 v' (n + 1) (cs.take (i * 2) ++ vs ++ cs.drop (i * 2))] := by
  have ht := Try.underlying105
  have hz1 : ¬ ((1 : Int) = 0) := by decide
  have hz2 : ((i : Int) == (n : Int)) = false := beq_eq_false_iff_ne.mpr (by omega)
  have hz3 : decide (((n : Int) + 1) > (cap : Int)) = true := decide_eq_true (by omega)
  have hw1 := wrap_n n hn
  have hw2 := wrap_n i (Nat.le_trans (Nat.le_of_lt hi) hn)
  have hw1' := wrap_n' n hn
  have hw2' := wrap_n' i (Nat.le_trans (Nat.le_of_lt hi) hn)
  obtain ⟨kk, hkk⟩ : ∃ kk : Nat, kk = n + 1 - i := ⟨_, rfl⟩
  have hki : (n : Int) + 1 - i = (kk : Int) := by omega
  have mixed : Try.prog.follows .mixedOrders = true := by kernel_rfl
  have him : i * 2 + 2 ≤ n * 2 := by rw [← Nat.succ_mul]; exact Nat.mul_le_mul_right _ hi
  have hsz : (Try.prog.info? 115).map (·.size) = some 2 := by kernel_rfl
  obtain ⟨i0, hi0, hz0, hzs, hzb⟩ := info_parts inf_row
  have hb := cells_at hh h4
  have hgl := blk_lt hh
  have hvl2 := blk_lt hv
  have hdl : (cs.drop (i * 2)).length = (n - i) * 2 := by rw [List.length_drop, h5, Nat.sub_mul]
  have hold : (Builtin.firstCells i0.size i (.slice (some ⟨g, 0, none⟩) i cap)).run Try.prog W.drew = .ok (cs.take (i * 2)).toArray W.drew := by
    rw [hzs]
    exact run_firstCells_some W.drew 2 i ⟨g, 0, none⟩ i cap (cs.take (i * 2)) (by rw [List.length_take]; omega) (fun j v hj => by
      rw [Addr.add_lit]
      rw [List.getElem?_take] at hj
      split at hj
      · exact hb j v hj
      · cases hj)
  obtain ⟨G, hG⟩ : ∃ G, G = grownCap W (n + 1) cap 115 := ⟨_, rfl⟩
  have hGn : n + 1 ≤ G := by rw [hG]; exact grownCap_ge W _ _ _
  have hGm : G ≤ maxLen := by rw [hG]; exact grownCap_le_maxLen W (n + 1) cap 115 (by unfold maxLen; omega)
  obtain ⟨ROW, hROW⟩ : ∃ ROW : Array Value, ROW = (cs.take (i * 2)).toArray ++ Builtin.zeroCells (Value.cells (.agg #[.int .i64 0, .slice none 0 0])) (n + 1 - i) ++ Builtin.zeroCells (Value.cells (.agg #[.int .i64 0, .slice none 0 0])) (G - (n + 1)) := ⟨_, rfl⟩
  have hrz : ∀ ty, (Builtin.append_ #[105, 3] ty #[.slice (some ⟨g, 0, none⟩) i cap, .int .i64 ((n : Int) + 1 - (i : Int))]).run Try.prog W = .ok (.slice (some ⟨W.heap.size, 0, none⟩) (n + 1) G) (W.drew.alloc (.cells ROW 115)) := fun ty => by
    have h := Lib.run_append_grow_zeros W 105 3 ty 115 i0 _ .i64 .i64 ht Try.underlying3 hi0 hz0 (some ⟨g, 0, none⟩) i cap (cs.take (i * 2)) hold (n + 1 - i) (by omega) (by omega) (by omega) (by omega) (by rw [hzb]; omega) (by rw [hzb, show i + (n + 1 - i) = n + 1 by omega]; exact growslice_fits (by omega) (by omega))
    rw [show i + (n + 1 - i) = n + 1 by omega, ← hG, ← hROW, ← hkk] at h
    rw [hki]
    exact h
  have hRs : ROW.size = G * 2 := by
    rw [hROW]
    simp only [Array.size_append, List.size_toArray, List.length_take, size_zeroCells, h5]
    rw [show (Value.cells (.agg #[.int .i64 0, .slice none 0 0])).size = 2 by rfl, Nat.min_eq_left (by omega)]
    omega
  have hRt : ROW.toList.take (i * 2) = cs.take (i * 2) := by
    rw [hROW]
    simp only [Array.toList_append]
    rw [List.append_assoc, List.take_append_of_le_length (by simp [List.length_take]; omega), List.take_of_length_le (by simp [List.length_take]; omega)]
  clear hROW hold hG hi0 hz0 hzs hzb
  have hGi : ¬ (G = i) := by omega
  have e1 : ∀ w : World, (Instr.slice 105 (.slice (some ⟨g, 0, none⟩) n cap) (some (.int .i64 i)) none none).run Try.prog w = .ok (.slice (some ⟨g, i * 2, none⟩) (n - i) (cap - i)) w := fun w => by
    rw [cut_lo3 105 115 2 ht (by kernel_rfl) _ n cap i (by omega) (by omega) w, if_neg (by omega), Option.map_some, Addr.add_lit, Int.toNat_natCast, Nat.zero_add]
  have e2 : ∀ w : World, (Instr.slice 105 (.slice (some ⟨g, 0, none⟩) n cap) none (some (.int .i64 i)) none).run Try.prog w = .ok (.slice (some ⟨g, 0, none⟩) i cap) w := fun w => by
    rw [cut_h' 105 115 .i64 2 ht (by kernel_rfl) _ n cap i (by omega) (by omega) w]
    simp
  have e3 : ∀ w : World, (Instr.slice 105 (.slice (some ⟨W.heap.size, 0, none⟩) (n + 1) G) (some (.int .i64 i)) none none).run Try.prog w = .ok (.slice (some ⟨W.heap.size, i * 2, none⟩) (n + 1 - i) (G - i)) w := fun w => by
    rw [cut_lo3 105 115 2 ht (by kernel_rfl) _ (n + 1) G i (by omega) (by omega) w, if_neg (by omega), Option.map_some, Addr.add_lit, Int.toNat_natCast, Nat.zero_add]
  have e4 : ∀ w : World, (Instr.slice 105 (.slice (some ⟨W.heap.size, 0, none⟩) (n + 1) G) (some (.int .i64 ((i : Int) + 1))) none none).run Try.prog w = .ok (.slice (some ⟨W.heap.size, (i + 1) * 2, none⟩) (n - i) (G - (i + 1))) w := fun w => by
    rw [cut_lo3 105 115 2 ht (by kernel_rfl) _ (n + 1) G ((i : Int) + 1) (by omega) (by omega) w, if_neg (by omega), show ((i : Int) + 1).toNat = i + 1 by omega, show n + 1 - (i + 1) = n - i by omega, Option.map_some, Addr.add_lit, Nat.zero_add]
  obtain ⟨W1, hW1⟩ : ∃ W1, W1 = W.drew.alloc (.cells ROW 115) := ⟨_, rfl⟩
  have k0 : W1.heap[W.heap.size]? = some (.cells ROW 115 (0, 0)) := by rw [hW1]; exact blk_new W.drew _
  have ko : ∀ k, k < W.heap.size → W1.heap[k]? = W.heap[k]? := fun k hk => by rw [hW1]; exact heap_alloc_old W.drew _ hk
  have hfit1 : i * 2 + vs.length ≤ ROW.size := by rw [hRs, hvl]; have : n * 2 ≤ G * 2 := Nat.mul_le_mul_right _ (by omega); omega
  have hfit2 : (i + 1) * 2 + (cs.drop (i * 2)).length ≤ ROW.size := by rw [hRs, hdl, ← Nat.add_mul]; exact Nat.mul_le_mul_right _ (by omega)
  have hcpA : ∀ W2 : World, W2.heap = W1.heap → ∀ ty dc, (Builtin.copy_ #[105, 105] ty #[.slice (some ⟨W.heap.size, i * 2, none⟩) (n + 1 - i) dc, .slice (some ⟨gv, 0, none⟩) 1 1]).run Try.prog W2 = .ok (goInt (1 : Nat)) (W2.setCells W.heap.size (i * 2) vs) := fun W2 hW2 ty dc =>
    run_copyZ W2 _ _ ty 115 2 W.heap.size (i * 2) (n + 1 - i) dc ⟨gv, 0, none⟩ 1 1 1 vs ht hsz (by simp only [Nat.min_def]; split <;> omega) (by rw [hvl])
      (fun j v hj => by rw [Addr.add_lit, Nat.zero_add, blk_cell (w := W2) (by rw [hW2, ko gv hvl2]; exact hv) j]; simpa using hj)
      (fun j hj => by rw [blk_cell (w := W2) (by rw [hW2]; exact k0) _, Array.getElem?_eq_getElem (by omega)]; rfl)
      (fun j _ => blk_frozen (w := W2) (by rw [hW2]; exact k0) _) hv1
  obtain ⟨cur1, m1, m2, m3⟩ := heap_setCells (w := W1) vs (i * 2) ROW k0 hfit1
  have hcpB : ∀ W2 : World, W2.heap = (W1.setCells W.heap.size (i * 2) vs).heap → ∀ ty dc sc, (Builtin.copy_ #[105, 105] ty #[.slice (some ⟨W.heap.size, (i + 1) * 2, none⟩) (n - i) dc, .slice (some ⟨g, i * 2, none⟩) (n - i) sc]).run Try.prog W2 = .ok (goInt (n - i : Nat)) (W2.setCells W.heap.size ((i + 1) * 2) (cs.drop (i * 2))) := fun W2 hW2 ty dc sc =>
    run_copyZ W2 _ _ ty 115 2 W.heap.size ((i + 1) * 2) (n - i) dc ⟨g, i * 2, none⟩ (n - i) sc (n - i) (cs.drop (i * 2)) ht hsz (Nat.min_self _) hdl
      (fun j v hj => by
        have h7 : W2.heap[g]? = some (.cells cur 115 (0, 0)) := by rw [hW2, setCells_other _ _ _ _ (by omega), ko g hgl]; exact hh
        have := cells_at h7 h4 (i * 2 + j) v (by rwa [List.getElem?_drop] at hj)
        rw [Addr.add_lit]
        rwa [Nat.zero_add] at this)
      (fun j hj => by rw [blk_cell (w := W2) (by rw [hW2]; exact m1) _, Array.getElem?_eq_getElem (by omega)]; rfl)
      (fun j _ => blk_frozen (w := W2) (by rw [hW2]; exact m1) _) (fun v hv => h6 v (List.mem_of_mem_drop hv))
  have hfrA : Fr F W W1 := hW1 ▸ (Fr.of_below (below_alloc (below_drew (Below.refl _ _)) _))
  have HFIN : Aside0 (∀ W2 : World, W2.heap = (W1.setCells W.heap.size (i * 2) vs).heap → Fr F W W2 → St W F (W2.setCells W.heap.size ((i + 1) * 2) (cs.drop (i * 2))) [OwP 115 2 (.slice (some ⟨W.heap.size, 0, none⟩) (n + 1) G) (n + 1) (cs.take (i * 2) ++ vs ++ cs.drop (i * 2))]) := ⟨fun W2 hW2 hfr2 => by
    obtain ⟨cur3, q1, q2, q3⟩ := heap_setCells (w := W2) (cs.drop (i * 2)) ((i + 1) * 2) cur1 (by rw [hW2]; exact m1) (by omega)
    refine ⟨hfr2.setCells (.inr (Nat.le_refl _)) _ _, fun k => W.heap.size ≤ k, fun k hk => .inr hk, OwP.loc, OwP.of (Nat.le_refl _) q1 hGn hGm (by rw [q2, m2, hRs]) ?_ ?_ ?_, trivial⟩
    · rw [q3, m3, show (i + 1) * 2 = i * 2 + 2 from Nat.succ_mul _ _]
      exact grow_list (by omega) hvl (by rw [Array.length_toList, hRs]; exact Nat.mul_le_mul_right _ hGn) h5 hRt
    · simp only [List.length_append, List.length_take, hdl, hvl, h5]
      have := Nat.sub_mul n i 2
      omega
    · intro u hu
      rcases List.mem_append.1 hu with hu | hu
      · rcases List.mem_append.1 hu with hu | hu
        · exact h6 u (List.mem_of_mem_take hu)
        · exact hv1 u hu
      · exact h6 u (List.mem_of_mem_drop hu)⟩
  have HFR1 := Aside0.mk hfrA
  clear hkk hki hh h4 h5 h6 hv hvl hv1 hb hdl hsz hfrA hRs hRt k0 ko hfit1 hfit2 m1 m2 m3
  go_enter Try.func73, Try.ntmps73
  go_wp2_with (first
    | (at_builtin; refine Lib.wpList_append_run _ rfl _ _ _ _ rfl _ _ rfl rfl _ _ (hrz _) ?_)
    | (at_builtin; refine wpList_copy_runI _ rfl _ _ 105 105 rfl _ _ rfl rfl (hcpA _ (by rw [hW1]; rfl) _ _) ?_))
  go_region_law_o (refine step_copy_runI rfl _ _ 105 105 rfl (.slice (some ⟨W.heap.size, (i + 1) * 2, none⟩) (n - i) (G - (i + 1))) (.slice (some ⟨g, i * 2, none⟩) (n - i) (cap - i)) (by simp [Act.eval, Act.put]) (by simp [Act.eval, Act.put]) (hcpB _ (by rw [hW1]; rfl) _ (G - (i + 1)) (cap - i)) ?_)
  go_wp2
  go_ret
  refine ⟨_, rfl, HFIN.out _ (by rw [hW1]; rfl) ?_⟩
  have h9 := HFR1.out
  rw [hW1] at h9
  exact (h9.setCells (.inr (Nat.le_refl _)) _ _).trans (Fr.of_below (F := fun _ => False) (below_drew (Below.refl _ _))) (fun _ h => h.elim)
set_option maxHeartbeats 8000000 in
set_option maxRecDepth 100000 in
theorem ins_grow_ord (W : World) (F : Nat → Prop) (g n cap i gv : Nat) (cur : Array Value) (cs vs : List Value) (hh : W.heap[g]? = some (.cells cur 33 (0, 0))) (h0 : n ≤ cap) (h1 : ¬ n + 1 ≤ cap) (h4 : cur.toList.take (n * 6) = cs) (h5 : cs.length = n * 6) (h6 : ∀ u ∈ cs, u.oneCell' = true)
    (hi : i < n) (hn : n ≤ 100000) (hv : W.heap[gv]? = some (.cells vs.toArray 33 (0, 0))) (hvl : vs.length = 6) (hv1 : ∀ u ∈ vs, u.oneCell' = true) :
    Calls Try.prog 76 #[.slice (some ⟨g, 0, none⟩) n cap, .int .i64 i, .slice (some ⟨gv, 0, none⟩) 1 1] W fun e w' => ∃ v', e = .returned v' ∧ St W F w' [OwP 33 6 v' (n + 1) (cs.take (i * 6) ++ vs ++ cs.drop (i * 6))] := by
  have ht := Try.underlying22
  have hz1 : ¬ ((1 : Int) = 0) := by decide
  have hz2 : ((i : Int) == (n : Int)) = false := beq_eq_false_iff_ne.mpr (by omega)
  have hz3 : decide (((n : Int) + 1) > (cap : Int)) = true := decide_eq_true (by omega)
  have hw1 := wrap_n n hn
  have hw2 := wrap_n i (Nat.le_trans (Nat.le_of_lt hi) hn)
  have hw1' := wrap_n' n hn
  have hw2' := wrap_n' i (Nat.le_trans (Nat.le_of_lt hi) hn)
  obtain ⟨kk, hkk⟩ : ∃ kk : Nat, kk = n + 1 - i := ⟨_, rfl⟩
  have hki : (n : Int) + 1 - i = (kk : Int) := by omega
  have mixed : Try.prog.follows .mixedOrders = true := by kernel_rfl
  have him : i * 6 + 6 ≤ n * 6 := by rw [← Nat.succ_mul]; exact Nat.mul_le_mul_right _ hi
  have hsz : (Try.prog.info? 33).map (·.size) = some 6 := by kernel_rfl
  obtain ⟨i0, hi0, hz0, hzs, hzb⟩ := info_parts inf_ord
  have hb := cells_at hh h4
  have hgl := blk_lt hh
  have hvl2 := blk_lt hv
  have hdl : (cs.drop (i * 6)).length = (n - i) * 6 := by rw [List.length_drop, h5, Nat.sub_mul]
  have hold : (Builtin.firstCells i0.size i (.slice (some ⟨g, 0, none⟩) i cap)).run Try.prog W.drew = .ok (cs.take (i * 6)).toArray W.drew := by
    rw [hzs]
    exact run_firstCells_some W.drew 6 i ⟨g, 0, none⟩ i cap (cs.take (i * 6)) (by rw [List.length_take]; omega) (fun j v hj => by
      rw [Addr.add_lit]
      rw [List.getElem?_take] at hj
      split at hj
      · exact hb j v hj
      · cases hj)
  obtain ⟨G, hG⟩ : ∃ G, G = grownCap W (n + 1) cap 33 := ⟨_, rfl⟩
  have hGn : n + 1 ≤ G := by rw [hG]; exact grownCap_ge W _ _ _
  have hGm : G ≤ maxLen := by rw [hG]; exact grownCap_le_maxLen W (n + 1) cap 33 (by unfold maxLen; omega)
  obtain ⟨ROW, hROW⟩ : ∃ ROW : Array Value, ROW = (cs.take (i * 6)).toArray ++ Builtin.zeroCells (Value.cells (.agg #[.int .u64 0, .int .i64 0, .int .i64 0, .int .i64 0, .int .i64 0, .int .u64 0])) (n + 1 - i) ++ Builtin.zeroCells (Value.cells (.agg #[.int .u64 0, .int .i64 0, .int .i64 0, .int .i64 0, .int .i64 0, .int .u64 0])) (G - (n + 1)) := ⟨_, rfl⟩
  have hrz : ∀ ty, (Builtin.append_ #[22, 3] ty #[.slice (some ⟨g, 0, none⟩) i cap, .int .i64 ((n : Int) + 1 - (i : Int))]).run Try.prog W = .ok (.slice (some ⟨W.heap.size, 0, none⟩) (n + 1) G) (W.drew.alloc (.cells ROW 33)) := fun ty => by
    have h := Lib.run_append_grow_zeros W 22 3 ty 33 i0 _ .i64 .i64 ht Try.underlying3 hi0 hz0 (some ⟨g, 0, none⟩) i cap (cs.take (i * 6)) hold (n + 1 - i) (by omega) (by omega) (by omega) (by omega) (by rw [hzb]; omega) (by rw [hzb, show i + (n + 1 - i) = n + 1 by omega]; exact growslice_fits (by omega) (by omega))
    rw [show i + (n + 1 - i) = n + 1 by omega, ← hG, ← hROW, ← hkk] at h
    rw [hki]
    exact h
  have hRs : ROW.size = G * 6 := by
    rw [hROW]
    simp only [Array.size_append, List.size_toArray, List.length_take, size_zeroCells, h5]
    rw [show (Value.cells (.agg #[.int .u64 0, .int .i64 0, .int .i64 0, .int .i64 0, .int .i64 0, .int .u64 0])).size = 6 by rfl, Nat.min_eq_left (by omega)]
    omega
  have hRt : ROW.toList.take (i * 6) = cs.take (i * 6) := by
    rw [hROW]
    simp only [Array.toList_append]
    rw [List.append_assoc, List.take_append_of_le_length (by simp [List.length_take]; omega), List.take_of_length_le (by simp [List.length_take]; omega)]
  clear hROW hold hG hi0 hz0 hzs hzb
  have hGi : ¬ (G = i) := by omega
  have e1 : ∀ w : World, (Instr.slice 22 (.slice (some ⟨g, 0, none⟩) n cap) (some (.int .i64 i)) none none).run Try.prog w = .ok (.slice (some ⟨g, i * 6, none⟩) (n - i) (cap - i)) w := fun w => by
    rw [cut_lo3 22 33 6 ht (by kernel_rfl) _ n cap i (by omega) (by omega) w, if_neg (by omega), Option.map_some, Addr.add_lit, Int.toNat_natCast, Nat.zero_add]
  have e2 : ∀ w : World, (Instr.slice 22 (.slice (some ⟨g, 0, none⟩) n cap) none (some (.int .i64 i)) none).run Try.prog w = .ok (.slice (some ⟨g, 0, none⟩) i cap) w := fun w => by
    rw [cut_h' 22 33 .i64 6 ht (by kernel_rfl) _ n cap i (by omega) (by omega) w]
    simp
  have e3 : ∀ w : World, (Instr.slice 22 (.slice (some ⟨W.heap.size, 0, none⟩) (n + 1) G) (some (.int .i64 i)) none none).run Try.prog w = .ok (.slice (some ⟨W.heap.size, i * 6, none⟩) (n + 1 - i) (G - i)) w := fun w => by
    rw [cut_lo3 22 33 6 ht (by kernel_rfl) _ (n + 1) G i (by omega) (by omega) w, if_neg (by omega), Option.map_some, Addr.add_lit, Int.toNat_natCast, Nat.zero_add]
  have e4 : ∀ w : World, (Instr.slice 22 (.slice (some ⟨W.heap.size, 0, none⟩) (n + 1) G) (some (.int .i64 ((i : Int) + 1))) none none).run Try.prog w = .ok (.slice (some ⟨W.heap.size, (i + 1) * 6, none⟩) (n - i) (G - (i + 1))) w := fun w => by
    rw [cut_lo3 22 33 6 ht (by kernel_rfl) _ (n + 1) G ((i : Int) + 1) (by omega) (by omega) w, if_neg (by omega), show ((i : Int) + 1).toNat = i + 1 by omega, show n + 1 - (i + 1) = n - i by omega, Option.map_some, Addr.add_lit, Nat.zero_add]
  obtain ⟨W1, hW1⟩ : ∃ W1, W1 = W.drew.alloc (.cells ROW 33) := ⟨_, rfl⟩
  have k0 : W1.heap[W.heap.size]? = some (.cells ROW 33 (0, 0)) := by rw [hW1]; exact blk_new W.drew _
  have ko : ∀ k, k < W.heap.size → W1.heap[k]? = W.heap[k]? := fun k hk => by rw [hW1]; exact heap_alloc_old W.drew _ hk
  have hfit1 : i * 6 + vs.length ≤ ROW.size := by rw [hRs, hvl]; have : n * 6 ≤ G * 6 := Nat.mul_le_mul_right _ (by omega); omega
  have hfit2 : (i + 1) * 6 + (cs.drop (i * 6)).length ≤ ROW.size := by rw [hRs, hdl, ← Nat.add_mul]; exact Nat.mul_le_mul_right _ (by omega)
  have hcpA : ∀ W2 : World, W2.heap = W1.heap → ∀ ty dc, (Builtin.copy_ #[22, 22] ty #[.slice (some ⟨W.heap.size, i * 6, none⟩) (n + 1 - i) dc, .slice (some ⟨gv, 0, none⟩) 1 1]).run Try.prog W2 = .ok (goInt (1 : Nat)) (W2.setCells W.heap.size (i * 6) vs) := fun W2 hW2 ty dc =>
    run_copyZ W2 _ _ ty 33 6 W.heap.size (i * 6) (n + 1 - i) dc ⟨gv, 0, none⟩ 1 1 1 vs ht hsz (by simp only [Nat.min_def]; split <;> omega) (by rw [hvl])
      (fun j v hj => by rw [Addr.add_lit, Nat.zero_add, blk_cell (w := W2) (by rw [hW2, ko gv hvl2]; exact hv) j]; simpa using hj)
      (fun j hj => by rw [blk_cell (w := W2) (by rw [hW2]; exact k0) _, Array.getElem?_eq_getElem (by omega)]; rfl)
      (fun j _ => blk_frozen (w := W2) (by rw [hW2]; exact k0) _) hv1
  obtain ⟨cur1, m1, m2, m3⟩ := heap_setCells (w := W1) vs (i * 6) ROW k0 hfit1
  have hcpB : ∀ W2 : World, W2.heap = (W1.setCells W.heap.size (i * 6) vs).heap → ∀ ty dc sc, (Builtin.copy_ #[22, 22] ty #[.slice (some ⟨W.heap.size, (i + 1) * 6, none⟩) (n - i) dc, .slice (some ⟨g, i * 6, none⟩) (n - i) sc]).run Try.prog W2 = .ok (goInt (n - i : Nat)) (W2.setCells W.heap.size ((i + 1) * 6) (cs.drop (i * 6))) := fun W2 hW2 ty dc sc =>
    run_copyZ W2 _ _ ty 33 6 W.heap.size ((i + 1) * 6) (n - i) dc ⟨g, i * 6, none⟩ (n - i) sc (n - i) (cs.drop (i * 6)) ht hsz (Nat.min_self _) hdl
      (fun j v hj => by
        have h7 : W2.heap[g]? = some (.cells cur 33 (0, 0)) := by rw [hW2, setCells_other _ _ _ _ (by omega), ko g hgl]; exact hh
        have := cells_at h7 h4 (i * 6 + j) v (by rwa [List.getElem?_drop] at hj)
        rw [Addr.add_lit]
        rwa [Nat.zero_add] at this)
      (fun j hj => by rw [blk_cell (w := W2) (by rw [hW2]; exact m1) _, Array.getElem?_eq_getElem (by omega)]; rfl)
      (fun j _ => blk_frozen (w := W2) (by rw [hW2]; exact m1) _) (fun v hv => h6 v (List.mem_of_mem_drop hv))
  have hfrA : Fr F W W1 := hW1 ▸ (Fr.of_below (below_alloc (below_drew (Below.refl _ _)) _))
  have HFIN : Aside0 (∀ W2 : World, W2.heap = (W1.setCells W.heap.size (i * 6) vs).heap → Fr F W W2 → St W F (W2.setCells W.heap.size ((i + 1) * 6) (cs.drop (i * 6))) [OwP 33 6 (.slice (some ⟨W.heap.size, 0, none⟩) (n + 1) G) (n + 1) (cs.take (i * 6) ++ vs ++ cs.drop (i * 6))]) := ⟨fun W2 hW2 hfr2 => by
    obtain ⟨cur3, q1, q2, q3⟩ := heap_setCells (w := W2) (cs.drop (i * 6)) ((i + 1) * 6) cur1 (by rw [hW2]; exact m1) (by omega)
    refine ⟨hfr2.setCells (.inr (Nat.le_refl _)) _ _, fun k => W.heap.size ≤ k, fun k hk => .inr hk, OwP.loc, OwP.of (Nat.le_refl _) q1 hGn hGm (by rw [q2, m2, hRs]) ?_ ?_ ?_, trivial⟩
    · rw [q3, m3, show (i + 1) * 6 = i * 6 + 6 from Nat.succ_mul _ _]
      exact grow_list (by omega) hvl (by rw [Array.length_toList, hRs]; exact Nat.mul_le_mul_right _ hGn) h5 hRt
    · simp only [List.length_append, List.length_take, hdl, hvl, h5]
      have := Nat.sub_mul n i 6
      omega
    · intro u hu
      rcases List.mem_append.1 hu with hu | hu
      · rcases List.mem_append.1 hu with hu | hu
        · exact h6 u (List.mem_of_mem_take hu)
        · exact hv1 u hu
      · exact h6 u (List.mem_of_mem_drop hu)⟩
  have HFR1 := Aside0.mk hfrA
  clear hkk hki hh h4 h5 h6 hv hvl hv1 hb hdl hsz hfrA hRs hRt k0 ko hfit1 hfit2 m1 m2 m3
  go_enter Try.func76, Try.ntmps76
  go_wp2_with (first
    | (at_builtin; refine Lib.wpList_append_run _ rfl _ _ _ _ rfl _ _ rfl rfl _ _ (hrz _) ?_)
    | (at_builtin; refine wpList_copy_runI _ rfl _ _ 22 22 rfl _ _ rfl rfl (hcpA _ (by rw [hW1]; rfl) _ _) ?_))
  go_region_law_o (refine step_copy_runI rfl _ _ 22 22 rfl (.slice (some ⟨W.heap.size, (i + 1) * 6, none⟩) (n - i) (G - (i + 1))) (.slice (some ⟨g, i * 6, none⟩) (n - i) (cap - i)) (by simp [Act.eval, Act.put]) (by simp [Act.eval, Act.put]) (hcpB _ (by rw [hW1]; rfl) _ (G - (i + 1)) (cap - i)) ?_)
  go_wp2
  go_ret
  refine ⟨_, rfl, HFIN.out _ (by rw [hW1]; rfl) ?_⟩
  have h9 := HFR1.out
  rw [hW1] at h9
  exact (h9.setCells (.inr (Nat.le_refl _)) _ _).trans (Fr.of_below (F := fun _ => False) (below_drew (Below.refl _ _))) (fun _ h => h.elim)
theorem ins_row (W : World) (F : Nat → Prop) (v : Value) (n i gv : Nat) (cs vs : List Value) (h : OwP 115 2 v n cs W F) (hi : i ≤ n) (hn : n ≤ 100000) (hv : W.heap[gv]? = some (.cells vs.toArray 115 (0, 0))) (hvl : vs.length = 2) (hvg : ¬ F gv) (hv1 : ∀ u ∈ vs, u.oneCell' = true) :
    Calls Try.prog 73 #[v, .int .i64 i, .slice (some ⟨gv, 0, none⟩) 1 1] W fun e w' => ∃ v', e = .returned v' ∧ St W F w' [OwP 115 2 v' (n + 1) (cs.take (i * 2) ++ vs ++ cs.drop (i * 2))] := by
  have hcl := h.2.1.1
  by_cases c : i = n
  · subst c
    have := ins_end_row W F v i gv cs vs h hn hv hvl hv1
    rwa [List.take_of_length_le (by omega), List.drop_eq_nil_of_le (by omega), List.append_nil]
  · rcases h.block with ⟨_, h0, _⟩ | ⟨g, cap, cur, rfl, hF, hh, h1, h2, h3, h4, h5⟩
    · omega
    · have hg : gv ≠ g := fun e => hvg (e ▸ hF)
      by_cases r : n + 1 ≤ cap
      · exact ins_room_row W F g n cap i gv cur cs vs hF hh r h2 h3 h4 h5 h.2.2 (by omega) hn hv hvl hg hv1
      · exact ins_grow_row W F g n cap i gv cur cs vs hh h1 r h4 h5 h.2.2 (by omega) hn hv hvl hv1
theorem ins_ord (W : World) (F : Nat → Prop) (v : Value) (n i gv : Nat) (cs vs : List Value) (h : OwP 33 6 v n cs W F) (hi : i ≤ n) (hn : n ≤ 100000) (hv : W.heap[gv]? = some (.cells vs.toArray 33 (0, 0))) (hvl : vs.length = 6) (hvg : ¬ F gv) (hv1 : ∀ u ∈ vs, u.oneCell' = true) :
    Calls Try.prog 76 #[v, .int .i64 i, .slice (some ⟨gv, 0, none⟩) 1 1] W fun e w' => ∃ v', e = .returned v' ∧ St W F w' [OwP 33 6 v' (n + 1) (cs.take (i * 6) ++ vs ++ cs.drop (i * 6))] := by
  have hcl := h.2.1.1
  by_cases c : i = n
  · subst c
    have := ins_end_ord W F v i gv cs vs h hn hv hvl hv1
    rwa [List.take_of_length_le (by omega), List.drop_eq_nil_of_le (by omega), List.append_nil]
  · rcases h.block with ⟨_, h0, _⟩ | ⟨g, cap, cur, rfl, hF, hh, h1, h2, h3, h4, h5⟩
    · omega
    · have hg : gv ≠ g := fun e => hvg (e ▸ hF)
      by_cases r : n + 1 ≤ cap
      · exact ins_room_ord W F g n cap i gv cur cs vs hF hh r h2 h3 h4 h5 h.2.2 (by omega) hn hv hvl hg hv1
      · exact ins_grow_ord W F g n cap i gv cur cs vs hh h1 r h4 h5 h.2.2 (by omega) hn hv hvl hv1
end Go.Proofs.Ytlihfiajbhpokaa.Ldo
