/- Whatever reads as data of a parameter's type has the cells of a value of its kind: for the rows of this group; no condition. -/
import Derived.Test.YtlihfiajbhpokaaZLdox0
import Derived.Deep.Slices
import Derived.Deep.Fields
import Derived.ChangeSame
import Derived.WalkKit
import Derived.ProofKit
import Derived.OpenShut
import Derived.ShutString
import Derived.ChangeOld
import Derived.Below
import Derived.SizedLaws
namespace Go.Proofs.Ytlihfiajbhpokaa.Ldo
set_option linter.unusedVariables false
set_option linter.unusedSimpArgs false
open Go.ChangeShapes Go.WideShapes Go.ChangeAt Go.RowKit Go.Deep Go.Proofs.YtlihfiajbhpokaaW.PrintWords
section
variable {H : Type} {enc : TypeId × Value → H} {P : Program} {w : World} {base : Nat} {spare : Nat → Bool} {held : Bool}
def Opens {α : Type} (enc : TypeId × Value → H) (P : Program) (w : World) (base : Nat) (spare : Nat → Bool) (held : Bool) (t : TypeId) (d : Kd α) (WF : α → Prop) : Prop :=
  ∀ (fuel : Nat) (cs : List Value) (x : DataW H × List MemPlace), DataW.trod enc P w base spare held fuel t cs = some x → ∃ v, d.K w v cs ∧ WF v
theorem opens_int {t : TypeId} {k : IntKind} (h : P.underlying t = some (.int k)) : Opens enc P w base spare held t (Kd.int k) (fun n => (Lit.int k n).wf = true) := by
  intro fuel cs x hx
  obtain ⟨n, rfl, _, hw⟩ := DataW.trod_int h hx
  exact ⟨n, rfl, hw⟩
theorem exists_list {α : Type} (n : Nat) (Q : Nat → α → Prop) (h : ∀ i, i < n → ∃ v, Q i v) : ∃ l : List α, l.length = n ∧ ∀ i v, l[i]? = some v → Q i v := by
  induction n with
  | zero => exact ⟨[], rfl, fun i v hv => by simp at hv⟩
  | succ n ih =>
    obtain ⟨l, hl, hq⟩ := ih (fun i hi => h i (by omega))
    obtain ⟨v, hv⟩ := h n (by omega)
    refine ⟨l ++ [v], by simp [hl], fun i u hu => ?_⟩
    by_cases hi : i < l.length
    · rw [List.getElem?_append_left hi] at hu
      exact hq i u hu
    · rw [List.getElem?_append_right (by omega)] at hu
      have h0 : i - l.length = 0 := by
        have := (List.getElem?_eq_some_iff.1 hu).1
        simp at this
        omega
      rw [h0] at hu
      simp at hu
      subst hu
      obtain rfl : i = n := by omega
      exact hv
theorem opens_slice {α : Type} {t e : TypeId} {d : Kd α} {WF : α → Prop} (h : P.underlying t = some (.slice e)) (hc : P.cellsOf e = d.sz) (ho : Opens enc P w base spare held e d WF) : Opens enc P w base spare held t (Kd.slice e d) (fun l => l.length ≤ maxLen ∧ ∀ x ∈ l, WF x) := by
  intro fuel cs x hx
  rcases DataW.trod_slice h hx with ⟨rfl, _⟩ | ⟨a, len, cap, elems, rest, n, _, rfl, _, _, hlc, hcm, hel, hi, _⟩
  · exact ⟨[], ⟨none, 0, rfl, Nat.le_refl _, rfl, Nat.zero_le _, fun hh => absurd hh (Nat.lt_irrefl _)⟩, Nat.zero_le _, fun x hx => by cases hx⟩
  · obtain ⟨l, hl, hq⟩ := exists_list len (fun i v => (∃ c : List Value, d.K w v c ∧ ∀ j u, c[j]? = some u → w.cell? (a.add (i * d.sz + j)) = some u) ∧ WF v) (fun i hlt => by
      have h1 := hi i hlt
      rw [List.getElem?_eq_getElem (by omega)] at h1
      cases hcs : w.cells? base (a.add (i * P.cellsOf e)) (P.cellsOf e) with
      | none => rw [hcs] at h1; cases h1
      | some cs' =>
        rw [hcs] at h1
        obtain ⟨v, hk, hw⟩ := ho n cs' _ h1
        obtain ⟨_, hcl, hat⟩ := World.cells?_some hcs
        refine ⟨v, ⟨cs', hk, fun j u hu => ?_⟩, hw⟩
        have hj : j < P.cellsOf e := by rw [← hcl]; exact (List.getElem?_eq_some_iff.1 hu).1
        have h2 := hat j hj
        rw [← Go.Deep.add_add, ← hc, h2]
        exact hu)
    refine ⟨l, ⟨some a, cap, by rw [hl], by omega, rfl, by have := hcm; unfold maxLen at this; omega, fun _ => ⟨a, rfl, fun j p hj => ?_⟩⟩, by omega, fun x hx => ?_⟩
    · obtain ⟨⟨c, hk, hcell⟩, _⟩ := hq j p hj
      exact ⟨c, d.K_len hk, hk, hcell⟩
    · obtain ⟨j, hj, rfl⟩ := List.mem_iff_getElem.1 hx
      exact (hq j _ (List.getElem?_eq_getElem hj)).2
theorem pair_take {α β : Type} {a : Kd α} {b : Kd β} {x : α} {y : β} {cs : List Value} {o sa sb : Nat} (h0 : a.K w x ((cs.drop o).take sa)) (h1 : b.K w y ((cs.drop (o + sa)).take sb)) : (Kd.pair a b).K w (x, y) ((cs.drop o).take (sa + sb)) := by
  refine ⟨_, _, ?_, h0, h1⟩
  rw [List.take_add, List.drop_drop]
theorem field_at {n : Nat} {fs : Array Field} {cs : List Value} {xs : List (DataW H × List MemPlace)} (hxl : xs.length = fs.size) (hf : ∀ (i : Nat) (f : Field), fs[i]? = some f → DataW.trod enc P w base spare held n f.type (List.take (P.cellsOf f.type) (List.drop f.offset cs)) = xs[i]?) (i : Nat) (f : Field) (hi : fs[i]? = some f) :
    ∃ y, DataW.trod enc P w base spare held n f.type (List.take (P.cellsOf f.type) (List.drop f.offset cs)) = some y := by
  have hlt : i < fs.size := (Array.getElem?_eq_some_iff.1 hi).1
  exact ⟨xs[i]'(by omega), (hf i f hi).trans (List.getElem?_eq_getElem (by omega))⟩
end
section
variable {H : Type} {enc : TypeId × Value → H} {w : World} {base : Nat} {spare : Nat → Bool} {held : Bool}
def WF33 (x : S33) : Prop := ((Lit.int .u64 x.f0).wf = true) ∧ ((Lit.int .i64 x.f1).wf = true) ∧ ((Lit.int .i64 x.f2).wf = true) ∧ ((Lit.int .i64 x.f3).wf = true) ∧ ((Lit.int .i64 x.f4).wf = true) ∧ ((Lit.int .u64 x.f5).wf = true)
theorem opens_S33 : Opens enc Try.prog w base spare held 33 k33 WF33 := by
  intro fuel cs x h
  obtain ⟨xs, n, _, _, hlen, hxl, hf⟩ := DataW.trod_struct Try.underlying33 h
  obtain ⟨y0, hy0⟩ := field_at hxl hf 0 _ rfl
  have q0 : Try.prog.cellsOf 31 = 1 := by kernel_rfl
  obtain ⟨v0, h0, g0⟩ := (opens_int Try.underlying31) n _ _ hy0
  replace h0 : ((Kd.int .u64)).K w v0 (List.take (Try.prog.cellsOf 31) (List.drop 0 cs)) := h0
  rw [q0] at h0
  obtain ⟨y1, hy1⟩ := field_at hxl hf 1 _ rfl
  have q1 : Try.prog.cellsOf 3 = 1 := by kernel_rfl
  obtain ⟨v1, h1, g1⟩ := (opens_int Try.underlying3) n _ _ hy1
  replace h1 : ((Kd.int .i64)).K w v1 (List.take (Try.prog.cellsOf 3) (List.drop 1 cs)) := h1
  rw [q1] at h1
  obtain ⟨y2, hy2⟩ := field_at hxl hf 2 _ rfl
  have q2 : Try.prog.cellsOf 3 = 1 := by kernel_rfl
  obtain ⟨v2, h2, g2⟩ := (opens_int Try.underlying3) n _ _ hy2
  replace h2 : ((Kd.int .i64)).K w v2 (List.take (Try.prog.cellsOf 3) (List.drop 2 cs)) := h2
  rw [q2] at h2
  obtain ⟨y3, hy3⟩ := field_at hxl hf 3 _ rfl
  have q3 : Try.prog.cellsOf 2 = 1 := by kernel_rfl
  obtain ⟨v3, h3, g3⟩ := (opens_int Try.underlying2) n _ _ hy3
  replace h3 : ((Kd.int .i64)).K w v3 (List.take (Try.prog.cellsOf 2) (List.drop 3 cs)) := h3
  rw [q3] at h3
  obtain ⟨y4, hy4⟩ := field_at hxl hf 4 _ rfl
  have q4 : Try.prog.cellsOf 2 = 1 := by kernel_rfl
  obtain ⟨v4, h4, g4⟩ := (opens_int Try.underlying2) n _ _ hy4
  replace h4 : ((Kd.int .i64)).K w v4 (List.take (Try.prog.cellsOf 2) (List.drop 4 cs)) := h4
  rw [q4] at h4
  obtain ⟨y5, hy5⟩ := field_at hxl hf 5 _ rfl
  have q5 : Try.prog.cellsOf 31 = 1 := by kernel_rfl
  obtain ⟨v5, h5, g5⟩ := (opens_int Try.underlying31) n _ _ hy5
  replace h5 : ((Kd.int .u64)).K w v5 (List.take (Try.prog.cellsOf 31) (List.drop 5 cs)) := h5
  rw [q5] at h5
  have qt : Try.prog.cellsOf 33 = 6 := by kernel_rfl
  rw [qt] at hlen
  have hk := (pair_take (o := 0) (sa := 1) (sb := 5) h0 (pair_take (o := 1) (sa := 1) (sb := 4) h1 (pair_take (o := 2) (sa := 1) (sb := 3) h2 (pair_take (o := 3) (sa := 1) (sb := 2) h3 (pair_take (o := 4) (sa := 1) (sb := 1) h4 h5)))))
  rw [List.drop_zero, List.take_of_length_le (by omega)] at hk
  exact ⟨⟨v0, v1, v2, v3, v4, v5⟩, hk, ⟨g0, g1, g2, g3, g4, g5⟩⟩
end
end Go.Proofs.Ytlihfiajbhpokaa.Ldo
