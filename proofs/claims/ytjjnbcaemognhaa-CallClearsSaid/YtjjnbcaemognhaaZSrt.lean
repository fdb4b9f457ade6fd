/- A part of the proof; no condition. -/
import Derived.Shelf.SlSortCmp.InsertionK
import Derived.Maps.Own
import Derived.Maps.Views
import Derived.Carry
import Derived.Test.YtjjnbcaemognhaaProg
namespace Go.Proofs
open Go.Shelf Go.RowKit Go.Lib Go.Sort
structure Bw (w : World) where
  v : World
  h : Below w.heap.size w v
instance (w : World) : Nonempty (Bw w) := ⟨⟨w, Below.refl _ _⟩⟩
instance (w : World) : Inhabited (Bw w) := ⟨⟨w, Below.refl _ _⟩⟩
theorem Bw.get {w w' : World} (h : ∃ p : Bw w, w' = p.v) : Below w.heap.size w w' := by obtain ⟨p, rfl⟩ := h; exact p.h
theorem wp_region_quiet_below {P : Program} {id : Nat} {Q : Exit → Act → World → Prop} {a : Act} {w : World} {l : List Oper} (hm : P.follows .mixedOrders = true) (hB : Region.lexB .any l.toArray = true)
    (h : wpQuiet P l.toArray (fun w' => ∃ p : Bw w, w' = p.v) (fun a' => ∀ w', (∃ p : Bw w, w' = p.v) → Q .normal a' w') l a) : (Code.region id l.toArray true).wp P Q a w :=
  wp_region_quiet (C := fun w' => ∃ p : Bw w, w' = p.v) hm hB ⟨⟨w.drew, (Below.refl _ _).drew⟩, rfl⟩ (by simpa using h)
theorem Calls.bw_of {P : Program} {f : FuncId} {args : Array Value} {w : World} (q : Bw w) {v : Value}
    (h : Calls P f args q.v fun e w' => e = .returned v ∧ Below q.v.heap.size q.v w') : Calls P f args q.v fun e w'' => e = .returned v ∧ ∃ p : Bw w, w'' = p.v :=
  h.mono fun _ w1 ⟨he, hb⟩ => ⟨he, ⟨w1, q.h.trans (hb.mono q.h.size)⟩, rfl⟩
structure Kb (blk : Nat) (w w' : World) : Prop where
  os : w'.os = w.os
  tape : w'.tape = w.tape
  output : w'.output = w.output
  size : w.heap.size ≤ w'.heap.size
  block : ∀ k, k < w.heap.size → k ≠ blk → w'.heap[k]? = w.heap[k]?
theorem Kb.refl (blk : Nat) (w : World) : Kb blk w w := ⟨rfl, rfl, rfl, Nat.le_refl _, fun _ _ _ => rfl⟩
theorem Kb.trans {blk : Nat} {a b c : World} (h : Kb blk a b) (k : Kb blk b c) : Kb blk a c :=
  ⟨k.os.trans h.os, k.tape.trans h.tape, k.output.trans h.output, Nat.le_trans h.size k.size, fun i hi hn => (k.block i (Nat.lt_of_lt_of_le hi h.size) hn).trans (h.block i hi hn)⟩
theorem Kb.below {blk : Nat} {w W W' : World} (h : Kb blk w W) (hb : Below W.heap.size W W') : Kb blk w W' :=
  h.trans ⟨hb.os, hb.tape, hb.output, hb.size, fun i hi _ => hb.block i hi⟩
theorem Kb.set {blk : Nat} {w W : World} (h : Kb blk w W) (o : Nat) (u : Value) : Kb blk w (W.setCell ⟨blk, o, none⟩ u) :=
  h.trans ⟨rfl, rfl, rfl, by simp [World.setCell], fun i _ hn => Below.heap_setCell _ _ _ _ hn⟩
theorem Kb.sets {blk : Nat} {w : World} : ∀ (vs : List Value) (o : Nat) {W : World}, Kb blk w W → Kb blk w (W.setCells blk o vs)
  | [], _, _, h => h
  | v :: r, o, _, h => Kb.sets r (o + 1) (h.set o v)
theorem blk_setCell_congr {W V : World} {b : Nat} (h : W.heap[b]? = V.heap[b]?) (a : Addr) (u : Value) : (W.setCell a u).heap[b]? = (V.setCell a u).heap[b]? := by
  simp only [World.setCell, Array.getElem?_modify, h]
theorem blk_setCells_congr {b : Nat} : ∀ (vs : List Value) (g o : Nat) {W V : World}, W.heap[b]? = V.heap[b]? → (W.setCells g o vs).heap[b]? = (V.setCells g o vs).heap[b]?
  | [], _, _, _, _, h => h
  | v :: r, g, o, _, _, h => blk_setCells_congr r g (o + 1) (blk_setCell_congr h ⟨g, o, none⟩ v)
variable {P : Program} {ρ : Ren} {α : Type} [Inhabited α]
structure SC (enc : α → List Value) (k : Nat) (w : World) (blk off : Nat) (dk : Array α) (W : World) : Prop where
  kb : Kb blk w W
  bk : W.heap[blk]? = (putRowK enc k w blk off dk).heap[blk]?
section
variable {enc : α → List Value} {k : Nat} {w W W' : World} {blk off : Nat} {d dk : Array α}
theorem SC.start (h : HoldsK enc k w blk off d) : SC enc k w blk off d w := ⟨Kb.refl _ _, by rw [putRowK_self enc k w blk off d h]⟩
theorem SC.below (h : SC enc k w blk off dk W) (hblk : blk < w.heap.size) (hb : Below W.heap.size W W') : SC enc k w blk off dk W' :=
  ⟨h.kb.below hb, (hb.block blk (Nat.lt_of_lt_of_le hblk h.kb.size)).trans h.bk⟩
theorem SC.holds (h : SC enc k w blk off dk W) (hH : HoldsK enc k w blk off d) (hs : dk.size = d.size) : HoldsK enc k W blk off dk := by
  intro j hj
  obtain ⟨a, b⟩ := holdsK_putRowK enc k w blk off d dk hH hs j hj
  exact ⟨(World.cell?_of_block h.bk).trans a, (World.frozen?_of_block h.bk).trans b⟩
theorem SC.swp (hk : ∀ x, (enc x).length = k) (h : SC enc k w blk off dk W) (i j : Nat) (hi : i < dk.size) (hj : j < dk.size) :
    SC enc k w blk off (Sort.swp dk i j) ((W.drew.setCells blk (off + i * k) (enc dk[j]!)).setCells blk (off + j * k) (enc dk[i]!)) := by
  refine ⟨Kb.sets _ _ (Kb.sets _ _ (h.kb.below (Below.refl _ _).drew)), ?_⟩
  have e := swap_worldK enc k hk w 0 0 blk off dk i j hi hj
  have e' : ((putRowK enc k w blk off dk).setCells blk (off + i * k) (enc dk[j]!)).setCells blk (off + j * k) (enc dk[i]!) = putRowK enc k w blk off (Sort.swp dk i j) := e
  rw [← e']
  exact blk_setCells_congr _ _ _ (blk_setCells_congr _ _ _ h.bk)
theorem SC.trans (h : SC enc k w blk off d W) (h' : SC enc k W blk off dk W') (hs : dk.size = d.size) : SC enc k w blk off dk W' := by
  refine ⟨h.kb.trans h'.kb, h'.bk.trans ?_⟩
  have e : putRowK enc k (putRowK enc k w blk off d) blk off dk = putRowK enc k w blk off dk := putRow_putRow id w blk off _ _ (by simp [hs])
  rw [← e]
  unfold putRowK putRow mapBlock
  simp only [Array.getElem?_modify]
  simp only [if_true]
  rw [h.bk]
  unfold putRowK putRow mapBlock
  simp only [Array.getElem?_modify, if_true]
theorem SC.ld (h : SC enc k w blk off dk W) (hH : HoldsK enc k w blk off d) (hs : dk.size = d.size) (hblk : blk < w.heap.size) (hk : ∀ x, (enc x).length = k) {i : Nat} (hi : i < dk.size) {x : α} (hx : dk[i]! = x) (p : Bw W) :
    Sem.run P (loadCellsFrom ⟨blk, off + i * k, none⟩ 0 k #[]) p.v = .ok (enc x).toArray p.v := by
  rw [← hx]; exact run_loadCellsFrom_list P _ _ _ k (hk _) (HoldsK.cells ((h.below hblk p.h).holds hH hs) hk hi)
end
set_option maxHeartbeats 4000000 in
set_option maxRecDepth 1000000 in
theorem ins_below (L : SlLaysF0.n20 P ρ) (k : Nat) (aE : ∀ w, (isAgg (ρ.t 24)).run P w = .ok true w) (zE : ∀ w, (Go.sizeOf (ρ.t 24)).run P w = .ok k w) (enc : α → List Value) (hk : ∀ x, (enc x).length = k) (h1 : ∀ x, ∀ v ∈ enc x, v.oneCell' = true)
    (cf : α → α → Int) (g : Nat) (cb : Array Value) (blk off cap a b : Nat) (d : Array α) (w : World)
    (eg : ∀ args w, (callFunc g args).run P w = .ok (.enter g args) w) (hcmp : ∀ (W : World) (x y : α), Calls P g (#[.agg (enc x).toArray, .agg (enc y).toArray] ++ cb) W fun e w' => e = .returned (.int .i64 (cf x y)) ∧ Below W.heap.size W w') (hH : HoldsK enc k w blk off d) (hblk : blk < w.heap.size) (hab : a ≤ b) (hb : b ≤ d.size) (hsz : d.size < 4611686018427387904) :
    Calls P (ρ.f 20) #[.slice (some ⟨blk, off, none⟩) d.size cap, .int .i64 a, .int .i64 b, .func (.func g) #[] cb] w fun e w' =>
      e = .returned (.tuple #[]) ∧ SC enc k w blk off (Sort.insertionSort (ltOf cf) d a b) w' := by
  have mixed := L.mixed; have t0 := L.t0; have a0 := L.a0; have z0 := L.z0; have v0 := L.v0; have t3 := L.t3; have a3 := L.a3; have z3 := L.z3; have v3 := L.v3; have t4 := L.t4; have a4 := L.a4; have z4 := L.z4; have v4 := L.v4; have t22 := L.t22; have a22 := L.a22; have z22 := L.z22; have v22 := L.v22; have t25 := L.t25; have a25 := L.a25; have z25 := L.z25; have v25 := L.v25
  have u22 := run_underlying L.t22
  obtain ⟨nm20, _, F20⟩ := L.f20
  have HC : Aside _ := hcmp
  have HST : Hid (SC enc k w blk off d w) := SC.start hH
  have HH : Hid (HoldsK enc k w blk off d) := hH
  have HK : Hid (∀ x, (enc x).length = k) := hk
  have H1 : Hid (∀ x, ∀ v ∈ enc x, v.oneCell' = true) := h1
  clear hcmp hH hk h1
  go_enter F20, SlBodyF.n20_ntmps ρ
  go_wp2
  go_loopg [8] (b - a) (fun g1 vi wr => ∃ (i : Nat) (dk : Array α), vi = .int .i64 i ∧ a < i ∧ i ≤ b + 1 ∧ b + 1 - i ≤ g1 + 1 ∧ dk.size = d.size ∧ Hid (SC enc k w blk off dk wr) ∧ Hid (insOuter (ltOf cf) a b i dk = insOuter (ltOf cf) a b (a + 1) d))
  case atStart => exact ⟨a + 1, d, by go_num, by omega, by omega, by omega, rfl, HST, rfl⟩
  case round =>
    obtain ⟨i, dk, rfl, hai, hib, hg1, hsk, HS, HO⟩ := hrel
    by_cases hlt : i < b
    · have hltz : (i : Int) < (b : Int) := by omega
      go_wp2
      go_loopg [9] i (fun g2 vj wr2 => ∃ (j : Nat) (dj : Array α), vj = .int .i64 j ∧ a ≤ j ∧ j ≤ i ∧ j ≤ g2 ∧ dj.size = d.size ∧ Hid (SC enc k w blk off dj wr2) ∧ Hid (insInner (ltOf cf) a j dj = insInner (ltOf cf) a i dk))
      case atStart => exact ⟨i, dk, rfl, by omega, Nat.le_refl _, Nat.le_refl _, hsk, HS, rfl⟩
      case round =>
        clear HS
        obtain ⟨j, dj, rfl, haj, hji, hg2, hsj, HS, HI⟩ := hrel
        have out : (j ≤ a ∨ ltOf cf dj[j]! dj[j - 1]! = false) → Hid (insOuter (ltOf cf) a b (i + 1) dj = insOuter (ltOf cf) a b (a + 1) d) := fun hs => by
          show _ = _
          rw [← HO.out, insOuter_go _ _ _ _ _ hlt, ← HI.out, insInner_stop _ _ _ _ hs]
        have OUT : Aside _ := out
        clear out
        by_cases hja : a < j
        · have hjaz : (a : Int) < (j : Int) := by omega
          obtain ⟨jp, rfl⟩ : ∃ jp, j = jp + 1 := ⟨j - 1, by omega⟩
          obtain ⟨xj, hxj⟩ : ∃ x, dj[jp + 1]! = x := ⟨_, rfl⟩
          obtain ⟨xp, hxp⟩ : ∃ x, dj[jp]! = x := ⟨_, rfl⟩
          have hwp : IntKind.i64.wrap (jp : Int) = (jp : Int) := by rw [IntKind.wrap_i64]; omega
          have jz : (jp : Int) + 1 < (d.size : Int) := by omega
          have jz1 : (jp : Int) < (d.size : Int) := by omega
          have hjaz' : (a : Int) < (jp : Int) + 1 := by omega
          have p0 : (0 : Int) ≤ (jp : Int) + 1 := by omega
          have e0 : ((jp : Int) + 1).toNat = jp + 1 := by omega
          have lj := fun p => SC.ld (P := P) HS.out HH.out hsj hblk HK.out (i := jp + 1) (by omega) hxj p
          have lp := fun p => SC.ld (P := P) HS.out HH.out hsj hblk HK.out (i := jp) (by omega) hxp p
          have hcg := fun W => HC.out W xj xp
          by_cases hlv : cf xj xp < 0
          · go_wp2_with fail
            refine wp_region_quiet_below (by assumption) (by kernel_rfl) ?_
            repeat (quiet_step (first | (go_at_fn g; refine Calls.bw_of _ (hcg _))))
            refine wpQuiet_nil ?_
            intro wq hwq_
            have hwq := Bw.get hwq_
            clear hwq_
            go_wp2_with fail
            have HS2 : Hid (SC enc k w blk off dj wq) := HS.out.below hblk hwq
            have hHd : HoldsK enc k wq.drew blk off dj := HS2.out.holds HH.out hsj
            have bnd : ∀ x, x < dj.size → x * k + k ≤ dj.size * k := fun x hx => by
              have := Nat.mul_le_mul_right k (show x + 1 ≤ dj.size from hx); rwa [Nat.add_mul, Nat.one_mul] at this
            clear lj lp hcg
            have lj2 : Sem.run P (loadCellsFrom ⟨blk, off + (jp + 1) * k, none⟩ 0 k #[]) wq.drew = .ok (enc xj).toArray wq.drew := by rw [← hxj]; exact run_loadCellsFrom_list P _ _ _ k (HK.out _) (HoldsK.cells hHd HK.out (by omega))
            have lp2 : Sem.run P (loadCellsFrom ⟨blk, off + jp * k, none⟩ 0 k #[]) wq.drew = .ok (enc xp).toArray wq.drew := by rw [← hxp]; exact run_loadCellsFrom_list P _ _ _ k (HK.out _) (HoldsK.cells hHd HK.out (by omega))
            have s1 : Sem.run P (storeCells ⟨blk, off + (jp + 1) * k, none⟩ (enc xp) 0) wq.drew = .ok () (wq.drew.setCells blk (off + (jp + 1) * k) (enc xp)) := stores_of_holds P hHd ((jp + 1) * k) _ (by rw [HK.out, size_flatK]; exact bnd (jp + 1) (by omega)) (H1.out _)
            have s2 : Sem.run P (storeCells ⟨blk, off + jp * k, none⟩ (enc xj) 0) (wq.drew.setCells blk (off + (jp + 1) * k) (enc xp)) = .ok () ((wq.drew.setCells blk (off + (jp + 1) * k) (enc xp)).setCells blk (off + jp * k) (enc xj)) :=
              stores_of_holds P (holds_setCells_c hHd ((jp + 1) * k) _ (by rw [HK.out, size_flatK]; exact bnd (jp + 1) (by omega))) (jp * k) _ (by rw [HK.out, size_setMany, size_flatK]; exact bnd jp (by omega)) (H1.out _)
            have hsJ : (enc xj).length = k := HK.out _
            have hsP : (enc xp).length = k := HK.out _
            clear hHd bnd
            obtain ⟨cJ, hcJ⟩ : ∃ c, c = enc xj := ⟨_, rfl⟩
            obtain ⟨cP, hcP⟩ : ∃ c, c = enc xp := ⟨_, rfl⟩
            rw [← hcP] at s1 lp2 hsP
            rw [← hcJ] at lj2 hsJ
            rw [← hcJ, ← hcP] at s2
            have CC : Hid (cJ = enc xj ∧ cP = enc xp) := ⟨hcJ, hcP⟩
            clear hcJ hcP
            go_big_region_o
            all_goals go_wp2
            go_roundg jp
            case measure => omega
            case rel =>
              refine ⟨jp, Sort.swp dj (jp + 1) jp, by first | rfl | go_num | (congr 1; omega), by omega, by omega, Nat.le_refl _, by rw [size_swp]; exact hsj, (show Hid _ from ?_), (show Hid _ from ?_)⟩
              · rw [CC.out.1, CC.out.2, ← hxp, ← hxj]
                exact SC.swp HK.out HS2.out (jp + 1) jp (by omega) (by omega)
              · show _ = _
                have := insInner_go (ltOf cf) a (jp + 1) dj hja (by simp only [Nat.add_sub_cancel]; rw [hxj, hxp]; exact decide_eq_true hlv)
                simp only [Nat.add_sub_cancel] at this
                rw [← HI.out, this]
          · go_wp2_with fail
            refine wp_region_quiet_below (by assumption) (by kernel_rfl) ?_
            repeat (quiet_step (first | (go_at_fn g; refine Calls.bw_of _ (hcg _))))
            refine wpQuiet_nil ?_
            intro wq hwq_
            have hwq := Bw.get hwq_
            clear hwq_
            go_wp2
            go_roundg (b - (i + 1))
            case measure => omega
            case rel => exact ⟨i + 1, dj, by go_num, by omega, by omega, by omega, hsj, HS.out.below hblk hwq, OUT.out (Or.inr (by simp only [Nat.add_sub_cancel]; rw [hxj, hxp]; exact decide_eq_false (by omega)))⟩
        · have hjaz : decide ((j : Int) > (a : Int)) = false := decide_eq_false (by omega)
          have hjaz' : ¬ (a : Int) < (j : Int) := by omega
          go_wp2_with fail
          go_big_region_o
          all_goals go_wp2
          go_roundg (b - (i + 1))
          case measure => omega
          case rel => exact ⟨i + 1, dj, by go_num, by omega, by omega, by omega, hsj, HS.out.below hblk (Below.refl _ _).drew, OUT.out (Or.inl (by omega))⟩
    · have hltz : ¬ (i : Int) < (b : Int) := by omega
      go_wp2
      go_end0
      refine ⟨rfl, ?_⟩
      have e : Sort.insertionSort (ltOf cf) d a b = dk := by unfold Sort.insertionSort; rw [← HO.out, insOuter_stop _ _ _ _ _ hlt]
      rw [e]; exact HS.out
theorem own_sort {enc : α → List Value} {k : Nat} {w : World} {base : Nat} {e : TypeId} {v : Value} {xs : List α} {cs : List Value} (h : w.ownsRow base e k v xs.length cs) (hk : ∀ x, (enc x).length = k) (hx : ∀ j x, xs[j]? = some x → (cs.drop (j * k)).take k = enc x) (hn : 0 < xs.length) :
    ∃ g cap, v = .slice (some ⟨g, 0, none⟩) xs.length cap ∧ base ≤ g ∧ g < w.heap.size ∧ HoldsK enc k w g 0 xs.toArray ∧ ∀ (d : Array α) (w' : World), d.size = xs.length → SC enc k w g 0 d w' → w'.ownsRow base e k v d.toList.length (flatK enc k d).toList := by
  obtain ⟨h1, h2 | ⟨g, cap, cur, rfl, hg, hh, hnc, hcm, hcs, ht⟩⟩ := h
  · omega
  have hgl : g < w.heap.size := by
    rcases Nat.lt_or_ge g w.heap.size with q | q
    · exact q
    · rw [Array.getElem?_eq_none q] at hh; cases hh
  have hle : xs.length * k ≤ cap * k := Nat.mul_le_mul_right _ hnc
  refine ⟨g, cap, rfl, hg, hgl, ?_, ?_⟩
  · intro t ht'
    have htk : t < xs.length * k := by simpa using ht'
    have k0 : 0 < k := by rcases Nat.eq_zero_or_pos k with q | q
                          · subst q; simp at htk
                          · exact q
    have hj : t / k < xs.length := Nat.div_lt_of_lt_mul (by rw [Nat.mul_comm]; exact htk)
    have hm : t % k < k := Nat.mod_lt _ k0
    have e1 := hx (t / k) _ (List.getElem?_eq_getElem hj)
    have e2 : (t / k) * k + t % k = t := by rw [Nat.mul_comm]; exact Nat.div_add_mod t k
    have e3 : cs[t]? = (enc xs[t / k])[t % k]? := by rw [← e1, List.getElem?_take, if_pos hm, List.getElem?_drop, e2]
    have e4 : cur[t]? = cs[t]? := by rw [← ht, List.getElem?_take, if_pos htk]; exact (Array.getElem?_toList ..).symm
    have hl : t % k < (enc xs[t / k]).length := by rw [hk]; exact hm
    refine ⟨?_, ?_⟩
    · rw [get_flatK _ _ _ _ (by simpa using htk)]
      show World.cell? w ⟨g, 0 + t, none⟩ = _
      rw [Nat.zero_add]
      show (match w.heap[g]? with | some (.cells cells _ _) => cells[t]? | _ => none) = _
      rw [hh]
      show cur[t]? = _
      rw [e4, e3, List.getElem?_eq_getElem hl]
      simp [hj, hl]
    · simp [World.frozen?, hh]
  · intro d w' hd hS
    have hb := hS.bk
    have hb' : w'.heap[g]? = some (.cells (putCells id 0 (flatK enc k d) cur) e (0, 0)) := by
      rw [hb]; simp [putRowK, putRow, mapBlock, Array.getElem?_modify, hh, onCells]
    have hsz : (putCells id 0 (flatK enc k d) cur).size = cap * k := by simp [putCells, hcs]
    refine ⟨by simp, .inr ⟨g, cap, _, by simp [hd], hg, hb', by simpa [hd] using hnc, hcm, hsz, ?_⟩⟩
    apply List.ext_getElem?
    intro t
    rw [List.getElem?_take]
    have hds : d.toList.length = d.size := by simp
    rw [hds]
    by_cases htk : t < d.size * k
    · rw [if_pos htk, Array.getElem?_toList, Array.getElem?_toList]
      have hc : t < cur.size := by rw [hcs]; rw [hd] at htk; omega
      simp only [putCells, Array.getElem?_mapIdx, Array.getElem?_eq_getElem hc, Option.map_some]
      rw [if_pos ⟨Nat.zero_le _, by simpa using htk⟩, Nat.sub_zero, getElem!_pos _ t (by simpa using htk)]
      simp
    · rw [if_neg htk, Array.getElem?_toList, Array.getElem?_eq_none (by simpa using htk)]
theorem flatK_drop {enc : α → List Value} {k : Nat} (hk : ∀ x, (enc x).length = k) (d : Array α) (j : Nat) (x : α) (h : d.toList[j]? = some x) : ((flatK enc k d).toList.drop (j * k)).take k = enc x := by
  obtain ⟨hj, rfl⟩ := List.getElem?_eq_some_iff.1 h
  have hj' : j < d.size := by simpa using hj
  apply List.ext_getElem?
  intro i
  rw [List.getElem?_take]
  by_cases hi : i < k
  · rw [if_pos hi, List.getElem?_drop, Array.getElem?_toList]
    have hlt : j * k + i < d.size * k := by
      have := Nat.mul_le_mul_right k (show j + 1 ≤ d.size from hj'); rw [Nat.add_mul, Nat.one_mul] at this; omega
    have e1 : (j * k + i) / k = j := (blk_iff k j _ (by omega)).1 ⟨by omega, by omega⟩
    have e2 : (j * k + i) % k = i := by rw [Nat.mod_eq_sub_div_mul, e1]; omega
    rw [Array.getElem?_eq_getElem (by simpa using hlt)]
    have := get_flatK enc k d _ hlt
    rw [getElem!_pos _ _ (by simpa using hlt), e1, e2] at this
    rw [this]
    simp [hj', hk, hi]
  · rw [if_neg hi, List.getElem?_eq_none (by rw [hk]; omega)]
section
open Go.Maps
def setD (q : IntKind) : List Int → DataW Unit
  | [] => .map []
  | a :: S => (setD q S).put (.int q a) (.lit (.bool true))
theorem setD_isMap (q : IntKind) : ∀ S, IsMap (setD q S)
  | [] => isMap_empty
  | _ :: S => (setD_isMap q S).put _ _
theorem setD_at (q : IntKind) (a : Int) : ∀ S : List Int, (setD q S).atKey (.int q a) (.lit (.bool false)) = .lit (.bool (S.contains a))
  | [] => rfl
  | b :: S => by
    rw [setD, List.contains_cons]
    by_cases h : a = b
    · subst h
      rw [atKey_put_same (k := Lit.int q a) (setD_isMap q S) (show WideAt.IsKeyLit (Lit.int q a) from trivial)]
      simp
    · rw [atKey_put_other (by intro e; cases e; exact h rfl), setD_at q a S]
      simp [h]
def SetM (P : Program) (k e : TypeId) (q : IntKind) (w : World) (b n : Nat) (S : List Int) : Prop := w.ownsMap P k (plainElem P e) b n (setD q S)
theorem SetM.made (P : Program) (k e : TypeId) (q : IntKind) (w : World) : SetM P k e q (w.alloc (.map #[] 0)) w.heap.size 0 [] := World.ownsMap_made w P k _
theorem SetM.kept {P : Program} {k e : TypeId} {q : IntKind} {w w' : World} {b n : Nat} {S : List Int} (h : SetM P k e q w b n S) (hb : Below w.heap.size w w') : SetM P k e q w' b n S := by
  have hlt := World.ownsMap.lt h
  obtain ⟨es, clock, hb', F, hs, hD⟩ := h
  exact ⟨es, clock, (hb.block b hlt).trans hb', F, hs, hD⟩
theorem SetM.lt {P : Program} {k e : TypeId} {q : IntKind} {w : World} {b n : Nat} {S : List Int} (h : SetM P k e q w b n S) : b < w.heap.size := World.ownsMap.lt h
theorem SetM.look {P : Program} {k e t : TypeId} {q : IntKind} {w : World} {b n : Nat} {S : List Int} (h : SetM P k e q w b n S) (hk : P.underlying k = some (.int q)) (he : P.underlying e = some .bool) (ht : P.underlying t = some (.map k e)) (hz : (zeroValue e).run P w = .ok (.bool false) w)
    (a : Int) (ha : (Lit.int q a).wf = true) : (Instr.lookup t (.map (some b)) (.int q a) false).run P w = .ok (.bool (S.contains a)) w := by
  obtain ⟨v, ps, hrun, hv⟩ := World.ownsMap.lookup h (int_keyed hk) ht hz (plainElem_bool he false) (keyOf_int_mk hk ha)
  rw [setD_at] at hv
  have e1 : v = .bool (S.contains a) := by
    unfold plainElem at hv
    rw [he] at hv
    cases v <;> simp at hv
    rw [hv.1]
    simp
  rw [hrun, e1]
theorem SetM.put {P : Program} {k e t : TypeId} {q : IntKind} {w : World} {b n : Nat} {S : List Int} (h : SetM P k e q w b n S) (hk : P.underlying k = some (.int q)) (he : P.underlying e = some .bool) (ht : P.underlying t = some (.map k e)) (hn : n < maxLen)
    (a : Int) (ha : (Lit.int q a).wf = true) : ∃ w', (Instr.mapUpdate t (.map (some b)) (.int q a) (.bool true)).run P w = .ok () w' ∧ SetM P k e q w' b (n + 1) (a :: S) ∧ w.grownBy w' (some b) :=
  World.ownsMap.update h (int_keyed hk) ht hn (keyOf_int_mk hk ha) (plainElem_bool he true)
end
end Go.Proofs
