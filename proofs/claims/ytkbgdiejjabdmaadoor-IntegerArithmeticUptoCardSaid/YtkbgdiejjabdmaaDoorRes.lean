/- Structs in variables: a result's variable, a boxed parameter. -/
import Derived.Test.YtkbgdiejjabdmaaDoorNatG
namespace Go.Proofs.YtkbgdiejjabdmaaDoor
open Go.RowKit

theorem load_int (w : World) (g : Nat) (x y : Value) (t : TypeId) (h : w.heap[g]? = some (.cells #[x, y] t (0, 0))) :
    (loadVar 51 ⟨g, 0, none⟩).run Tryd.prog w = .ok (.agg #[x, y]) w := by
  have hc0 : w.cell? ⟨g, 0, none⟩ = some x := cell_of_row w _ 0 _ _ _ h
  have hc1 : w.cell? ⟨g, 1, none⟩ = some y := cell_of_row w _ 1 _ _ _ h
  simp [loadVar, go_sem, hc0, hc1]
theorem load_ratio (w : World) (g : Nat) (x y z : Value) (t : TypeId) (h : w.heap[g]? = some (.cells #[x, y, z] t (0, 0))) :
    (loadVar 71 ⟨g, 0, none⟩).run Tryd.prog w = .ok (.agg #[x, y, z]) w := by
  have hc0 : w.cell? ⟨g, 0, none⟩ = some x := cell_of_row w _ 0 _ _ _ h
  have hc1 : w.cell? ⟨g, 1, none⟩ = some y := cell_of_row w _ 1 _ _ _ h
  have hc2 : w.cell? ⟨g, 2, none⟩ = some z := cell_of_row w _ 2 _ _ _ h
  simp [loadVar, go_sem, hc0, hc1, hc2]

theorem new_block {w w1 : World} {cs : Array Value} {t : TypeId} (hg : Gr (w.alloc (.cells cs t)) w1) : w1.heap[w.heap.size]? = some (.cells cs t (0, 0)) :=
  hg.block (heap_alloc_new w _)

/-- Block g holds these cells, free to write. -/
def Blk (w : World) (g : Nat) (cs : Array Value) (t : TypeId) : Prop := w.heap[g]? = some (.cells cs t (0, 0))
theorem Blk.cell {w : World} {g : Nat} {cs : Array Value} {t : TypeId} (h : Blk w g cs t) (i : Nat) : w.cell? ⟨g, i, none⟩ = cs[i]? := cell_of_row w _ i _ _ _ h
theorem Blk.c {w : World} {g : Nat} {cs : Array Value} {t : TypeId} (h : Blk w g cs t) (i : Nat) {v : Value} (hv : cs[i]? = some v) : w.cell? ⟨g, i, none⟩ = some v := (h.cell i).trans hv
theorem Blk.free {w : World} {g : Nat} {cs : Array Value} {t : TypeId} (h : Blk w g cs t) (i : Nat) : w.frozen? ⟨g, i, none⟩ = false := free_blk h i
theorem Blk.lt {w : World} {g : Nat} {cs : Array Value} {t : TypeId} (h : Blk w g cs t) : g < w.heap.size := (Array.getElem?_eq_some_iff.1 h).1
theorem Blk.gr {w w' : World} {g : Nat} {cs : Array Value} {t : TypeId} (h : Blk w g cs t) (hg : Gr w w') : Blk w' g cs t := hg.block h
theorem Blk.new (w : World) (cs : Array Value) (t : TypeId) : Blk (w.alloc (.cells cs t)) w.heap.size cs t := heap_alloc_new w _
theorem Blk.ex {w w' : World} {g k : Nat} {cs : Array Value} {t : TypeId} (h : Blk w k cs t) (hx : Ex g w w') (hk : k ≠ g) : Blk w' k cs t := (hx.block k hk).trans h
theorem al1 (w : World) (c1 : Array Value) (t1 : TypeId) : Gr w (w.alloc (.cells c1 t1)) ∧ Blk (w.alloc (.cells c1 t1)) w.heap.size c1 t1 := ⟨Gr.alloc w _, Blk.new w _ _⟩
theorem al2 (w : World) (c1 c2 : Array Value) (t1 t2 : TypeId) : Gr w ((w.alloc (.cells c1 t1)).alloc (.cells c2 t2)) ∧ Blk ((w.alloc (.cells c1 t1)).alloc (.cells c2 t2)) w.heap.size c1 t1 ∧ Blk ((w.alloc (.cells c1 t1)).alloc (.cells c2 t2)) (w.heap.size + 1) c2 t2 := by
  obtain ⟨hg, h1⟩ := al1 w c1 t1
  obtain ⟨hg2, h2⟩ := al1 (w.alloc (.cells c1 t1)) c2 t2
  have hs : (w.alloc (.cells c1 t1)).heap.size = w.heap.size + 1 := by simp
  rw [hs] at h2
  exact ⟨hg.trans hg2, h1.gr hg2, h2⟩
theorem al3 (w : World) (c1 c2 c3 : Array Value) (t1 t2 t3 : TypeId) : Gr w (((w.alloc (.cells c1 t1)).alloc (.cells c2 t2)).alloc (.cells c3 t3)) ∧ Blk (((w.alloc (.cells c1 t1)).alloc (.cells c2 t2)).alloc (.cells c3 t3)) w.heap.size c1 t1 ∧ Blk (((w.alloc (.cells c1 t1)).alloc (.cells c2 t2)).alloc (.cells c3 t3)) (w.heap.size + 1) c2 t2 ∧ Blk (((w.alloc (.cells c1 t1)).alloc (.cells c2 t2)).alloc (.cells c3 t3)) (w.heap.size + 1 + 1) c3 t3 := by
  obtain ⟨hg, h1, h2⟩ := al2 w c1 c2 t1 t2
  obtain ⟨hg2, h3⟩ := al1 ((w.alloc (.cells c1 t1)).alloc (.cells c2 t2)) c3 t3
  have hs : ((w.alloc (.cells c1 t1)).alloc (.cells c2 t2)).heap.size = w.heap.size + 1 + 1 := by simp
  rw [hs] at h3
  exact ⟨hg.trans hg2, h1.gr hg2, h2.gr hg2, h3⟩
theorem al4 (w : World) (c1 c2 c3 c4 : Array Value) (t1 t2 t3 t4 : TypeId) : Gr w ((((w.alloc (.cells c1 t1)).alloc (.cells c2 t2)).alloc (.cells c3 t3)).alloc (.cells c4 t4)) ∧ Blk ((((w.alloc (.cells c1 t1)).alloc (.cells c2 t2)).alloc (.cells c3 t3)).alloc (.cells c4 t4)) w.heap.size c1 t1 ∧ Blk ((((w.alloc (.cells c1 t1)).alloc (.cells c2 t2)).alloc (.cells c3 t3)).alloc (.cells c4 t4)) (w.heap.size + 1) c2 t2 ∧ Blk ((((w.alloc (.cells c1 t1)).alloc (.cells c2 t2)).alloc (.cells c3 t3)).alloc (.cells c4 t4)) (w.heap.size + 1 + 1) c3 t3 ∧ Blk ((((w.alloc (.cells c1 t1)).alloc (.cells c2 t2)).alloc (.cells c3 t3)).alloc (.cells c4 t4)) (w.heap.size + 1 + 1 + 1) c4 t4 := by
  obtain ⟨hg, h1, h2, h3⟩ := al3 w c1 c2 c3 t1 t2 t3
  obtain ⟨hg2, h4⟩ := al1 (((w.alloc (.cells c1 t1)).alloc (.cells c2 t2)).alloc (.cells c3 t3)) c4 t4
  have hs : (((w.alloc (.cells c1 t1)).alloc (.cells c2 t2)).alloc (.cells c3 t3)).heap.size = w.heap.size + 1 + 1 + 1 := by simp
  rw [hs] at h4
  exact ⟨hg.trans hg2, h1.gr hg2, h2.gr hg2, h3.gr hg2, h4⟩
theorem Blk.set {w : World} {g : Nat} {cs : Array Value} {t : TypeId} (h : Blk w g cs t) (i : Nat) (v : Value) : Blk (w.setCell ⟨g, i, none⟩ v) g (cs.setIfInBounds i v) t := by
  unfold Blk at h ⊢
  simp only [World.setCell]
  rw [Array.getElem?_modify, if_pos rfl, h]
  rfl

theorem RdN.exb {g b : Nat} {w w' : World} {A : Option Addr} {c : Nat} {xs : List Int} (h : RdN w A c xs) (hx : Ex g w w') (ho : Own w b A xs.length) (hb : g < b) : RdN w' A c xs :=
  ⟨h.cap, h.lim, fun hp => by
    obtain ⟨k, o, he, hc⟩ := h.cells hp
    obtain ⟨k', o', he', hk, _⟩ := ho hp
    rw [he] at he'
    injection he' with he'
    injection he' with e1 e2
    subst e1
    exact ⟨k, o, he, fun j hj => (hx.cell (p := ⟨k, o + j, none⟩) (by show k ≠ g; omega)).trans (hc j hj)⟩⟩
theorem Own.exb {g b : Nat} {w w' : World} {A : Option Addr} {n : Nat} (h : Own w b A n) (hx : Ex g w w') (hb : g < b) : Own w' b A n := fun hp => by
  obtain ⟨k, o, he, h1, h2, h3⟩ := h hp
  refine ⟨k, o, he, h1, by rw [hx.size]; exact h2, fun j hj => ?_⟩
  rw [← h3 j hj]
  simp only [World.frozen?]
  rw [hx.block k (by omega)]
theorem VN.exb {g b : Nat} {w w' : World} {v : Value} {n L : Nat} (h : VN w b v n L) (hx : Ex g w w') (hb : g < b) : VN w' b v n L := by
  obtain ⟨A, c, h1, h2, h3, h4⟩ := h
  exact ⟨A, c, h1, h2.exb hx h4 hb, h3, h4.exb hx hb⟩
theorem VZ.exb {g b : Nat} {w w' : World} {v : Value} {z : Int} {L : Nat} (h : VZ w b v z L) (hx : Ex g w w') (hb : g < b) : VZ w' b v z L := by
  obtain ⟨m, h1, h2⟩ := h
  exact ⟨m, h1, h2.exb hx hb⟩
theorem VQ.exb {g b : Nat} {w w' : World} {v : Value} {q : Rat} {L : Nat} (h : VQ w b v q L) (hx : Ex g w w') (hb : g < b) : VQ w' b v q L := by
  obtain ⟨m, d, h1, h2, h3⟩ := h
  exact ⟨m, d, h1, h2.exb hx hb, h3.exb hx hb⟩
theorem Gr.ex {g : Nat} {w w1 w' : World} (h : Gr w w1) (hx : Ex g w1 w') (hg : w.heap.size ≤ g) : Gr w w' := Below.trans h (hx.below hg)

theorem VZ.form {w : World} {b : Nat} {v : Value} {z : Int} {L : Nat} (h : VZ w b v z L) : ∃ A n c, v = .agg #[.bool (decide (z < 0)), .slice A n c] ∧ VZ w b (.agg #[.bool (decide (z < 0)), .slice A n c]) z L := by
  obtain ⟨m, rfl, A, c, rfl, h2⟩ := h
  exact ⟨A, _, c, rfl, _, rfl, A, c, rfl, h2⟩
theorem VQ.form {w : World} {b : Nat} {v : Value} {q : Rat} {L : Nat} (h : VQ w b v q L) : ∃ A n c B k d, v = .agg #[.bool (decide (q.num < 0)), .slice A n c, .slice B k d] ∧ VQ w b (.agg #[.bool (decide (q.num < 0)), .slice A n c, .slice B k d]) q L := by
  obtain ⟨m, e, rfl, ⟨A, c, rfl, h2⟩, B, d, rfl, h3⟩ := h
  exact ⟨A, _, c, B, _, d, rfl, _, _, rfl, ⟨A, c, rfl, h2⟩, B, d, rfl, h3⟩
theorem set1 {w : World} {g i : Nat} {x u : Value} {p : Addr} (hp : p.block ≠ g) (h : w.cell? p = some u) : (w.setCell ⟨g, i, none⟩ x).cell? p = some u :=
  (((Ex.refl g w).setCell i x).cell hp).trans h
theorem set2 {w : World} {g : Nat} {x y u : Value} {p : Addr} (hp : p.block ≠ g) (h : w.cell? p = some u) : ((w.setCell ⟨g, 0, none⟩ x).setCell ⟨g, 1, none⟩ y).cell? p = some u := set1 hp (set1 hp h)
theorem set3 {w : World} {g : Nat} {x y z u : Value} {p : Addr} (hp : p.block ≠ g) (h : w.cell? p = some u) : (((w.setCell ⟨g, 0, none⟩ x).setCell ⟨g, 1, none⟩ y).setCell ⟨g, 2, none⟩ z).cell? p = some u := set1 hp (set2 hp h)
theorem asAddr_run (P : Program) (w : World) (p : Addr) : (asAddr (.pointer (some p))).run P w = .ok p w := by simp [asAddr]

section
variable {fn : Func} {R : Ending → World → Prop} {a : Act} {w1 : World} {g p : Nat} {t : TypeId}
/-- A result of type Int, written whole. -/
theorem int_end {x y a0 b0 : Value} (h : fn.results = #[.cell p 51]) (ht : a.tmps.getD p undef = .pointer (some ⟨g, 0, none⟩)) (hd : a.defers = []) (hb : Blk w1 g #[a0, b0] t)
    (hR : ∀ W, Ex g w1 W → R (.returned (.agg #[x, y])) W) : bodyPost Tryd.prog fn R .ret a ((w1.setCell ⟨g, 0, none⟩ x).setCell ⟨g, 1, none⟩ y) := by
  have hb2 : Blk ((w1.setCell ⟨g, 0, none⟩ x).setCell ⟨g, 1, none⟩ y) g #[x, y] t := (hb.set 0 x).set 1 y
  refine bodyPost_ret (v := .agg #[x, y]) ?_ hd (hR _ (((Ex.refl g w1).setCell 0 x).setCell 1 y))
  simp only [results, h]
  rw [Array.getD_eq_getD_getElem?] at ht
  simp [Sem.run_bind, Result.andThen, ht, asAddr_run, load_int _ _ _ _ _ hb2]
theorem int_end_b {x y a0 b0 : Value} {u : Nat} (h : fn.results = #[.cell p 51, .tmp u]) (ht : a.tmps.getD p undef = .pointer (some ⟨g, 0, none⟩)) (hd : a.defers = []) (hb : Blk w1 g #[a0, b0] t)
    (hR : ∀ W, Ex g w1 W → R (.returned (.tuple #[.agg #[x, y], a.tmps.getD u undef])) W) : bodyPost Tryd.prog fn R .ret a ((w1.setCell ⟨g, 0, none⟩ x).setCell ⟨g, 1, none⟩ y) := by
  have hb2 : Blk ((w1.setCell ⟨g, 0, none⟩ x).setCell ⟨g, 1, none⟩ y) g #[x, y] t := (hb.set 0 x).set 1 y
  refine bodyPost_ret (v := .tuple #[.agg #[x, y], a.tmps.getD u undef]) ?_ hd (hR _ (((Ex.refl g w1).setCell 0 x).setCell 1 y))
  simp only [results, h]
  rw [Array.getD_eq_getD_getElem?] at ht
  simp [Sem.run_bind, Result.andThen, ht, asAddr_run, load_int _ _ _ _ _ hb2]
theorem ratio_end {x y z a0 b0 c0 : Value} (h : fn.results = #[.cell p 71]) (ht : a.tmps.getD p undef = .pointer (some ⟨g, 0, none⟩)) (hd : a.defers = []) (hb : Blk w1 g #[a0, b0, c0] t)
    (hR : ∀ W, Ex g w1 W → R (.returned (.agg #[x, y, z])) W) : bodyPost Tryd.prog fn R .ret a (((w1.setCell ⟨g, 0, none⟩ x).setCell ⟨g, 1, none⟩ y).setCell ⟨g, 2, none⟩ z) := by
  have hb2 : Blk (((w1.setCell ⟨g, 0, none⟩ x).setCell ⟨g, 1, none⟩ y).setCell ⟨g, 2, none⟩ z) g #[x, y, z] t := ((hb.set 0 x).set 1 y).set 2 z
  refine bodyPost_ret (v := .agg #[x, y, z]) ?_ hd (hR _ ((((Ex.refl g w1).setCell 0 x).setCell 1 y).setCell 2 z))
  simp only [results, h]
  rw [Array.getD_eq_getD_getElem?] at ht
  simp [Sem.run_bind, Result.andThen, ht, asAddr_run, load_ratio _ _ _ _ _ _ hb2]
theorem ratio_end_b {x y z a0 b0 c0 : Value} {u : Nat} (h : fn.results = #[.cell p 71, .tmp u]) (ht : a.tmps.getD p undef = .pointer (some ⟨g, 0, none⟩)) (hd : a.defers = []) (hb : Blk w1 g #[a0, b0, c0] t)
    (hR : ∀ W, Ex g w1 W → R (.returned (.tuple #[.agg #[x, y, z], a.tmps.getD u undef])) W) : bodyPost Tryd.prog fn R .ret a (((w1.setCell ⟨g, 0, none⟩ x).setCell ⟨g, 1, none⟩ y).setCell ⟨g, 2, none⟩ z) := by
  have hb2 : Blk (((w1.setCell ⟨g, 0, none⟩ x).setCell ⟨g, 1, none⟩ y).setCell ⟨g, 2, none⟩ z) g #[x, y, z] t := ((hb.set 0 x).set 1 y).set 2 z
  refine bodyPost_ret (v := .tuple #[.agg #[x, y, z], a.tmps.getD u undef]) ?_ hd (hR _ ((((Ex.refl g w1).setCell 0 x).setCell 1 y).setCell 2 z))
  simp only [results, h]
  rw [Array.getD_eq_getD_getElem?] at ht
  simp [Sem.run_bind, Result.andThen, ht, asAddr_run, load_ratio _ _ _ _ _ _ hb2]
/-- Two results of type Int. -/
theorem int2_end {x y x' y' a0 b0 a1 b1 : Value} {q g' : Nat} {t' : TypeId} (h : fn.results = #[.cell p 51, .cell q 51]) (ht : a.tmps.getD p undef = .pointer (some ⟨g, 0, none⟩)) (ht' : a.tmps.getD q undef = .pointer (some ⟨g', 0, none⟩)) (hd : a.defers = [])
    (hb : Blk w1 g #[a0, b0] t) (hb' : Blk w1 g' #[a1, b1] t') (hgg : g ≠ g')
    (hR : ∀ W1 W, Ex g w1 W1 → Ex g' W1 W → R (.returned (.tuple #[.agg #[x, y], .agg #[x', y']])) W) :
    bodyPost Tryd.prog fn R .ret a ((((w1.setCell ⟨g, 0, none⟩ x).setCell ⟨g, 1, none⟩ y).setCell ⟨g', 0, none⟩ x').setCell ⟨g', 1, none⟩ y') := by
  have hb2 : Blk ((w1.setCell ⟨g, 0, none⟩ x).setCell ⟨g, 1, none⟩ y) g #[x, y] t := (hb.set 0 x).set 1 y
  have hx1 : Ex g w1 ((w1.setCell ⟨g, 0, none⟩ x).setCell ⟨g, 1, none⟩ y) := ((Ex.refl g w1).setCell 0 x).setCell 1 y
  have hx2 := ((Ex.refl g' ((w1.setCell ⟨g, 0, none⟩ x).setCell ⟨g, 1, none⟩ y)).setCell 0 x').setCell 1 y'
  have hb3 := ((hb'.ex hx1 (Ne.symm hgg)).set 0 x').set 1 y'
  have hb4 := hb2.ex hx2 hgg
  refine bodyPost_ret (v := .tuple #[.agg #[x, y], .agg #[x', y']]) ?_ hd (hR _ _ hx1 hx2)
  simp only [results, h]
  rw [Array.getD_eq_getD_getElem?] at ht ht'
  simp [Sem.run_bind, Result.andThen, ht, ht', asAddr_run, load_int _ _ _ _ _ hb4, load_int _ _ _ _ _ hb3]
/-- Two results of type Int and a plain one. -/
theorem int2_end_b {x y x' y' a0 b0 a1 b1 : Value} {q g' u : Nat} {t' : TypeId} (h : fn.results = #[.cell p 51, .cell q 51, .tmp u]) (ht : a.tmps.getD p undef = .pointer (some ⟨g, 0, none⟩)) (ht' : a.tmps.getD q undef = .pointer (some ⟨g', 0, none⟩)) (hd : a.defers = [])
    (hb : Blk w1 g #[a0, b0] t) (hb' : Blk w1 g' #[a1, b1] t') (hgg : g ≠ g')
    (hR : ∀ W1 W, Ex g w1 W1 → Ex g' W1 W → R (.returned (.tuple #[.agg #[x, y], .agg #[x', y'], a.tmps.getD u undef])) W) :
    bodyPost Tryd.prog fn R .ret a ((((w1.setCell ⟨g, 0, none⟩ x).setCell ⟨g, 1, none⟩ y).setCell ⟨g', 0, none⟩ x').setCell ⟨g', 1, none⟩ y') := by
  have hb2 : Blk ((w1.setCell ⟨g, 0, none⟩ x).setCell ⟨g, 1, none⟩ y) g #[x, y] t := (hb.set 0 x).set 1 y
  have hx1 : Ex g w1 ((w1.setCell ⟨g, 0, none⟩ x).setCell ⟨g, 1, none⟩ y) := ((Ex.refl g w1).setCell 0 x).setCell 1 y
  have hx2 := ((Ex.refl g' ((w1.setCell ⟨g, 0, none⟩ x).setCell ⟨g, 1, none⟩ y)).setCell 0 x').setCell 1 y'
  have hb3 := ((hb'.ex hx1 (Ne.symm hgg)).set 0 x').set 1 y'
  have hb4 := hb2.ex hx2 hgg
  refine bodyPost_ret (v := .tuple #[.agg #[x, y], .agg #[x', y'], a.tmps.getD u undef]) ?_ hd (hR _ _ hx1 hx2)
  simp only [results, h]
  rw [Array.getD_eq_getD_getElem?] at ht ht'
  simp [Sem.run_bind, Result.andThen, ht, ht', asAddr_run, load_int _ _ _ _ _ hb4, load_int _ _ _ _ _ hb3]
end
end Go.Proofs.YtkbgdiejjabdmaaDoor
