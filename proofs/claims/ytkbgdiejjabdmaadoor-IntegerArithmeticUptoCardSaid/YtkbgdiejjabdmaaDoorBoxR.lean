/- Ratios in variables, whatever the order in which they are laid and written. -/
import Derived.Test.YtkbgdiejjabdmaaDoorRes
namespace Go.Proofs.YtkbgdiejjabdmaaDoor
open Go.RowKit

section
variable {w w' : World} {g b : Nat} {s : Bool} {A B : Option Addr} {l c m e : Nat} {t : TypeId} {x y z : Value}
theorem cell_box (h : Blk w g #[.bool s, .slice A l c, .slice B m e] t) (i : Nat) (z : Int) : w.cell? ⟨g, i, none⟩ ≠ some (.int .u32 z) := by
  rw [h.cell i]
  rcases i with _ | _ | _ | i <;> simp
theorem RdN.box {A' : Option Addr} {c' : Nat} {xs : List Int} (h : RdN w A' c' xs) (hb : Blk w g #[.bool s, .slice A l c, .slice B m e] t) (hx : Ex g w w') : RdN w' A' c' xs :=
  ⟨h.cap, h.lim, fun hp => by
    obtain ⟨k, o, he, hc⟩ := h.cells hp
    refine ⟨k, o, he, fun j hj => ?_⟩
    have hk : k ≠ g := by
      rintro rfl
      exact cell_box hb (o + j) _ (hc j hj)
    exact (hx.cell (p := ⟨k, o + j, none⟩) hk).trans (hc j hj)⟩
theorem VN.box {v : Value} {n L : Nat} (h : VN w b v n L) (hb : Blk w g #[.bool s, .slice A l c, .slice B m e] t) (hx : Ex g w w') : VN w' b v n L := by
  obtain ⟨A', c', h1, h2, h3, h4⟩ := h
  refine ⟨A', c', h1, h2.box hb hx, h3, fun hp => ?_⟩
  obtain ⟨k, o, he, hk1, hk2, hk3⟩ := h4 hp
  obtain ⟨k', o', he', hc⟩ := h2.cells hp
  rw [he] at he'
  injection he' with he'
  injection he' with e1 e2
  subst e1; subst e2
  have hk : k ≠ g := by
    rintro rfl
    exact cell_box hb (o + 0) _ (hc 0 hp)
  refine ⟨k, o, he, hk1, by rw [hx.size]; exact hk2, fun j hj => ?_⟩
  rw [← hk3 j hj]
  simp only [World.frozen?]
  rw [hx.block k hk]
theorem VQ.box {v : Value} {q : Rat} {L : Nat} (h : VQ w b v q L) (hb : Blk w g #[.bool s, .slice A l c, .slice B m e] t) (hx : Ex g w w') : VQ w' b v q L := by
  obtain ⟨m', d', h1, h2, h3⟩ := h
  exact ⟨m', d', h1, h2.box hb hx, h3.box hb hx⟩
theorem ex3 (w : World) (g : Nat) (x y z : Value) : Ex g w (((w.setCell ⟨g, 0, none⟩ x).setCell ⟨g, 1, none⟩ y).setCell ⟨g, 2, none⟩ z) := (((Ex.refl g w).setCell 0 x).setCell 1 y).setCell 2 z
theorem size3 (w : World) (g : Nat) (x y z : Value) : (((w.setCell ⟨g, 0, none⟩ x).setCell ⟨g, 1, none⟩ y).setCell ⟨g, 2, none⟩ z).heap.size = w.heap.size := (ex3 w g x y z).size
theorem Gr.set3 {W : World} (h : Gr W w) (hg : W.heap.size ≤ g) : Gr W (((w.setCell ⟨g, 0, none⟩ x).setCell ⟨g, 1, none⟩ y).setCell ⟨g, 2, none⟩ z) := h.ex (ex3 w g x y z) hg
theorem Gr.al {W : World} (h : Gr W w) (o : Obj) : Gr W (w.alloc o) := h.trans (Gr.alloc _ _)
theorem Blk.al {cs : Array Value} (h : Blk w g cs t) (o : Obj) : Blk (w.alloc o) g cs t := h.gr (Gr.alloc _ _)
theorem Blk.at {cs : Array Value} {k : Nat} (h : w.heap.size = k) : Blk (w.alloc (.cells cs t)) k cs t := by subst h; exact Blk.new w cs t
theorem Blk.set3 {x0 y0 z0 : Value} (h : Blk w g #[x0, y0, z0] t) : Blk (((w.setCell ⟨g, 0, none⟩ x).setCell ⟨g, 1, none⟩ y).setCell ⟨g, 2, none⟩ z) g #[x, y, z] t := ((h.set 0 x).set 1 y).set 2 z
theorem Blk.oth {cs : Array Value} {k : Nat} (h : Blk w k cs t) (hk : k ≠ g) : Blk (((w.setCell ⟨g, 0, none⟩ x).setCell ⟨g, 1, none⟩ y).setCell ⟨g, 2, none⟩ z) k cs t := h.ex (ex3 w g x y z) hk
end

/-- Two ratios in memory laid since W. -/
structure Two (W w : World) (u v : Value) (p q : Rat) (L K : Nat) : Prop where
  gr : Gr W w
  a : VQ w W.heap.size u p L
  b : VQ w W.heap.size v q K
theorem Two.alloc {W w : World} {u v : Value} {p q : Rat} {L K : Nat} (h : Two W w u v p q L K) (o : Obj) : Two W (w.alloc o) u v p q L K := ⟨h.gr.trans (Gr.alloc _ _), h.a.gr (Gr.alloc _ _), h.b.gr (Gr.alloc _ _)⟩
theorem Two.set {W w : World} {u v : Value} {p q : Rat} {L K g : Nat} {s : Bool} {A B : Option Addr} {l c m e : Nat} {t : TypeId} {x y z : Value} (h : Two W w u v p q L K) (hb : Blk w g #[.bool s, .slice A l c, .slice B m e] t) (hg : W.heap.size ≤ g) :
    Two W (((w.setCell ⟨g, 0, none⟩ x).setCell ⟨g, 1, none⟩ y).setCell ⟨g, 2, none⟩ z) u v p q L K := ⟨h.gr.ex (ex3 w g x y z) hg, h.a.box hb (ex3 w g x y z), h.b.box hb (ex3 w g x y z)⟩
/-- Two variables that hold them. -/
def TwoAt (W : World) (p q : Rat) (L : Nat) (x y : Value) (w : World) : Prop := ∃ g h s A l c B m e s' A' l' c' B' m' e', x = .pointer (some ⟨g, 0, none⟩) ∧ y = .pointer (some ⟨h, 0, none⟩) ∧ Blk w g #[.bool s, .slice A l c, .slice B m e] 71 ∧ Blk w h #[.bool s', .slice A' l' c', .slice B' m' e'] 71 ∧
  Two W w (.agg #[.bool s, .slice A l c, .slice B m e]) (.agg #[.bool s', .slice A' l' c', .slice B' m' e']) p q L L
theorem TwoAt.mk {W w : World} {p q : Rat} {L g h : Nat} {s s' : Bool} {A B A' B' : Option Addr} {l c m e l' c' m' e' : Nat} (h1 : Blk w g #[.bool s, .slice A l c, .slice B m e] 71) (h2 : Blk w h #[.bool s', .slice A' l' c', .slice B' m' e'] 71) (h3 : Two W w (.agg #[.bool s, .slice A l c, .slice B m e]) (.agg #[.bool s', .slice A' l' c', .slice B' m' e']) p q L L) :
    TwoAt W p q L (.pointer (some ⟨g, 0, none⟩)) (.pointer (some ⟨h, 0, none⟩)) w := ⟨_, _, _, _, _, _, _, _, _, _, _, _, _, _, _, _, rfl, rfl, h1, h2, h3⟩
end Go.Proofs.YtkbgdiejjabdmaaDoor
