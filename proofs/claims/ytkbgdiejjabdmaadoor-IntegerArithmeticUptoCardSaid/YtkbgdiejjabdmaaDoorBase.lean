/- What it means that a slice in memory reads as a list of limbs; that it still does so when memory has grown. -/
import Derived.Test.YtkbgdiejjabdmaaDoorAny
import Derived.Test.YtkbgdiejjabdmaaDoorPl
namespace Go.Proofs.YtkbgdiejjabdmaaDoor
open Go.RowKit

theorem hid {p : Prop} (h : p) : Hid p := h

/-- The slice at A of capacity c reads as xs, limbs. -/
structure RdN (w : World) (A : Option Addr) (c : Nat) (xs : List Int) : Prop where
  cap : xs.length ≤ c
  lim : Lim xs
  cells : 0 < xs.length → ∃ g o, A = some ⟨g, o, none⟩ ∧ ∀ j, j < xs.length → w.cell? ⟨g, o + j, none⟩ = some (.int .u32 (xs.getD j 0))
theorem RdN.gr {w w' : World} {A : Option Addr} {c : Nat} {xs : List Int} (h : RdN w A c xs) (hg : Gr w w') : RdN w' A c xs :=
  ⟨h.cap, h.lim, fun hp => by
    obtain ⟨g, o, rfl, hc⟩ := h.cells hp
    exact ⟨g, o, rfl, fun j hj => hg.cell (hc j hj)⟩⟩
theorem RdN.nil (w : World) (A : Option Addr) (c : Nat) : RdN w A c [] := ⟨by simp, Lim.nil, fun h => absurd h (by simp)⟩
theorem RdN.take {w : World} {A : Option Addr} {c : Nat} {xs : List Int} (h : RdN w A c xs) (m : Nat) (hm : m ≤ xs.length) : RdN w A m (xs.take m) := by
  have hl : (xs.take m).length = m := by rw [List.length_take]; omega
  refine ⟨by omega, h.lim.take m, fun hp => ?_⟩
  rw [hl] at hp
  obtain ⟨g, o, rfl, hc⟩ := h.cells (by omega)
  refine ⟨g, o, rfl, fun j hj => ?_⟩
  rw [hl] at hj
  rw [hc j (by omega), List.getD_eq_getElem?_getD, List.getD_eq_getElem?_getD, List.getElem?_take, if_pos hj]

/-- A value that reads as the number n, in any form, with at most L limbs. -/
def AN (w : World) (v : Value) (n L : Nat) : Prop := ∃ A c xs, v = .slice A xs.length c ∧ RdN w A c xs ∧ val xs = n ∧ xs.length ≤ L
/-- The first len cells at A lie in a block from b on, and may be written. -/
def Own (w : World) (b : Nat) (A : Option Addr) (len : Nat) : Prop := 0 < len → ∃ g o, A = some ⟨g, o, none⟩ ∧ b ≤ g ∧ g < w.heap.size ∧ ∀ j, j < len → w.frozen? ⟨g, o + j, none⟩ = false
theorem Own.gr {w w' : World} {b len : Nat} {A : Option Addr} (h : Own w b A len) (hg : Gr w w') : Own w' b A len := fun hp => by
  obtain ⟨g, o, rfl, h1, h2, h3⟩ := h hp
  exact ⟨g, o, rfl, h1, Nat.lt_of_lt_of_le h2 hg.size, fun j hj => (Below.frozen hg (p := ⟨g, o + j, none⟩) h2).trans (h3 j hj)⟩
theorem Own.base {w : World} {b b' len : Nat} {A : Option Addr} (h : Own w b A len) (hb : b' ≤ b) : Own w b' A len := fun hp => by
  obtain ⟨g, o, rfl, h1, h2⟩ := h hp
  exact ⟨g, o, rfl, by omega, h2⟩
theorem Own.le {w : World} {b len len' : Nat} {A : Option Addr} (h : Own w b A len) (hl : len' ≤ len) : Own w b A len' := fun hp => by
  obtain ⟨g, o, rfl, h1, h2, h3⟩ := h (by omega)
  exact ⟨g, o, rfl, h1, h2, fun j hj => h3 j (by omega)⟩
theorem Own.zero (w : World) (b : Nat) (A : Option Addr) : Own w b A 0 := fun h => absurd h (by omega)
/-- A value that reads as the number n in normal form, with at most L limbs, in memory from block b on. -/
def VN (w : World) (b : Nat) (v : Value) (n L : Nat) : Prop := ∃ A c, v = .slice A (limbs n).length c ∧ RdN w A c (limbs n) ∧ (limbs n).length ≤ L ∧ Own w b A (limbs n).length
theorem AN.gr {w w' : World} {v : Value} {n L : Nat} (h : AN w v n L) (hg : Gr w w') : AN w' v n L := by
  obtain ⟨A, c, xs, h1, h2, h3, h4⟩ := h
  exact ⟨A, c, xs, h1, h2.gr hg, h3, h4⟩
theorem VN.gr {w w' : World} {b : Nat} {v : Value} {n L : Nat} (h : VN w b v n L) (hg : Gr w w') : VN w' b v n L := by
  obtain ⟨A, c, h1, h2, h3, h4⟩ := h
  exact ⟨A, c, h1, h2.gr hg, h3, h4.gr hg⟩
theorem VN.an {w : World} {b : Nat} {v : Value} {n L : Nat} (h : VN w b v n L) : AN w v n L := by
  obtain ⟨A, c, h1, h2, h3, _⟩ := h
  exact ⟨A, c, limbs n, h1, h2, val_limbs n, h3⟩
theorem VN.le {w : World} {b : Nat} {v : Value} {n L K : Nat} (h : VN w b v n L) (hk : L ≤ K) : VN w b v n K := by
  obtain ⟨A, c, h1, h2, h3, h4⟩ := h
  exact ⟨A, c, h1, h2, by omega, h4⟩
theorem VN.base {w : World} {b b' : Nat} {v : Value} {n L : Nat} (h : VN w b v n L) (hb : b' ≤ b) : VN w b' v n L := by
  obtain ⟨A, c, h1, h2, h3, h4⟩ := h
  exact ⟨A, c, h1, h2, h3, h4.base hb⟩
theorem VN.zero (w : World) (b : Nat) (A : Option Addr) (c L : Nat) : VN w b (.slice A 0 c) 0 L := ⟨A, c, by simp [limbs_zero], by rw [limbs_zero]; exact RdN.nil _ _ _, by simp [limbs_zero], by rw [limbs_zero]; exact Own.zero _ _ _⟩
theorem AN.le {w : World} {v : Value} {n L K : Nat} (h : AN w v n L) (hk : L ≤ K) : AN w v n K := by
  obtain ⟨A, c, xs, h1, h2, h3, h4⟩ := h
  exact ⟨A, c, xs, h1, h2, h3, by omega⟩

/-- An integer, in any form. -/
def AZ (w : World) (v : Value) (z : Int) (L : Nat) : Prop := ∃ neg m n, v = .agg #[.bool neg, m] ∧ AN w m n L ∧ z = if neg then -(n : Int) else n
/-- An integer in normal form. -/
def VZ (w : World) (b : Nat) (v : Value) (z : Int) (L : Nat) : Prop := ∃ m, v = .agg #[.bool (decide (z < 0)), m] ∧ VN w b m z.natAbs L
theorem AZ.gr {w w' : World} {v : Value} {z : Int} {L : Nat} (h : AZ w v z L) (hg : Gr w w') : AZ w' v z L := by
  obtain ⟨neg, m, n, h1, h2, h3⟩ := h
  exact ⟨neg, m, n, h1, h2.gr hg, h3⟩
theorem VZ.gr {w w' : World} {b : Nat} {v : Value} {z : Int} {L : Nat} (h : VZ w b v z L) (hg : Gr w w') : VZ w' b v z L := by
  obtain ⟨m, h1, h2⟩ := h
  exact ⟨m, h1, h2.gr hg⟩
theorem VZ.az {w : World} {b : Nat} {v : Value} {z : Int} {L : Nat} (h : VZ w b v z L) : AZ w v z L := by
  obtain ⟨m, h1, h2⟩ := h
  refine ⟨_, m, _, h1, h2.an, ?_⟩
  by_cases hz : z < 0
  · simp [hz]; omega
  · simp [hz]; omega
theorem VZ.le {w : World} {b : Nat} {v : Value} {z : Int} {L K : Nat} (h : VZ w b v z L) (hk : L ≤ K) : VZ w b v z K := by
  obtain ⟨m, h1, h2⟩ := h
  exact ⟨m, h1, h2.le hk⟩
theorem VZ.base {w : World} {b b' : Nat} {v : Value} {z : Int} {L : Nat} (h : VZ w b v z L) (hb : b' ≤ b) : VZ w b' v z L := by
  obtain ⟨m, h1, h2⟩ := h
  exact ⟨m, h1, h2.base hb⟩
theorem AZ.le {w : World} {v : Value} {z : Int} {L K : Nat} (h : AZ w v z L) (hk : L ≤ K) : AZ w v z K := by
  obtain ⟨neg, m, n, h1, h2, h3⟩ := h
  exact ⟨neg, m, n, h1, h2.le hk, h3⟩

/-- A ratio, in any form. -/
def AQ (w : World) (v : Value) (q : Rat) (L : Nat) : Prop := ∃ neg m d n k, v = .agg #[.bool neg, m, d] ∧ AN w m n L ∧ AN w d k L ∧ q = mkRat (if neg then -(n : Int) else n) k
/-- A ratio in normal form. -/
def VQ (w : World) (b : Nat) (v : Value) (q : Rat) (L : Nat) : Prop := ∃ m d, v = .agg #[.bool (decide (q.num < 0)), m, d] ∧ VN w b m q.num.natAbs L ∧ VN w b d q.den L
theorem AQ.gr {w w' : World} {v : Value} {q : Rat} {L : Nat} (h : AQ w v q L) (hg : Gr w w') : AQ w' v q L := by
  obtain ⟨neg, m, d, n, k, h1, h2, h3, h4⟩ := h
  exact ⟨neg, m, d, n, k, h1, h2.gr hg, h3.gr hg, h4⟩
theorem VQ.gr {w w' : World} {b : Nat} {v : Value} {q : Rat} {L : Nat} (h : VQ w b v q L) (hg : Gr w w') : VQ w' b v q L := by
  obtain ⟨m, d, h1, h2, h3⟩ := h
  exact ⟨m, d, h1, h2.gr hg, h3.gr hg⟩
theorem VQ.aq {w : World} {b : Nat} {v : Value} {q : Rat} {L : Nat} (h : VQ w b v q L) : AQ w v q L := by
  obtain ⟨m, d, h1, h2, h3⟩ := h
  refine ⟨_, m, d, _, _, h1, h2.an, h3.an, ?_⟩
  have : (if decide (q.num < 0) = true then -(q.num.natAbs : Int) else (q.num.natAbs : Int)) = q.num := by
    by_cases hz : q.num < 0
    · simp [hz]; omega
    · simp [hz]; omega
  rw [this, Rat.mkRat_self]
theorem VQ.le {w : World} {b : Nat} {v : Value} {q : Rat} {L K : Nat} (h : VQ w b v q L) (hk : L ≤ K) : VQ w b v q K := by
  obtain ⟨m, d, h1, h2, h3⟩ := h
  exact ⟨m, d, h1, h2.le hk, h3.le hk⟩
theorem VQ.base {w : World} {b b' : Nat} {v : Value} {q : Rat} {L : Nat} (h : VQ w b v q L) (hb : b' ≤ b) : VQ w b' v q L := by
  obtain ⟨m, d, h1, h2, h3⟩ := h
  exact ⟨m, d, h1, h2.base hb, h3.base hb⟩
theorem AQ.le {w : World} {v : Value} {q : Rat} {L K : Nat} (h : AQ w v q L) (hk : L ≤ K) : AQ w v q K := by
  obtain ⟨neg, m, d, n, k, h1, h2, h3, h4⟩ := h
  exact ⟨neg, m, d, n, k, h1, h2.le hk, h3.le hk, h4⟩

theorem free_blk {w : World} {g : Nat} {t : TypeId} {cs : Array Value} (h : w.heap[g]? = some (.cells cs t (0, 0))) (i : Nat) : w.frozen? ⟨g, i, none⟩ = false := by simp [World.frozen?, h]
/-- A new block of limbs. -/
theorem RdN.of_block {w : World} {g : Nat} {cells : Array Value} {e : TypeId} {fr : Nat × Nat} {c : Nat} {xs : List Int} (hb : w.heap[g]? = some (.cells cells e fr)) (hl : Lim xs) (hcap : xs.length ≤ c) (hx : ∀ j, j < xs.length → cells[j]? = some (.int .u32 (xs.getD j 0))) : RdN w (some ⟨g, 0, none⟩) c xs :=
  ⟨hcap, hl, fun _ => ⟨g, 0, rfl, fun j hj => by rw [cell_of_row w g _ cells e fr hb, Nat.zero_add]; exact hx j hj⟩⟩
theorem Own.of_block {w : World} {g b : Nat} {cells : Array Value} {e : TypeId} (hb : w.heap[g]? = some (.cells cells e (0, 0))) (hg : b ≤ g) (len : Nat) : Own w b (some ⟨g, 0, none⟩) len :=
  fun _ => ⟨g, 0, rfl, hg, (Array.getElem?_eq_some_iff.1 hb).1, fun _ _ => free_blk hb _⟩
/-- A row of the call's own. -/
theorem RdN.of_own {w : World} {base n : Nat} {e : TypeId} {v : Value} {xs : List Int} (h : w.ownsRow base e 1 v n (xs.map (Value.int .u32))) (hl : Lim xs) : ∃ A c, v = .slice A xs.length c ∧ RdN w A c xs ∧ Own w base A xs.length := by
  have hn : xs.length = n := by have := h.1; simpa using this
  rcases h.2 with ⟨rfl, rfl⟩ | ⟨g, cap, cur, rfl, hb, hh, hnc, hcm, hcs, htake⟩
  · have hx : xs = [] := List.eq_nil_of_length_eq_zero hn
    subst hx
    exact ⟨none, 0, rfl, RdN.nil _ _ _, Own.zero _ _ _⟩
  · refine ⟨_, cap, by rw [hn], RdN.of_block hh hl (by omega) (fun j hj => ?_), Own.of_block hh hb _⟩
    have h1 : (cur.toList.take (n * 1))[j]? = (xs.map (Value.int .u32))[j]? := by rw [htake]
    rw [List.getElem?_take, if_pos (by omega), Array.getElem?_toList] at h1
    rw [h1, List.getElem?_map, List.getElem?_eq_getElem hj, List.getD_eq_getElem?_getD, List.getElem?_eq_getElem hj]
    rfl

/-- A contract's end: one result, memory grown. -/
def Ret (w : World) (R : Value → World → Prop) (e : Ending) (w' : World) : Prop := ∃ v, e = .returned v ∧ R v w' ∧ Gr w w'
/-- A contract's end: this very value, memory grown. -/
def Is (w : World) (v : Value) (e : Ending) (w' : World) : Prop := e = .returned v ∧ Gr w w'
theorem Gr.drewN (w : World) (d : Nat) : Gr w (w.drewN d) := ⟨rfl, rfl, rfl, Nat.le_refl _, fun _ _ => rfl⟩
/-- The world after some draws. -/
def Dr (w w' : World) : Prop := ∃ d, w' = w.drewN d
theorem Dr.refl (w : World) : Dr w w := ⟨0, rfl⟩
theorem Dr.next {w w' : World} (h : Dr w w') (n : Nat) : Dr w (w'.drewN n) := by
  obtain ⟨d, rfl⟩ := h
  exact ⟨d + n, World.drewN_drewN ..⟩
theorem Dr.gr {w w' : World} (h : Dr w w') : Gr w w' := by
  obtain ⟨d, rfl⟩ := h
  exact Gr.drewN w d
/-- A contract's end: a result and a bool, memory grown. -/
def RetB (w : World) (b : Bool) (R : Value → World → Prop) (e : Ending) (w' : World) : Prop := ∃ v, e = .returned (.tuple #[v, .bool b]) ∧ R v w' ∧ Gr w w'
/-- A contract's end: two results and a bool, memory grown. -/
def RetVB (w : World) (b : Bool) (R : Value → Value → World → Prop) (e : Ending) (w' : World) : Prop := ∃ u v, e = .returned (.tuple #[u, v, .bool b]) ∧ R u v w' ∧ Gr w w'
/-- A contract's end: two results, memory grown. -/
def RetV (w : World) (R : Value → Value → World → Prop) (e : Ending) (w' : World) : Prop := ∃ u v, e = .returned (.tuple #[u, v]) ∧ R u v w' ∧ Gr w w'
end Go.Proofs.YtkbgdiejjabdmaaDoor
