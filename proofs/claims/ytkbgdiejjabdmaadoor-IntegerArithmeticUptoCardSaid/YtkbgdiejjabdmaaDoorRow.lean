/- Rows of limbs that a call makes itself: append, make, store; what they leave. -/
import Derived.Test.YtkbgdiejjabdmaaDoorBase
import Derived.Laws.AppendOwnNone
import Derived.Maps.AppendAt
import Derived.Laws.MakeOwn
import Derived.Deep.AppendLies
namespace Go.Proofs.YtkbgdiejjabdmaaDoor
open Go.RowKit

/-- The row v of the call's own, its blocks from 'base' on, holds the limbs xs. -/
def Row (w : World) (base : Nat) (e : TypeId) (v : Value) (xs : List Int) : Prop := w.ownsRow base e 1 v xs.length (xs.map (Value.int .u32))

section
variable {P : Program} {ops : Array Oper} {rest : List Oper} {o : Oper} {a : Act} {Q : Exit → Act → World → Prop}

theorem RdN.no_cap {w : World} {A : Option Addr} {c : Nat} {xs : List Int} (h : RdN w A c xs) (hA : A = none) : xs.length = 0 := by
  rcases Nat.eq_zero_or_pos xs.length with h0 | h0
  · exact h0
  · obtain ⟨g, o, hg, _⟩ := h.cells h0
    rw [hA] at hg
    cases hg
theorem Row.own_ge {w : World} {base : Nat} {e : TypeId} {v : Value} {xs : List Int} (h : Row w base e v xs) (k : Nat) (hk : v.ownBlock = some k) : base ≤ k := by
  rcases h.2 with ⟨rfl, _⟩ | ⟨g, cap, cur, rfl, hb, _⟩
  · simp [Value.ownBlock] at hk
  · have : g = k := by simpa [Value.ownBlock] using hk
    omega
theorem Row.nil (w : World) (base : Nat) (e : TypeId) : Row w base e (.slice none 0 0) [] := ⟨by simp, .inl ⟨rfl, rfl⟩⟩
theorem Row.empty (w : World) (base : Nat) (e : TypeId) (hb : base ≤ w.heap.size) : Row (w.alloc (.cells #[] e)) base e (.slice (some ⟨w.heap.size, 0, none⟩) 0 0) [] :=
  ⟨by simp, .inr ⟨w.heap.size, 0, #[], rfl, hb, heap_alloc_new w _, by simp, by simp [maxLen], by simp, by simp⟩⟩
theorem Row.reads {w : World} {base : Nat} {e : TypeId} {v : Value} {xs : List Int} (h : Row w base e v xs) (hl : Lim xs) : ∃ A c, v = .slice A xs.length c ∧ RdN w A c xs ∧ Own w base A xs.length := RdN.of_own h hl
theorem Row.alloc {w : World} {base : Nat} {e : TypeId} {v : Value} {xs : List Int} (h : Row w base e v xs) (ob : Obj) : Row (w.alloc ob) base e v xs := World.ownsRow.alloc h ob

/-- append(v, ys...) -/
theorem app_row {w w0 : World} (hgd : o.guard = none) (s x : Operand) (t e base : Nat) (ho : o.op = .call { callee := .builtin .append, args := #[s, x], argTypes := #[t, t] })
    (ht : P.underlying t = some (.slice e)) (hinfo : (P.info? e).map (fun i => (i.zero, i.size, i.bytes)) = some (some (.int .u32 0), 1, 4))
    (v : Value) (xs ys : List Int) (A : Option Addr) (c : Nat) (hs : a.eval s = v) (hx : a.eval x = .slice A ys.length c)
    (hown : Row w base e v xs) (hr : RdN w A c ys) (hl : xs.length + ys.length ≤ 35184372088832) (hbase : base ≤ w.heap.size) (hB : Below base w0 w)
    (h : ∀ v' w', Row w' base e v' (xs ++ ys) → Below base w0 w' → w.heap.size ≤ w'.heap.size → wpList P ops Q rest (a.put o.dst v') w')
    (hA : A = none → c = 0) : wpList P ops Q (o :: rest) a w := by
  obtain ⟨i0, hi, hzz⟩ := Option.map_eq_some_iff.1 hinfo
  simp only [Prod.mk.injEq] at hzz
  obtain ⟨hz0, hz1, hz2⟩ := hzz
  cases A with
  | none =>
    have hc := hA rfl
    subst hc
    have hy : ys = [] := List.eq_nil_of_length_eq_zero (by have := hr.cap; omega)
    subst hy
    exact wpList_append_own_none hgd s x t ho base e i0 1 ht hi v xs.length _ hs hown hx (h v w (by rw [List.append_nil]; exact hown) hB (Nat.le_refl _))
  | some ad =>
    refine wpList_append_own w hgd s x t ho base e i0 (.int .u32 0) 1 4 ht hi hz0 hz1 hz2 rfl (by decide) v xs.length _ hs hown ad ys.length c (ys.map (Value.int .u32)) hx (by simp) (fun j u hj => ?_) (fun u hu => ?_) (by unfold maxLen; omega) (by omega) hbase (fun v' w' h1 h2 _ => h v' w' ?_ (hB.grown h2 hbase hown.own_ge) h2.size)
    · have hjl : j < ys.length := by have := (List.getElem?_eq_some_iff.1 hj).1; simpa using this
      obtain ⟨g, oo, hg, hc⟩ := hr.cells (by omega)
      injection hg with hg
      subst hg
      have hadd : (⟨g, oo, none⟩ : Addr).add j = ⟨g, oo + j, none⟩ := by unfold Addr.add; split <;> simp_all
      rw [hadd, hc j hjl]
      rw [List.getElem?_map, List.getElem?_eq_getElem hjl] at hj
      rw [List.getD_eq_getElem?_getD, List.getElem?_eq_getElem hjl]
      simpa using hj
    · obtain ⟨z, _, rfl⟩ := List.mem_map.1 hu
      rfl
    · unfold Row
      rw [List.length_append, List.map_append]
      exact h1

/-- append(v, y) -/
theorem app_one {w w0 : World} (hgd : o.guard = none) (s x : Operand) (t e base : Nat) (ho : o.op = .call { callee := .builtin .append, args := #[s, x], argTypes := #[t, t] })
    (ht : P.underlying t = some (.slice e)) (hinfo : (P.info? e).map (fun i => (i.zero, i.size, i.bytes)) = some (some (.int .u32 0), 1, 4))
    (v : Value) (xs : List Int) (y : Int) (hs : a.eval s = v) (hx : a.eval x = .slice (some ⟨w.heap.size, 0, none⟩) 1 1)
    (hown : Row w base e v xs) (hl : xs.length + 1 ≤ 35184372088832) (hbase : base ≤ w.heap.size) (hB : Below base w0 w)
    (h : ∀ v' w', Row w' base e v' (xs ++ [y]) → Below base w0 w' → wpList P ops Q rest (a.put o.dst v') w') : wpList P ops Q (o :: rest) a (w.alloc (.cells #[.int .u32 y] e)) := by
  obtain ⟨i0, hi, hzz⟩ := Option.map_eq_some_iff.1 hinfo
  simp only [Prod.mk.injEq] at hzz
  obtain ⟨hz0, hz1, hz2⟩ := hzz
  refine wpList_append_own (w.alloc (.cells #[.int .u32 y] e)) hgd s x t ho base e i0 (.int .u32 0) 1 4 ht hi hz0 hz1 hz2 rfl (by decide) v xs.length _ hs (hown.alloc _) ⟨w.heap.size, 0, none⟩ 1 1 [.int .u32 y] hx rfl
    (World.news_of_block (cs := #[.int .u32 y]) (t := e) (fr := (0, 0)) (heap_alloc_new w _)) (by simp [Value.oneCell']) (by unfold maxLen; omega) (by omega) (by simp; omega) (fun v' w' h1 h2 _ => h v' w' ?_ ((hB.alloc hbase _).grown h2 (by simp; omega) hown.own_ge))
  unfold Row
  rw [List.length_append, List.map_append]
  exact h1

/-- make([]T, 0, n) -/
theorem make_cap {w w0 : World} (hg : o.guard = none) (l c : Operand) (t e base : Nat) (hop : o.op = Op.makeSlice t l c)
    (ht : P.underlying t = some (.slice e)) (hinfo : (P.info? e).map (fun i => (i.zero, i.size, i.bytes)) = some (some (.int .u32 0), 1, 4))
    (kl kc : IntKind) (C : Int) (n : Nat) (hl : a.eval l = .int kl 0) (hc : a.eval c = .int kc C) (hC : C = (n : Int)) (hn : n ≤ 35184372088832) (hbase : base ≤ w.heap.size) (hB : Below base w0 w)
    (h : ∀ w', Row w' base e (.slice (some ⟨w.heap.size, 0, none⟩) 0 n) [] → Below base w0 w' → w.heap.size < w'.heap.size → wpList P ops Q rest (a.put o.dst (.slice (some ⟨w.heap.size, 0, none⟩) 0 n)) w') :
    wpList P ops Q (o :: rest) a w := by
  obtain ⟨i0, hi, hzz⟩ := Option.map_eq_some_iff.1 hinfo
  simp only [Prod.mk.injEq] at hzz
  obtain ⟨hz0, hz1, hz2⟩ := hzz
  refine wpList_make_own w hg l c t hop base e i0 (.int .u32 0) 1 ht hi hz0 hz1 kl kc C n hl hc hC (by rw [hz2]; omega) (by unfold maxLen; omega) hbase (fun w' h1 h2 => h w' h1 (hB.grown h2 hbase (fun k hk => by cases hk)) ?_)
  rcases h1.2 with ⟨hv, _⟩ | ⟨g, cap, cur, hv, _, hh, _⟩
  · cases hv
  · injection hv with hv _ _
    injection hv with hv
    injection hv with hv
    rw [hv]
    exact (Array.getElem?_eq_some_iff.1 hh).1

/-- make([]T, n) -/
theorem make_full {w w0 : World} (hg : o.guard = none) (l c : Operand) (t e base : Nat) (hop : o.op = Op.makeSlice t l c)
    (ht : P.underlying t = some (.slice e)) (hinfo : (P.info? e).map (fun i => (i.zero, i.size, i.bytes)) = some (some (.int .u32 0), 1, 4))
    (kl kc : IntKind) (L C : Int) (n : Nat) (hl : a.eval l = .int kl L) (hc : a.eval c = .int kc C) (hL : L = (n : Int)) (hC : C = (n : Int)) (hn : n ≤ 35184372088832) (hbase : base ≤ w.heap.size) (hB : Below base w0 w)
    (h : ∀ w', Row w' base e (.slice (some ⟨w.heap.size, 0, none⟩) n n) (List.replicate n 0) → Below base w0 w' → w.heap.size < w'.heap.size → Gr w w' → wpList P ops Q rest (a.put o.dst (.slice (some ⟨w.heap.size, 0, none⟩) n n)) w') :
    wpList P ops Q (o :: rest) a w := by
  obtain ⟨i0, hi, hzz⟩ := Option.map_eq_some_iff.1 hinfo
  simp only [Prod.mk.injEq] at hzz
  obtain ⟨hz0, hz1, hz2⟩ := hzz
  refine wpList_make_full w hg l c t hop base e i0 (.int .u32 0) 1 ht hi hz0 hz1 kl kc L C n hl hc hL hC (by rw [hz2]; omega) (by unfold maxLen; omega) hbase (fun w' h1 h2 => ?_)
  have hcells : (madeCells (Value.int .u32 0).cells (n * 1)).toList = (List.replicate n (0 : Int)).map (Value.int .u32) := by
    apply List.ext_getElem
    · simp [madeCells]
    · intro i h1 h2
      simp [madeCells, Value.cells, Nat.mod_one]
  rw [hcells] at h1
  have hrow : Row w' base e (.slice (some ⟨w.heap.size, 0, none⟩) n n) (List.replicate n 0) := by unfold Row; rw [List.length_replicate]; exact h1
  refine h w' hrow (hB.grown h2 hbase (fun k hk => by cases hk)) ?_ ((Below.refl _ w).grown h2 (Nat.le_refl _) (fun k hk => by cases hk))
  rcases h1.2 with ⟨hv, _⟩ | ⟨g, cap, cur, hv, _, hh, _⟩
  · cases hv
  · injection hv with hv _ _
    injection hv with hv
    injection hv with hv
    rw [hv]
    exact (Array.getElem?_eq_some_iff.1 hh).1
end

theorem Row.form {w : World} {base g n c : Nat} {e : TypeId} {xs : List Int} (h : Row w base e (.slice (some ⟨g, 0, none⟩) n c) xs) : xs.length = n ∧ base ≤ g ∧ ∃ cur, w.heap[g]? = some (.cells cur e (0, 0)) ∧ n ≤ c ∧ c ≤ maxLen ∧ cur.size = c ∧ cur.toList.take n = xs.map (Value.int .u32) := by
  rcases h.2 with ⟨hv, _⟩ | ⟨g', cap, cur, hv, hb, hh, h1, h2, h3, h4⟩
  · cases hv
  · injection hv with hv e1 e2
    injection hv with hv
    injection hv with hv
    subst hv; subst e2
    exact ⟨e1.symm, hb, cur, hh, by omega, h2, by omega, by rw [e1]; rw [Nat.mul_one] at h4; exact h4⟩
theorem Row.cell {w : World} {base g n c : Nat} {e : TypeId} {xs : List Int} (h : Row w base e (.slice (some ⟨g, 0, none⟩) n c) xs) (i : Nat) (hi : i < n) : w.cell? ⟨g, i, none⟩ = some (.int .u32 (xs.getD i 0)) ∧ w.frozen? ⟨g, i, none⟩ = false := by
  obtain ⟨h0, _, cur, hh, h1, _, h3, h4⟩ := h.form
  refine ⟨?_, free_blk hh i⟩
  rw [cell_of_row w g i cur e (0, 0) hh]
  have h5 : (cur.toList.take n)[i]? = (xs.map (Value.int .u32))[i]? := by rw [h4]
  rw [List.getElem?_take, if_pos hi, Array.getElem?_toList] at h5
  rw [h5, List.getElem?_map, List.getElem?_eq_getElem (by omega), List.getD_eq_getElem?_getD, List.getElem?_eq_getElem (by omega)]
  rfl
theorem Row.set {w : World} {base g n c : Nat} {e : TypeId} {xs : List Int} (h : Row w base e (.slice (some ⟨g, 0, none⟩) n c) xs) (i : Nat) (y : Int) : Row (w.setCell ⟨g, i, none⟩ (.int .u32 y)) base e (.slice (some ⟨g, 0, none⟩) n c) (xs.set i y) := by
  obtain ⟨rfl, _⟩ := h.form
  have hs := (World.ownsRow.stored h i (.int .u32 y)).1
  unfold Row
  rw [List.length_set, List.map_set]
  exact hs
end Go.Proofs.YtkbgdiejjabdmaaDoor
