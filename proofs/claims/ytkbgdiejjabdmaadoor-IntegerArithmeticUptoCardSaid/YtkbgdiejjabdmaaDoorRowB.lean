/- Rows of bytes that a call makes itself: append, make, store; a string of them. A row of limbs that grows beside a number. -/
import Derived.Test.YtkbgdiejjabdmaaDoorRow
import Derived.KernelRfl
import Derived.Lib.AppendStr
import Derived.Laws.IdiomStrings
namespace Go.Proofs.YtkbgdiejjabdmaaDoor
open Go.RowKit

def bcell (b : UInt8) : Value := .int .u8 (b.toNat : Int)
/-- The row v of the call's own, its blocks from 'base' on, holds the bytes xs. -/
def RowB (w : World) (base : Nat) (e : TypeId) (v : Value) (xs : List UInt8) : Prop := w.ownsRow base e 1 v xs.length (xs.map bcell)

theorem RdN.grownBy {b : Nat} {w w' : World} {row : Option Nat} {A : Option Addr} {c : Nat} {xs : List Int} (h : RdN w A c xs) (hg : w.grownBy w' row) (hr : ∀ k, row = some k → k < b) (ho : Own w b A xs.length) : RdN w' A c xs :=
  ⟨h.cap, h.lim, fun hp => by
    obtain ⟨k, o, he, hc⟩ := h.cells hp
    obtain ⟨k', o', he', hk, hk2, _⟩ := ho hp
    rw [he] at he'
    injection he' with he'
    injection he' with e1 e2
    subst e1
    exact ⟨k, o, he, fun j hj => (World.cell?_of_block (hg.block k hk2 (fun e => by have := hr k e.symm; omega))).trans (hc j hj)⟩⟩
theorem Own.grownBy {b : Nat} {w w' : World} {row : Option Nat} {A : Option Addr} {n : Nat} (h : Own w b A n) (hg : w.grownBy w' row) (hr : ∀ k, row = some k → k < b) : Own w' b A n := fun hp => by
  obtain ⟨k, o, he, h1, h2, h3⟩ := h hp
  have h4 := hg.size
  refine ⟨k, o, he, h1, by omega, fun j hj => ?_⟩
  rw [← h3 j hj]
  exact World.frozen?_of_block (hg.block k h2 (fun e => by have := hr k e.symm; omega))
theorem VN.grownBy {b : Nat} {w w' : World} {row : Option Nat} {v : Value} {n L : Nat} (h : VN w b v n L) (hg : w.grownBy w' row) (hr : ∀ k, row = some k → k < b) : VN w' b v n L := by
  obtain ⟨A, c, h1, h2, h3, h4⟩ := h
  exact ⟨A, c, h1, h2.grownBy hg hr h4, h3, h4.grownBy hg hr⟩
theorem ownsRow.grow {w w' : World} {base s : Nat} {e : TypeId} {v : Value} {n : Nat} {xs : List Value} (h : w.ownsRow base e s v n xs) (hg : Gr w w') : w'.ownsRow base e s v n xs := by
  refine ⟨h.1, ?_⟩
  rcases h.2 with h | ⟨g, cap, cur, rfl, hb, hh, h1, h2, h3, h4⟩
  · exact .inl h
  · exact .inr ⟨g, cap, cur, rfl, hb, hg.block hh, h1, h2, h3, h4⟩
theorem RowB.grow {w w' : World} {base : Nat} {e : TypeId} {v : Value} {xs : List UInt8} (h : RowB w base e v xs) (hg : Gr w w') : RowB w' base e v xs := ownsRow.grow h hg
theorem ownsRow.blk_lt {w : World} {base s : Nat} {e : TypeId} {v : Value} {n : Nat} {xs : List Value} (h : w.ownsRow base e s v n xs) {k : Nat} (hk : v.ownBlock = some k) : base ≤ k ∧ k < w.heap.size := by
  rcases h.2 with ⟨rfl, _⟩ | ⟨g, cap, cur, rfl, hb, hh, _⟩
  · simp [Value.ownBlock] at hk
  · have hg : g = k := by simpa [Value.ownBlock] using hk
    have := (Array.getElem?_eq_some_iff.1 hh).1
    omega
theorem RowB.blk_lt {w : World} {base : Nat} {e : TypeId} {v : Value} {xs : List UInt8} (h : RowB w base e v xs) {k : Nat} (hk : v.ownBlock = some k) : base ≤ k ∧ k < w.heap.size := ownsRow.blk_lt h hk
theorem Row.blk_lt {w : World} {base : Nat} {e : TypeId} {v : Value} {xs : List Int} (h : Row w base e v xs) {k : Nat} (hk : v.ownBlock = some k) : base ≤ k ∧ k < w.heap.size := ownsRow.blk_lt h hk
theorem RowB.nil (w : World) (base : Nat) (e : TypeId) : RowB w base e (.slice none 0 0) [] := ⟨by simp, .inl ⟨rfl, rfl⟩⟩

section
variable {P : Program} {ops : Array Oper} {rest : List Oper} {o : Oper} {a : Act} {Q : Exit → Act → World → Prop}

/-- append(v, y), v's row a number's or another's; what else lies elsewhere stays. -/
theorem app_one_fr {w w0 : World} (hgd : o.guard = none) (s x : Operand) (t e base : Nat) (ho : o.op = .call { callee := .builtin .append, args := #[s, x], argTypes := #[t, t] })
    (ht : P.underlying t = some (.slice e)) (hinfo : (P.info? e).map (fun i => (i.zero, i.size, i.bytes)) = some (some (.int .u32 0), 1, 4))
    (v : Value) (xs : List Int) (y : Int) (hs : a.eval s = v) (hx : a.eval x = .slice (some ⟨w.heap.size, 0, none⟩) 1 1)
    (hown : Row w base e v xs) (hl : xs.length + 1 ≤ 35184372088832) (hbase : base ≤ w.heap.size) (hB : Below base w0 w)
    (h : ∀ v' w', Row w' base e v' (xs ++ [y]) → Below base w0 w' → (w.alloc (.cells #[.int .u32 y] e)).grownBy w' v.ownBlock → wpList P ops Q rest (a.put o.dst v') w') : wpList P ops Q (o :: rest) a (w.alloc (.cells #[.int .u32 y] e)) := by
  obtain ⟨i0, hi, hzz⟩ := Option.map_eq_some_iff.1 hinfo
  simp only [Prod.mk.injEq] at hzz
  obtain ⟨hz0, hz1, hz2⟩ := hzz
  refine wpList_append_own (w.alloc (.cells #[.int .u32 y] e)) hgd s x t ho base e i0 (.int .u32 0) 1 4 ht hi hz0 hz1 hz2 rfl (by decide) v xs.length _ hs (hown.alloc _) ⟨w.heap.size, 0, none⟩ 1 1 [.int .u32 y] hx rfl
    (World.news_of_block (cs := #[.int .u32 y]) (t := e) (fr := (0, 0)) (heap_alloc_new w _)) (by simp [Value.oneCell']) (by unfold maxLen; omega) (by omega) (by simp; omega) (fun v' w' h1 h2 _ => h v' w' ?_ ((hB.alloc hbase _).grown h2 (by simp; omega) hown.own_ge) h2)
  unfold Row
  rw [List.length_append, List.map_append]
  exact h1
/-- append(v, y), y a byte. -/
theorem appb_one {w w0 : World} (hgd : o.guard = none) (s x : Operand) (t e base : Nat) (ho : o.op = .call { callee := .builtin .append, args := #[s, x], argTypes := #[t, t] })
    (ht : P.underlying t = some (.slice e)) (hinfo : (P.info? e).map (fun i => (i.zero, i.size, i.bytes)) = some (some (.int .u8 0), 1, 1))
    (v : Value) (xs : List UInt8) (y : Int) (b : UInt8) (hy : y = (b.toNat : Int)) (hs : a.eval s = v) (hx : a.eval x = .slice (some ⟨w.heap.size, 0, none⟩) 1 1)
    (hown : RowB w base e v xs) (hl : xs.length + 1 ≤ 35184372088832) (hbase : base ≤ w.heap.size) (hB : Below base w0 w)
    (h : ∀ v' w', RowB w' base e v' (xs ++ [b]) → Below base w0 w' → (w.alloc (.cells #[.int .u8 y] e)).grownBy w' v.ownBlock → wpList P ops Q rest (a.put o.dst v') w') : wpList P ops Q (o :: rest) a (w.alloc (.cells #[.int .u8 y] e)) := by
  subst hy
  obtain ⟨i0, hi, hzz⟩ := Option.map_eq_some_iff.1 hinfo
  simp only [Prod.mk.injEq] at hzz
  obtain ⟨hz0, hz1, hz2⟩ := hzz
  refine wpList_append_own (w.alloc (.cells #[.int .u8 (b.toNat : Int)] e)) hgd s x t ho base e i0 (.int .u8 0) 1 1 ht hi hz0 hz1 hz2 rfl (by decide) v xs.length _ hs (World.ownsRow.alloc hown _) ⟨w.heap.size, 0, none⟩ 1 1 [.int .u8 (b.toNat : Int)] hx rfl
    (World.news_of_block (cs := #[.int .u8 (b.toNat : Int)]) (t := e) (fr := (0, 0)) (heap_alloc_new w _)) (by simp [Value.oneCell']) (by unfold maxLen; omega) (by omega) (by simp; omega) (fun v' w' h1 h2 _ => h v' w' ?_ ((hB.alloc hbase _).grown h2 (by simp; omega) (fun k hk => (hown.blk_lt hk).1)) h2)
  unfold RowB
  rw [List.length_append, List.map_append]
  exact h1
/-- append(v, s...), s a string. -/
theorem appb_str {w w0 : World} (hgd : o.guard = none) (sl x : Operand) (t u e base : Nat) (ho : o.op = .call { callee := .builtin .append, args := #[sl, x], argTypes := #[t, u] })
    (ht : P.underlying t = some (.slice e)) (hu : P.underlying u = some .string) (hinfo : (P.info? e).map (fun i => (i.zero, i.size, i.bytes)) = some (some (.int .u8 0), 1, 1))
    (v : Value) (xs ys : List UInt8) (s : ByteArray) (hs : a.eval sl = v) (hx : a.eval x = .string s) (hys : s.data.toList = ys)
    (hown : RowB w base e v xs) (hl : xs.length + ys.length ≤ 35184372088832) (hbase : base ≤ w.heap.size) (hB : Below base w0 w)
    (h : ∀ v' w', RowB w' base e v' (xs ++ ys) → Below base w0 w' → w.grownBy w' v.ownBlock → wpList P ops Q rest (a.put o.dst v') w') : wpList P ops Q (o :: rest) a w := by
  obtain ⟨i0, hi, hzz⟩ := Option.map_eq_some_iff.1 hinfo
  simp only [Prod.mk.injEq] at hzz
  obtain ⟨hz0, hz1, hz2⟩ := hzz
  subst hys
  have hsz : s.size = s.data.toList.length := by rw [Array.length_toList]; rfl
  refine Lib.wpList_append_own_string w hgd sl x t u ho base e i0 ht hu hi hz0 hz1 hz2 v xs.length _ hs hown s hx (by rw [hsz]; unfold maxLen; omega) (by rw [hsz]; omega) hbase (fun v' w' h1 h2 _ => h v' w' ?_ (hB.grown h2 hbase (fun k hk => (hown.blk_lt hk).1)) h2)
  unfold RowB
  rw [List.length_append, List.map_append]
  rw [hsz] at h1
  exact h1
/-- make([]byte, 0, n) -/
theorem makeb_cap {w w0 : World} (hg : o.guard = none) (l c : Operand) (t e base : Nat) (hop : o.op = Op.makeSlice t l c)
    (ht : P.underlying t = some (.slice e)) (hinfo : (P.info? e).map (fun i => (i.zero, i.size, i.bytes)) = some (some (.int .u8 0), 1, 1))
    (kl kc : IntKind) (C : Int) (n : Nat) (hl : a.eval l = .int kl 0) (hc : a.eval c = .int kc C) (hC : C = (n : Int)) (hn : n ≤ 35184372088832) (hbase : base ≤ w.heap.size) (hB : Below base w0 w)
    (h : ∀ w', RowB w' base e (.slice (some ⟨w.heap.size, 0, none⟩) 0 n) [] → Below base w0 w' → w.heap.size < w'.heap.size → Gr w w' → wpList P ops Q rest (a.put o.dst (.slice (some ⟨w.heap.size, 0, none⟩) 0 n)) w') :
    wpList P ops Q (o :: rest) a w := by
  obtain ⟨i0, hi, hzz⟩ := Option.map_eq_some_iff.1 hinfo
  simp only [Prod.mk.injEq] at hzz
  obtain ⟨hz0, hz1, hz2⟩ := hzz
  refine wpList_make_own w hg l c t hop base e i0 (.int .u8 0) 1 ht hi hz0 hz1 kl kc C n hl hc hC (by rw [hz2]; omega) (by unfold maxLen; omega) hbase (fun w' h1 h2 => h w' h1 (hB.grown h2 hbase (fun k hk => by cases hk)) ?_ ((Below.refl _ w).grown h2 (Nat.le_refl _) (fun k hk => by cases hk)))
  rcases h1.2 with ⟨hv, _⟩ | ⟨g, cap, cur, hv, _, hh, _⟩
  · cases hv
  · injection hv with hv _ _
    injection hv with hv
    injection hv with hv
    rw [hv]
    exact (Array.getElem?_eq_some_iff.1 hh).1
/-- make([]byte, n) -/
theorem makeb_full {w w0 : World} (hg : o.guard = none) (l c : Operand) (t e base : Nat) (hop : o.op = Op.makeSlice t l c)
    (ht : P.underlying t = some (.slice e)) (hinfo : (P.info? e).map (fun i => (i.zero, i.size, i.bytes)) = some (some (.int .u8 0), 1, 1))
    (kl kc : IntKind) (L C : Int) (n : Nat) (hl : a.eval l = .int kl L) (hc : a.eval c = .int kc C) (hL : L = (n : Int)) (hC : C = (n : Int)) (hn : n ≤ 35184372088832) (hbase : base ≤ w.heap.size) (hB : Below base w0 w)
    (h : ∀ w', RowB w' base e (.slice (some ⟨w.heap.size, 0, none⟩) n n) (List.replicate n 0) → Below base w0 w' → w.heap.size < w'.heap.size → Gr w w' → wpList P ops Q rest (a.put o.dst (.slice (some ⟨w.heap.size, 0, none⟩) n n)) w') :
    wpList P ops Q (o :: rest) a w := by
  obtain ⟨i0, hi, hzz⟩ := Option.map_eq_some_iff.1 hinfo
  simp only [Prod.mk.injEq] at hzz
  obtain ⟨hz0, hz1, hz2⟩ := hzz
  refine wpList_make_full w hg l c t hop base e i0 (.int .u8 0) 1 ht hi hz0 hz1 kl kc L C n hl hc hL hC (by rw [hz2]; omega) (by unfold maxLen; omega) hbase (fun w' h1 h2 => ?_)
  have hcells : (madeCells (Value.int .u8 0).cells (n * 1)).toList = (List.replicate n (0 : UInt8)).map bcell := by
    apply List.ext_getElem
    · simp [madeCells]
    · intro i h1 h2
      simp [madeCells, Value.cells, Nat.mod_one, bcell]
  rw [hcells] at h1
  have hrow : RowB w' base e (.slice (some ⟨w.heap.size, 0, none⟩) n n) (List.replicate n 0) := by unfold RowB; rw [List.length_replicate]; exact h1
  refine h w' hrow (hB.grown h2 hbase (fun k hk => by cases hk)) ?_ ((Below.refl _ w).grown h2 (Nat.le_refl _) (fun k hk => by cases hk))
  rcases h1.2 with ⟨hv, _⟩ | ⟨g, cap, cur, hv, _, hh, _⟩
  · cases hv
  · injection hv with hv _ _
    injection hv with hv
    injection hv with hv
    rw [hv]
    exact (Array.getElem?_eq_some_iff.1 hh).1
end

theorem RowB.form {w : World} {base g n c : Nat} {e : TypeId} {xs : List UInt8} (h : RowB w base e (.slice (some ⟨g, 0, none⟩) n c) xs) : xs.length = n ∧ base ≤ g ∧ ∃ cur, w.heap[g]? = some (.cells cur e (0, 0)) ∧ n ≤ c ∧ c ≤ maxLen ∧ cur.size = c ∧ cur.toList.take n = xs.map bcell := by
  rcases h.2 with ⟨hv, _⟩ | ⟨g', cap, cur, hv, hb, hh, h1, h2, h3, h4⟩
  · cases hv
  · injection hv with hv e1 e2
    injection hv with hv
    injection hv with hv
    subst hv; subst e2
    exact ⟨e1.symm, hb, cur, hh, by omega, h2, by omega, by rw [e1]; rw [Nat.mul_one] at h4; exact h4⟩
/-- How a row that is not empty looks. -/
theorem RowB.shape {w : World} {base : Nat} {e : TypeId} {v : Value} {xs : List UInt8} (h : RowB w base e v xs) (hx : xs ≠ []) : ∃ g c, v = .slice (some ⟨g, 0, none⟩) xs.length c := by
  rcases h.2 with ⟨rfl, h2⟩ | ⟨g, cap, cur, rfl, _⟩
  · exact absurd (by simpa using h2) hx
  · exact ⟨g, cap, rfl⟩
theorem RowB.cell {w : World} {base g n c : Nat} {e : TypeId} {xs : List UInt8} (h : RowB w base e (.slice (some ⟨g, 0, none⟩) n c) xs) (i : Nat) (hi : i < n) : w.cell? ⟨g, i, none⟩ = some (.int .u8 ((xs.getD i 0).toNat : Int)) ∧ w.frozen? ⟨g, i, none⟩ = false := by
  obtain ⟨h0, _, cur, hh, h1, _, h3, h4⟩ := h.form
  refine ⟨?_, free_blk hh i⟩
  rw [cell_of_row w g i cur e (0, 0) hh]
  have h5 : (cur.toList.take n)[i]? = (xs.map bcell)[i]? := by rw [h4]
  rw [List.getElem?_take, if_pos hi, Array.getElem?_toList] at h5
  rw [h5, List.getElem?_map, List.getElem?_eq_getElem (by omega), List.getD_eq_getElem?_getD, List.getElem?_eq_getElem (by omega)]
  rfl
theorem RowB.set {w : World} {base g n c : Nat} {e : TypeId} {xs : List UInt8} (h : RowB w base e (.slice (some ⟨g, 0, none⟩) n c) xs) (i : Nat) (y : UInt8) : RowB (w.setCell ⟨g, i, none⟩ (.int .u8 (y.toNat : Int))) base e (.slice (some ⟨g, 0, none⟩) n c) (xs.set i y) := by
  obtain ⟨rfl, _⟩ := h.form
  have hs := (World.ownsRow.stored h i (.int .u8 (y.toNat : Int))).1
  unfold RowB
  rw [List.length_set, List.map_set]
  exact hs
/-- string(v) -/
theorem RowB.str {P : Program} {w : World} {base : Nat} {e : TypeId} {v : Value} {xs : List UInt8} (src dst : TypeId) (h : RowB w base e v xs) (hx : xs ≠ []) (hs : P.underlying src = some (.slice e)) (he : P.underlying e = some (.int .u8)) (hd : P.underlying dst = some .string) :
    (convert src dst v).run P w = .ok (.string ⟨xs.toArray⟩) w := by
  obtain ⟨g, c, rfl⟩ := h.shape hx
  refine run_convert_bytes_back w src dst e ⟨g, 0, none⟩ c xs hs he hd (fun j hj => ?_)
  rw [Addr.add_lit, Nat.zero_add, (h.cell j hj).1, List.getD_eq_getElem?_getD, List.getElem?_eq_getElem hj]
  rfl
end Go.Proofs.YtkbgdiejjabdmaaDoor
