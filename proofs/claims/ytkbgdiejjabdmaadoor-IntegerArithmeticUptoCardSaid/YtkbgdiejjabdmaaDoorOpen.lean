/- Readings that stay as memory grows; from a reading of an argument to what it denotes. -/
import Derived.Test.YtkbgdiejjabdmaaDoorBase
import Derived.Test.YtkbgdiejjabdmaaDoorRows
import Derived.ChangeSlices
namespace Go.Proofs.YtkbgdiejjabdmaaDoor
open Go.RowKit

theorem mapM_mono {α β : Type} {f g : α → Option β} : ∀ (l : List α) {ys : List β}, l.mapM f = some ys → (∀ a ∈ l, ∀ y ∈ ys, f a = some y → g a = some y) → l.mapM g = some ys
  | [], ys, h, _ => by simpa using h
  | a :: l, ys, h, hfg => by
    rw [List.mapM_cons] at h
    cases ha : f a with
    | none => rw [ha] at h; simp at h
    | some y =>
      rw [ha] at h
      cases hl : l.mapM f with
      | none => rw [hl] at h; simp at h
      | some zs =>
        rw [hl] at h
        have h : ys = y :: zs := by simpa using h.symm
        subst h
        rw [List.mapM_cons, hfg a (List.mem_cons_self ..) y (List.mem_cons_self ..) ha, mapM_mono l hl (fun b hb z hz => hfg b (List.mem_cons_of_mem _ hb) z (List.mem_cons_of_mem _ hz))]
        rfl

theorem cells_mono {w w' : World} (hb : ∀ b, b < w.heap.size → w'.heap[b]? = w.heap[b]?) {base : Nat} {a : Addr} {n : Nat} {cs : List Value} (h : w.cells? base a n = some cs) : w'.cells? base a n = some cs := by
  unfold World.cells? at h ⊢
  split at h
  · rename_i hb2
    rw [if_pos hb2]
    refine mapM_mono _ h (fun i _ v _ hv => ?_)
    have hlt := World.block_lt_of_cell? w (a.add i) hv
    rw [← hv]
    exact World.cell?_of_block (hb _ hlt)
  · simp at h
theorem row_mem {a : Addr} {n : Nat} (hn : 0 < n) : MemPlace.cell a.block a.off ∈ MemPlace.row a n := by
  unfold MemPlace.row
  rw [List.mem_map]
  exact ⟨0, by simpa using hn, by simp⟩

/-- The types T are plain data: bools, integers, strings, slices and structs of such. -/
def flatB (P : Program) (T : List TypeId) : Bool := T.all fun t => match P.underlying t with
  | some .bool | some (.int _) | some .string => true
  | some (.slice e) => T.contains e && decide (0 < P.cellsOf e)
  | some (.struct fs) => fs.toList.all fun f => T.contains f.type
  | _ => false
theorem flat_at {P : Program} {T : List TypeId} (hT : flatB P T = true) {t : TypeId} (ht : t ∈ T) : (match P.underlying t with
  | some .bool | some (.int _) | some .string => true
  | some (.slice e) => T.contains e && decide (0 < P.cellsOf e)
  | some (.struct fs) => fs.toList.all fun f => T.contains f.type
  | _ => false) = true := by
  unfold flatB at hT
  rw [List.all_eq_true] at hT
  exact hT t ht

theorem trod_grow {H : Type} {enc : TypeId × Value → H} {P : Program} {w w' : World} {base : Nat} {held : Bool} {T : List TypeId} (hT : flatB P T = true) (hb : ∀ b, b < w.heap.size → w'.heap[b]? = w.heap[b]?) :
    ∀ (fuel : Nat) (t : TypeId) (cs : List Value) (x : DataW H × List MemPlace) (sp : Nat → Bool), t ∈ T → DataW.trod enc P w base (fun _ => true) held fuel t cs = some x → (∀ p ∈ x.2, sp p.block = true) → DataW.trod enc P w' base sp held fuel t cs = some x
  | 0, t, cs, x, sp, _, h, _ => by simp [DataW.trod] at h
  | fuel + 1, t, cs, x, sp, ht, h, hsp => by
    have ih := trod_grow (enc := enc) (P := P) (base := base) (held := held) hT hb fuel
    have hf := flat_at hT ht
    unfold DataW.trod at h ⊢
    split at h
    all_goals (try exact h)
    all_goals (rename_i hu; try (rw [hu] at hf; simp at hf; done))
    · -- a slice
      rename_i e a len cap
      rw [hu] at hf
      simp only [Bool.and_eq_true, decide_eq_true_eq, List.contains_iff_mem] at hf
      obtain ⟨he, hpos⟩ := hf
      simp only at h ⊢
      split at h
      · rename_i hc
        rw [if_pos hc]
        simp only [if_true] at h
        obtain ⟨elems, h1, h2⟩ := Option.bind_eq_some_iff.1 h
        obtain ⟨rest, h3, h4⟩ := Option.map_eq_some_iff.1 h2
        have hx2 : ∀ y ∈ elems ++ rest, ∀ p ∈ y.2, p ∈ x.2 := by
          intro y hy p hp
          rw [← h4]
          exact List.mem_append_right _ (List.mem_flatMap.2 ⟨y, hy, hp⟩)
        have step : ∀ (i : Nat) (y : DataW H × List MemPlace), y ∈ elems ++ rest → ((w.cells? base (a.add (i * P.cellsOf e)) (P.cellsOf e)).bind (DataW.trod enc P w base (fun _ => true) held fuel e)) = some y → ((w'.cells? base (a.add (i * P.cellsOf e)) (P.cellsOf e)).bind (DataW.trod enc P w' base sp held fuel e)) = some y := by
          intro i y hy hi
          obtain ⟨c, hc1, hc2⟩ := Option.bind_eq_some_iff.1 hi
          rw [cells_mono hb hc1]
          exact ih e c y sp he hc2 (fun p hp => hsp p (hx2 y hy p hp))
        rw [mapM_mono _ h1 (fun i _ y hy hi => step i y (List.mem_append_left _ hy) hi)]
        have hrest : (if sp a.block = true then (List.range (cap - len)).mapM fun j => (w'.cells? base (a.add ((len + j) * P.cellsOf e)) (P.cellsOf e)).bind (DataW.trod enc P w' base sp held fuel e) else some []) = some rest := by
          by_cases hsa : sp a.block = true
          · rw [if_pos hsa]
            exact mapM_mono _ h3 (fun j _ y hy hj => step (len + j) y (List.mem_append_right _ hy) hj)
          · rw [if_neg hsa]
            have hl : elems.length + rest.length = 0 := by
              rcases Nat.eq_zero_or_pos (elems.length + rest.length) with h0 | h0
              · exact h0
              · exfalso
                apply hsa
                have hm : MemPlace.cell a.block a.off ∈ x.2 := by
                  rw [← h4]
                  exact List.mem_append_left _ (row_mem (Nat.mul_pos h0 hpos))
                exact hsp _ hm
            have : rest = [] := List.eq_nil_of_length_eq_zero (by omega)
            rw [this]
        show (some elems).bind _ = _
        rw [Option.bind_some]
        rw [hrest]
        exact h4 ▸ rfl
      · simp at h
    · -- a struct
      rename_i fs
      rw [hu] at hf
      simp only [List.all_eq_true, List.contains_iff_mem] at hf
      split at h
      · rename_i hl
        rw [if_pos hl]
        obtain ⟨xs, h1, h2⟩ := Option.map_eq_some_iff.1 h
        rw [mapM_mono _ h1 (fun f hfm y hy hi => ih f.type _ y sp (hf f hfm) hi (fun p hp => hsp p (by rw [← h2]; exact List.mem_flatMap.2 ⟨y, hy, hp⟩)))]
        exact h2 ▸ rfl
      · simp at h
end Go.Proofs.YtkbgdiejjabdmaaDoor
namespace Go.Proofs.YtkbgdiejjabdmaaDoor
open Go.RowKit Go.ChangeShapes

theorem trodAll_grow {H : Type} {enc : TypeId × Value → H} {P : Program} {w w' : World} {base : Nat} {held : Bool} {T : List TypeId} (hT : flatB P T = true) (hb : ∀ b, b < w.heap.size → w'.heap[b]? = w.heap[b]?) (sp : Nat → Bool) :
    ∀ (ts : List TypeId) (vs : List Value) (ds : List (DataW H)) (ps : List MemPlace), (∀ t ∈ ts, t ∈ T) → DataW.TrodAll enc P w base (fun _ => true) held ts vs ds ps → (∀ p ∈ ps, sp p.block = true) → DataW.TrodAll enc P w' base sp held ts vs ds ps
  | [], [], [], ps, _, h, _ => h
  | t :: ts, v :: vs, d :: ds, ps, ht, h, hp => by
    obtain ⟨p, q, ⟨fuel, h1⟩, h2, rfl⟩ := h
    exact ⟨p, q, ⟨fuel, trod_grow hT hb fuel t _ _ sp (ht t (List.mem_cons_self ..)) h1 (fun x hx => hp x (List.mem_append_left _ hx))⟩, trodAll_grow hT hb sp ts vs ds q (fun t' ht' => ht t' (List.mem_cons_of_mem _ ht')) h2 (fun x hx => hp x (List.mem_append_right _ hx)), rfl⟩
  | [], _ :: _, _, _, _, h, _ => h.elim
  | [], [], _ :: _, _, _, h, _ => h.elim
  | _ :: _, [], _, _, _, h, _ => h.elim
  | _ :: _, _ :: _, [], _, _, h, _ => h.elim

theorem add_none {a : Addr} (h : a.spot = none) (i : Nat) : a.add i = ⟨a.block, a.off + i, none⟩ := by
  unfold Addr.add
  obtain ⟨b, o, s⟩ := a
  simp only at h
  subst h
  split
  · rename_i h0; subst h0; rfl
  · rfl
theorem spot_none {w : World} {a : Addr} {v : Value} (h : w.cell? a = some v) : a.spot = none := by
  unfold World.cell? at h
  split at h
  · split at h
    · simp at h
    · rename_i hs; simpa using hs
  · simp at h

section
variable {H : Type} {enc : TypeId × Value → H} {W : World} {sp : Nat → Bool} {held : Bool} {fuel : Nat} {cs : List Value} {x : DataW H × List MemPlace}
theorem open_nat (h : DataW.trod enc Tryd.prog W 0 sp held fuel 24 cs = some x) : ∃ A l c n, cs = [.slice A l c] ∧ AN W (.slice A l c) n l ∧ l ≤ 9223372036854775807 := by
  rcases open_ints Tryd.underlying24 Tryd.underlying78 (by kernel_rfl) h with ⟨rfl, _⟩ | ⟨a, len, cap, zs, rfl, _, hl, hm, hz, _, hc, hw⟩
  · exact ⟨none, 0, 0, 0, rfl, ⟨none, 0, [], rfl, RdN.nil _ _ _, rfl, by simp⟩, by decide⟩
  · have hlen : (zs.take len).length = len := by
      rw [List.length_take, hz]
      split <;> omega
    refine ⟨some a, len, cap, val (zs.take len), rfl, ⟨some a, cap, zs.take len, by rw [hlen], ⟨by rw [hlen]; exact hl, fun y hy => ?_, fun hp => ?_⟩, rfl, by rw [hlen]; exact Nat.le_refl _⟩, by unfold maxLen at hm; omega⟩
    · have := hw y (List.mem_of_mem_take hy)
      simp only [Lit.wf, Bool.and_eq_true, decide_eq_true_eq] at this
      exact this
    · rw [hlen] at hp
      have h0 := hc 0 (by rw [hz]; split <;> omega)
      have hs : a.spot = none := spot_none (a := a) (by simpa [Addr.add] using h0)
      refine ⟨a.block, a.off, by cases a; simp at hs; rw [hs], fun j hj => ?_⟩
      rw [hlen] at hj
      have hj2 := hc j (by rw [hz]; split <;> omega)
      rw [add_none hs] at hj2
      rw [hj2, List.getD_eq_getElem?_getD, List.getD_eq_getElem?_getD, List.getElem?_take, if_pos hj]
set_option maxRecDepth 100000 in
theorem open_int (h : DataW.trod enc Tryd.prog W 0 sp held fuel 51 cs = some x) : ∃ neg A l c n, cs = [.bool neg, .slice A l c] ∧ AN W (.slice A l c) n l ∧ l ≤ 9223372036854775807 := by
  obtain ⟨y0, y1, m, rfl, hl, h0, h1⟩ := trod_struct2 Tryd.underlying51 h
  have hl2 : cs.length = 2 := by rw [hl]; kernel_rfl
  obtain ⟨u, v, rfl⟩ : ∃ u v, cs = [u, v] := by
    match cs, hl2 with
    | [u, v], _ => exact ⟨u, v, rfl⟩
  have h0' : DataW.trod enc Tryd.prog W 0 sp held m 4 [u] = some y0 := h0
  have h1' : DataW.trod enc Tryd.prog W 0 sp held m 24 [v] = some y1 := h1
  obtain ⟨A, l, c, n, hv, ha, hm⟩ := open_nat h1'
  injection hv with hv _
  subst hv
  obtain ⟨b, rfl⟩ : ∃ b, u = .bool b := by
    have := Tryd.underlying4
    cases m with
    | zero => simp [DataW.trod] at h0'
    | succ m =>
      unfold DataW.trod at h0'
      rw [this] at h0'
      split at h0' <;> simp_all
  exact ⟨b, A, l, c, n, rfl, ha, hm⟩
set_option maxRecDepth 100000 in
theorem open_ratio (h : DataW.trod enc Tryd.prog W 0 sp held fuel 71 cs = some x) : ∃ neg A l c n B m d k, cs = [.bool neg, .slice A l c, .slice B m d] ∧ AN W (.slice A l c) n l ∧ AN W (.slice B m d) k m ∧ l ≤ 9223372036854775807 ∧ m ≤ 9223372036854775807 := by
  obtain ⟨y0, y1, m, rfl, hl, h0, h1⟩ := trod_struct2 Tryd.underlying71 h
  have hl2 : cs.length = 3 := by rw [hl]; kernel_rfl
  obtain ⟨u, v, t, rfl⟩ : ∃ u v t, cs = [u, v, t] := by
    match cs, hl2 with
    | [u, v, t], _ => exact ⟨u, v, t, rfl⟩
  have h0' : DataW.trod enc Tryd.prog W 0 sp held m 51 [u, v] = some y0 := h0
  have h1' : DataW.trod enc Tryd.prog W 0 sp held m 24 [t] = some y1 := h1
  obtain ⟨neg, A, l, c, n, hv, ha, hm⟩ := open_int h0'
  obtain ⟨B, m', d, k, ht, hb, hm'⟩ := open_nat h1'
  injection hv with hv1 hv2
  injection hv2 with hv2 _
  injection ht with ht _
  subst hv1; subst hv2; subst ht
  exact ⟨neg, A, l, c, n, B, m', d, k, rfl, ha, hb, hm, hm'⟩
end
end Go.Proofs.YtkbgdiejjabdmaaDoor
