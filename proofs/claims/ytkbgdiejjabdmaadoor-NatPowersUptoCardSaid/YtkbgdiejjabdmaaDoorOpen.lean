/- From a reading of an argument to what it denotes. -/
import Derived.Test.YtkbgdiejjabdmaaDoorGrow
import Derived.Test.YtkbgdiejjabdmaaDoorRows
import Derived.ChangeSlices
namespace Go.Proofs.YtkbgdiejjabdmaaDoor
open Go.RowKit Go.ChangeShapes

theorem trodAll_grow {H : Type} {enc : TypeId × Value → H} {P : Program} {w w' : World} {base : Nat} {held : Bool} {T : List TypeId} (hT : flatB P T = true) (hb : ∀ b, b < w.heap.size → w'.heap[b]? = w.heap[b]?) (sp : Nat → Bool) :
    ∀ (ts : List TypeId) (vs : List Value) (ds : List (DataW H)) (ps : List MemPlace), (∀ t ∈ ts, t ∈ T) → DataW.TrodAll enc P w base (fun _ => true) held ts vs ds ps → (∀ p ∈ ps, sp p.block = true) → DataW.TrodAll enc P w' base sp held ts vs ds ps
  | [], [], [], ps, _, h, _ => h
  | t :: ts, v :: vs, d :: ds, ps, ht, h, hp => by
    obtain ⟨p, q, ⟨fuel, h1⟩, h2, rfl⟩ := h
    exact ⟨p, q, ⟨fuel, trod_grow hT hb fuel t _ _ sp (ht t (List.mem_cons_self ..)) h1 (fun x hx => hp x (List.mem_append_left _ hx))⟩, trodAll_grow hT hb sp ts vs ds q (fun t' ht' => ht t' (List.mem_cons_of_mem _ ht')) h2 (fun x hx => hp x (List.mem_append_right _ hx)), rfl⟩
  | [], _ :: _, _, _, _, h, _ => h.elim
  | [], [], _ :: _, _, _, h, _ => h.elim
  | _ :: _, [], _, _, _, h, _ => h.elim
  | _ :: _, _ :: _, [], _, _, h, _ => h.elim

theorem add_none {a : Addr} (h : a.spot = none) (i : Nat) : a.add i = ⟨a.block, a.off + i, none⟩ := by
  unfold Addr.add
  obtain ⟨b, o, s⟩ := a
  simp only at h
  subst h
  split
  · rename_i h0; subst h0; rfl
  · rfl
theorem spot_none {w : World} {a : Addr} {v : Value} (h : w.cell? a = some v) : a.spot = none := by
  unfold World.cell? at h
  split at h
  · split at h
    · simp at h
    · rename_i hs; simpa using hs
  · simp at h

section
variable {H : Type} {enc : TypeId × Value → H} {W : World} {sp : Nat → Bool} {held : Bool} {fuel : Nat} {cs : List Value} {x : DataW H × List MemPlace}
theorem open_nat (h : DataW.trod enc Tryd.prog W 0 sp held fuel 24 cs = some x) : ∃ A l c n, cs = [.slice A l c] ∧ AN W (.slice A l c) n l ∧ l ≤ 9223372036854775807 := by
  rcases open_ints Tryd.underlying24 Tryd.underlying78 (by kernel_rfl) h with ⟨rfl, _⟩ | ⟨a, len, cap, zs, rfl, _, hl, hm, hz, _, hc, hw⟩
  · exact ⟨none, 0, 0, 0, rfl, ⟨none, 0, [], rfl, RdN.nil _ _ _, rfl, by simp⟩, by decide⟩
  · have hlen : (zs.take len).length = len := by
      rw [List.length_take, hz]
      split <;> omega
    refine ⟨some a, len, cap, val (zs.take len), rfl, ⟨some a, cap, zs.take len, by rw [hlen], ⟨by rw [hlen]; exact hl, fun y hy => ?_, fun hp => ?_⟩, rfl, by rw [hlen]; exact Nat.le_refl _⟩, by unfold maxLen at hm; omega⟩
    · have := hw y (List.mem_of_mem_take hy)
      simp only [Lit.wf, Bool.and_eq_true, decide_eq_true_eq] at this
      exact this
    · rw [hlen] at hp
      have h0 := hc 0 (by rw [hz]; split <;> omega)
      have hs : a.spot = none := spot_none (a := a) (by simpa [Addr.add] using h0)
      refine ⟨a.block, a.off, by cases a; simp at hs; rw [hs], fun j hj => ?_⟩
      rw [hlen] at hj
      have hj2 := hc j (by rw [hz]; split <;> omega)
      rw [add_none hs] at hj2
      rw [hj2, List.getD_eq_getElem?_getD, List.getD_eq_getElem?_getD, List.getElem?_take, if_pos hj]
set_option maxRecDepth 100000 in
theorem open_int (h : DataW.trod enc Tryd.prog W 0 sp held fuel 51 cs = some x) : ∃ neg A l c n, cs = [.bool neg, .slice A l c] ∧ AN W (.slice A l c) n l ∧ l ≤ 9223372036854775807 := by
  obtain ⟨y0, y1, m, rfl, hl, h0, h1⟩ := trod_struct2 Tryd.underlying51 h
  have hl2 : cs.length = 2 := by rw [hl]; kernel_rfl
  obtain ⟨u, v, rfl⟩ : ∃ u v, cs = [u, v] := by
    match cs, hl2 with
    | [u, v], _ => exact ⟨u, v, rfl⟩
  have h0' : DataW.trod enc Tryd.prog W 0 sp held m 4 [u] = some y0 := h0
  have h1' : DataW.trod enc Tryd.prog W 0 sp held m 24 [v] = some y1 := h1
  obtain ⟨A, l, c, n, hv, ha, hm⟩ := open_nat h1'
  injection hv with hv _
  subst hv
  obtain ⟨b, rfl⟩ : ∃ b, u = .bool b := by
    have := Tryd.underlying4
    cases m with
    | zero => simp [DataW.trod] at h0'
    | succ m =>
      unfold DataW.trod at h0'
      rw [this] at h0'
      split at h0' <;> simp_all
  exact ⟨b, A, l, c, n, rfl, ha, hm⟩
set_option maxRecDepth 100000 in
theorem open_ratio (h : DataW.trod enc Tryd.prog W 0 sp held fuel 71 cs = some x) : ∃ neg A l c n B m d k, cs = [.bool neg, .slice A l c, .slice B m d] ∧ AN W (.slice A l c) n l ∧ AN W (.slice B m d) k m ∧ l ≤ 9223372036854775807 ∧ m ≤ 9223372036854775807 := by
  obtain ⟨y0, y1, m, rfl, hl, h0, h1⟩ := trod_struct2 Tryd.underlying71 h
  have hl2 : cs.length = 3 := by rw [hl]; kernel_rfl
  obtain ⟨u, v, t, rfl⟩ : ∃ u v t, cs = [u, v, t] := by
    match cs, hl2 with
    | [u, v, t], _ => exact ⟨u, v, t, rfl⟩
  have h0' : DataW.trod enc Tryd.prog W 0 sp held m 51 [u, v] = some y0 := h0
  have h1' : DataW.trod enc Tryd.prog W 0 sp held m 24 [t] = some y1 := h1
  obtain ⟨neg, A, l, c, n, hv, ha, hm⟩ := open_int h0'
  obtain ⟨B, m', d, k, ht, hb, hm'⟩ := open_nat h1'
  injection hv with hv1 hv2
  injection hv2 with hv2 _
  injection ht with ht _
  subst hv1; subst hv2; subst ht
  exact ⟨neg, A, l, c, n, B, m', d, k, rfl, ha, hb, hm, hm'⟩
end
end Go.Proofs.YtkbgdiejjabdmaaDoor
