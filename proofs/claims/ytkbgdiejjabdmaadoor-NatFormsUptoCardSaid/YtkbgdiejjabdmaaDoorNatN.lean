/- copy into a longer row; the walk of the law's helper high. -/
import Derived.Test.YtkbgdiejjabdmaaDoorCopyR
import Derived.Test.YtkbgdiejjabdmaaDoorNatL
namespace Go.Proofs.YtkbgdiejjabdmaaDoor
open Go.RowKit

section
variable {P : Program} {ops : Array Oper} {rest : List Oper} {o : Oper} {a : Act} {Q : Exit → Act → World → Prop}
theorem copy_into {w w0 : World} (hgd : o.guard = none) (d s : Operand) (dT sT e base : Nat) (ho : o.op = .call { callee := .builtin .copy, args := #[d, s], argTypes := #[dT, sT] })
    (hu : P.underlying dT = some (.slice e)) (hinfo : (P.info? e).map (fun i => (i.zero, i.size, i.bytes)) = some (some (.int .u32 0), 1, 4))
    (g n : Nat) (zs xs : List Int) (A : Option Addr) (c sl : Nat) (hsl : sl = xs.length) (hd : a.eval d = .slice (some ⟨g, 0, none⟩) n n) (hs : a.eval s = .slice A sl c)
    (hown : Row w base e (.slice (some ⟨g, 0, none⟩) n n) zs) (hr : RdN w A c xs) (hn : xs.length ≤ n) (hB : Below base w0 w)
    (h : ∀ w' v, Row w' base e (.slice (some ⟨g, 0, none⟩) n n) (xs ++ zs.drop xs.length) → Below base w0 w' → wpList P ops Q rest (a.put o.dst v) w') : wpList P ops Q (o :: rest) a w := by
  subst hsl
  have hsz : (P.info? e).map (·.size) = some 1 := by
    obtain ⟨i0, hi, hzz⟩ := Option.map_eq_some_iff.1 hinfo
    simp only [Prod.mk.injEq] at hzz
    rw [hi, Option.map_some, hzz.2.1]
  obtain ⟨hlen, hbase, cur, hh, hnc, hcm, hcs, htake⟩ := hown.form
  by_cases h0 : xs.length = 0
  · have hx : xs = [] := List.eq_nil_of_length_eq_zero h0
    subst hx
    refine wpList_copy_nothing hgd d s dT sT ho e hu hsz _ _ _ _ _ _ hd hs (by simp) ?_
    refine h w _ ?_ hB
    simpa using hown
  · obtain ⟨k, oo, rfl, hc⟩ := hr.cells (by omega)
    have hcl : (xs.map (Value.int .u32)).length = xs.length := List.length_map _
    refine wpList_copy_own hgd d s dT sT ho e hu hsz g 0 n n ⟨k, oo, none⟩ xs.length c hd hs cur e hh (xs.map (Value.int .u32)) (by rw [hcl]; exact (Nat.min_eq_left hn).symm) (fun j v hj => ?_) (by rw [hcl]; omega) (fun v hv => ?_) ?_
    · have hjl : j < xs.length := by have := (List.getElem?_eq_some_iff.1 hj).1; omega
      have hadd : (⟨k, oo, none⟩ : Addr).add j = ⟨k, oo + j, none⟩ := by unfold Addr.add; split <;> simp_all
      rw [hadd, hc j hjl]
      rw [List.getElem?_map, List.getElem?_eq_getElem hjl] at hj
      rw [List.getD_eq_getElem?_getD, List.getElem?_eq_getElem hjl]
      simpa using hj
    · obtain ⟨z, _, rfl⟩ := List.mem_map.1 hv
      rfl
    · rw [hcl]
      refine h _ _ ?_ (below_setRow hB hbase _)
      have hcur : cur.toList = zs.map (Value.int .u32) := by
        rw [← htake, List.take_of_length_le (by rw [Array.length_toList]; omega)]
      have hset := setRow_heap w g cur (cur.toList.take 0 ++ xs.map (Value.int .u32) ++ cur.toList.drop (0 + xs.length)).toArray e _ hh
      have hl2 : (xs ++ zs.drop xs.length).length = n := by rw [List.length_append, List.length_drop]; omega
      refine ⟨by simp, .inr ⟨g, n, _, by rw [hl2], hbase, hset, ?_, hcm, ?_, ?_⟩⟩
      · rw [hl2]; exact Nat.le_refl _
      · rw [hcur, List.size_toArray]
        simp only [List.take_zero, List.nil_append, List.length_append, List.length_map, List.length_drop, Nat.zero_add]
        omega
      · rw [hl2, hcur, List.take_zero, List.nil_append, Nat.zero_add, ← List.map_drop, ← List.map_append, Nat.mul_one]
        show List.take n ((xs ++ zs.drop xs.length).map (Value.int .u32)) = _
        exact List.take_of_length_le (by rw [List.length_map]; omega)
end
theorem val_app_zero (xs : List Int) (k : Nat) : val (xs ++ List.replicate k 0) = val xs := by
  have hz : ∀ k, val (List.replicate k 0) = 0 := by
    intro k
    induction k with
    | zero => rfl
    | succ k ih =>
      rw [List.replicate_succ]
      show (0 : Int).toNat + 4294967296 * val (List.replicate k 0) = 0
      rw [ih]; rfl
  induction xs with
  | nil => exact hz k
  | cons x xs ih =>
    show x.toNat + 4294967296 * val (xs ++ List.replicate k 0) = x.toNat + 4294967296 * val xs
    rw [ih]

set_option maxHeartbeats 4000000 in
theorem high_c (w : World) (v1 : Value) (n L : Nat) (k : Int) (h1 : AN w v1 n L) (hL : L ≤ 1099511627776) (hk0 : 0 ≤ k) (hk1 : k ≤ 255) :
    Calls Tryd.prog 49 #[v1, .int .u8 k] w (Ret w fun v w' => AN w' v n (L + 255)) := by
  obtain ⟨A, c, xs, rfl, hr, rfl, hlen⟩ := h1
  have HR := hid hr
  obtain ⟨l, hl⟩ : ∃ l, l = xs.length := ⟨_, rfl⟩
  have hLl : l ≤ 1099511627776 := by omega
  have hlz : (l : Int) ≤ 1099511627776 := by omega
  obtain ⟨m, hm⟩ : ∃ m : Nat, m = l + k.toNat := ⟨_, rfl⟩
  have hmz : (l : Int) + k = (m : Int) := by omega
  have HLE := hid hlen
  rw [← hl]
  have HN := hid hl
  have HM := hid hm
  have hw1 : IntKind.i64.wrap k = k := IntWalk.i64_in _ (by omega)
  have hw2 : IntKind.i64.wrap ((l : Int) + k) = (m : Int) := by rw [hmz]; exact IntWalk.i64_in _ (by omega)
  clear hr hlen hl hL hm hmz
  go_enter Tryd.func49, Tryd.ntmps49
  go_wp2_with (at_make; refine make_full (w0 := w) rfl (.tmp 10) (.tmp 10) 24 78 w.heap.size rfl Tryd.underlying24 Tryd.info_u32 .i64 .i64 _ _ m rfl rfl rfl rfl (by have := HM.out; omega) (Nat.le_refl _) (Below.refl _ _) ?_)
  intro w1 hrow hbel _ hgr
  have HROW := hid hrow
  have HB0 := hid hbel
  have HR1 := hid (HR.out.gr hgr)
  clear hrow hbel hgr
  go_wp2_with (refine copy_into (w0 := w) rfl (.tmp 12) (.tmp 13) 24 24 78 w.heap.size rfl Tryd.underlying24 Tryd.info_u32 w.heap.size m _ xs _ c l HN.out rfl rfl HROW.out HR1.out (by have := HN.out; have := HM.out; omega) HB0.out ?_)
  intro w2 v2 hrow hbel
  have HROW2 := hid hrow
  have HB2 := hid hbel
  clear hrow hbel
  go_wp2
  go_ret
  refine ⟨_, rfl, ?_, HB2.out⟩
  have hrw := HROW2.out
  have hlim : Lim (xs ++ List.replicate (m - xs.length) 0) := by
    intro y hy
    rcases List.mem_append.1 hy with h | h
    · exact HR.out.lim y h
    · obtain ⟨_, rfl⟩ := List.mem_replicate.1 h; decide
  obtain ⟨A', c', he, hrd, _⟩ := hrw.reads hlim
  rw [he]
  refine ⟨A', c', _, rfl, hrd, val_app_zero _ _, ?_⟩
  have h1 := HM.out
  have h2 := HN.out
  have h3 := HLE.out
  simp only [List.length_append, List.length_replicate]
  omega
end Go.Proofs.YtkbgdiejjabdmaaDoor
