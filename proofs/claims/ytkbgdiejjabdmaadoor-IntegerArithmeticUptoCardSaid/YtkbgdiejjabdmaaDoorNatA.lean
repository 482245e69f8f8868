/- The walks of trim and of what only reads: each call's result, as a number. -/
import Derived.Test.YtkbgdiejjabdmaaDoorBase
import Derived.Test.YtkbgdiejjabdmaaDoorBits
import Derived.Test.YtkbgdiejjabdmaaDoorRow
import Derived.Test.YtkbgdiejjabdmaaDoorRows
import Derived.WalkSpells
import Derived.WalkLawsBesides
namespace Go.Proofs.YtkbgdiejjabdmaaDoor
open Go.RowKit

theorem trim_len {xs : List Int} {m : Nat} (hl : Lim xs) (hm : m ≤ xs.length) (hz : ∀ i, m ≤ i → i < xs.length → xs.getD i 0 = 0) (ht : m = 0 ∨ xs.getD (m - 1) 0 ≠ 0) : m = (limbs (val xs)).length := by
  rw [← limbs_of_cut hl hm hz ht, List.length_take]; omega
theorem trim_take {xs : List Int} (hl : Lim xs) : ∃ m, m ≤ xs.length ∧ xs.take m = limbs (val xs) := by
  have key : ∀ k, k ≤ xs.length → (∀ i, k ≤ i → i < xs.length → xs.getD i 0 = 0) → ∃ m, m ≤ xs.length ∧ xs.take m = limbs (val xs) := by
    intro k
    induction k with
    | zero => intro h0 hz; exact ⟨0, by omega, limbs_of_cut hl (by omega) hz (.inl rfl)⟩
    | succ k ih =>
      intro hk hz
      by_cases h : xs.getD k 0 = 0
      · refine ih (by omega) (fun i h1 h2 => ?_)
        by_cases hik : i = k
        · subst hik; exact h
        · exact hz i (by omega) h2
      · exact ⟨k + 1, hk, limbs_of_cut hl hk hz (.inr (by simpa using h))⟩
  exact key xs.length (Nat.le_refl _) (fun i h1 h2 => by omega)
theorem limbs_val_le {xs : List Int} (hl : Lim xs) : (limbs (val xs)).length ≤ xs.length := by
  obtain ⟨m, hm, h⟩ := trim_take hl
  rw [← h, List.length_take]; omega
theorem RdN.trim {w : World} {A : Option Addr} {c : Nat} {xs : List Int} (h : RdN w A c xs) : RdN w A (limbs (val xs)).length (limbs (val xs)) := by
  obtain ⟨m, hm, he⟩ := trim_take h.lim
  have := h.take m hm
  rw [he] at this
  have hl : (limbs (val xs)).length = m := by rw [← he, List.length_take]; omega
  rwa [hl]

set_option maxHeartbeats 400000 in
theorem trim_c (w : World) (A : Option Addr) (c : Nat) (xs : List Int) (h : RdN w A c xs) (hL : xs.length ≤ 4398046511104) :
    Calls Tryd.prog 95 #[.slice A xs.length c] w fun e w' => e = .returned (.slice A (limbs (val xs)).length (limbs (val xs)).length) ∧ w = w' := by
  have HR := hid h
  have hcap := h.cap
  obtain ⟨n, hn⟩ : ∃ n, n = xs.length := ⟨_, rfl⟩
  rw [← hn] at hL hcap ⊢
  have HN := hid hn
  clear h hn
  go_enter Tryd.func95, Tryd.ntmps95
  go_wp2
  go_loop [3] (fun i => ∃ k : Nat, k ≤ n ∧ i = .int .i64 k ∧ Hid (∀ i, k ≤ i → i < n → xs.getD i 0 = 0))
    (fun i => (intOf i).toNat)
  case atStart => exact ⟨n, Nat.le_refl _, rfl, fun i h1 h2 => by omega⟩
  case round =>
    obtain ⟨k, hk, rfl, HZ⟩ := hrel
    by_cases hk0 : 0 < k
    · obtain ⟨g, o, rfl, hc⟩ := HR.out.cells (by rw [← HN.out]; omega)
      have hcx : w.cell? ⟨g, o + (k - 1), none⟩ = some (.int .u32 (xs.getD (k - 1) 0)) := hc _ (by rw [← HN.out]; omega)
      have HC := hid hc
      clear hc
      by_cases hz : xs.getD (k - 1) 0 = 0
      · have hzb : (xs[k - 1]?.getD 0 == 0) = true := by rw [beq_iff_eq, ← List.getD_eq_getElem?_getD]; exact hz
        have HZ0 := hid hz
        clear hz
        go_wp2
        refine ⟨⟨k - 1, by omega, by go_num, fun i h1 h2 => ?_⟩, by simp [intOf]; omega⟩
        by_cases hik : i = k - 1
        · subst hik; exact HZ0.out
        · exact HZ.out i (by omega) h2
      · have hzb : (xs[k - 1]?.getD 0 == 0) = false := by rw [beq_eq_false_iff_ne, ← List.getD_eq_getElem?_getD]; exact hz
        have HZ0 := hid hz
        clear hz
        go_wp2
        go_ret
        have := trim_len HR.out.lim (by rw [← HN.out]; exact hk) (by rw [← HN.out]; exact HZ.out) (.inr HZ0.out)
        exact ⟨by rw [← this]; rfl, rfl⟩
    · obtain rfl : k = 0 := by omega
      go_wp2
      go_ret
      have := trim_len HR.out.lim (m := 0) (by omega) (by rw [← HN.out]; exact HZ.out) (.inl rfl)
      exact ⟨by rw [← this]; rfl, rfl⟩

theorem Own.trim {w : World} {b : Nat} {A : Option Addr} {xs : List Int} (h : Own w b A xs.length) (hl : Lim xs) : Own w b A (limbs (val xs)).length := h.le (limbs_val_le hl)
theorem VN.trim {w : World} {b : Nat} {A : Option Addr} {c L : Nat} {xs : List Int} (h : RdN w A c xs) (ho : Own w b A xs.length) (hL : xs.length ≤ L) : VN w b (.slice A (limbs (val xs)).length (limbs (val xs)).length) (val xs) L :=
  ⟨A, _, rfl, h.trim, Nat.le_trans (limbs_val_le h.lim) hL, ho.trim h.lim⟩

theorem of_val (n : Int) (h0 : 0 ≤ n) (h1 : n < 18446744073709551616) : val [n % 4294967296, n / 4294967296] = n.toNat := by simp only [val]; omega

theorem Of_lims (n : Int) : Lim [n % 4294967296, n / 4294967296 % 4294967296] := by
  intro x hx
  simp only [List.mem_cons, List.not_mem_nil, or_false] at hx
  rcases hx with rfl | rfl <;> omega
theorem gr_alloc_of {w w' : World} {o : Obj} (h : Gr (w.alloc o) w') : Gr w w' := (Gr.alloc w o).trans h

set_option maxHeartbeats 400000 in
theorem of_c (w : World) (n : Int) (h0 : 0 ≤ n) (h1 : n < 18446744073709551616) :
    Calls Tryd.prog 28 #[.int .u64 n] w (Ret w fun v w' => VN w' w.heap.size v n.toNat 2) := by
  have H1 := hid h1
  clear h1
  have hlow := low32 n
  have hb := heap_alloc_new w (.cells #[.int .u32 (n % 4294967296), .int .u32 (n / 4294967296 % 4294967296)] 78)
  have hr : RdN (w.alloc (.cells #[.int .u32 (n % 4294967296), .int .u32 (n / 4294967296 % 4294967296)] 78)) (some ⟨w.heap.size, 0, none⟩) 2 [n % 4294967296, n / 4294967296 % 4294967296] :=
    RdN.of_block hb (Of_lims n) (Nat.le_refl _) (fun j hj => by
      match j, hj with
      | 0, _ => rfl
      | 1, _ => rfl)
  have HO := hid (Own.of_block (b := w.heap.size) hb (Nat.le_refl _) 2)
  have HR := hid hr
  clear hr hb
  go_enter Tryd.func28, Tryd.ntmps28
  go_wp2_with (go_at_call 95; refine (trim_c _ _ _ _ HR.out (by simp)).mono ?_; rintro e w' ⟨rfl, rfl⟩)
  go_ret
  have hv : val [n % 4294967296, n / 4294967296 % 4294967296] = n.toNat := by have := H1.out; simp only [val]; omega
  have := VN.trim (L := 2) HR.out HO.out (by simp)
  rw [hv] at this
  exact ⟨_, by rw [hv]; rfl, this, Gr.alloc _ _⟩

theorem Tryd.info_u32 : (Tryd.prog.info? 78).map (fun i => (i.zero, i.size, i.bytes)) = some (some (.int .u32 0), 1, 4) := by kernel_rfl

set_option maxHeartbeats 400000 in
theorem norm_c (w : World) (v : Value) (n L : Nat) (h : AN w v n L) (hL : L ≤ 1099511627776) :
    Calls Tryd.prog 30 #[v] w (Ret w fun v w' => VN w' w.heap.size v n L) := by
  obtain ⟨A, c, xs, rfl, hr, rfl, hlen⟩ := h
  have HR := hid hr
  have HL := hid (limbs_val_le hr.lim)
  have HLL := hid hlen
  have HB := hid hL
  have hb := hid (heap_alloc_new w (.cells #[] 78))
  clear hr hlen hL
  go_enter Tryd.func30, Tryd.ntmps30
  go_wp2_with (first
    | (go_at_call 95; refine (trim_c _ _ _ _ (HR.out.gr (Gr.alloc _ _)) (by have := HLL.out; have := HB.out; omega)).mono ?_; rintro e w' ⟨rfl, rfl⟩)
    | (at_builtin; refine app_row (w0 := w) rfl (.tmp 3) (.tmp 5) 24 78 w.heap.size rfl Tryd.underlying24 Tryd.info_u32 _ [] (limbs (val xs)) A _ rfl rfl ?_ (HR.out.trim.gr (Gr.alloc _ _)) ?_ ?_ ?_ ?_ ?_))
  · exact Row.empty w _ _ (Nat.le_refl _)
  · have := HL.out; have := HLL.out; have := HB.out; simp; omega
  · simp
  · exact (Below.refl _ _).alloc (Nat.le_refl _) _
  · intro v' w1 hrow hbel _
    have HB1 := hid hbel
    clear hbel
    obtain ⟨A', c', rfl, hr', ho'⟩ := hrow.reads (by simpa using limbs_lim (val xs))
    have HR' := hid hr'
    have HO' := hid ho'
    clear hr' ho' hrow
    go_wp2
    go_ret
    exact ⟨_, rfl, ⟨A', c', by simp, by simpa using HR'.out, Nat.le_trans HL.out HLL.out, by simpa using HO'.out⟩, HB1.out⟩
  · intro hA; exact HR.out.trim.no_cap hA
end Go.Proofs.YtkbgdiejjabdmaaDoor
