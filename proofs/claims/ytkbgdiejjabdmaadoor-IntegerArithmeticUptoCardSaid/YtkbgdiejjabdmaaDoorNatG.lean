/- The walks of nat.subtract and nat.addBack, which write into a part of a row. -/
import Derived.Test.YtkbgdiejjabdmaaDoorNatF
import Derived.Test.YtkbgdiejjabdmaaDoorPl
namespace Go.Proofs.YtkbgdiejjabdmaaDoor
open Go.RowKit

/-- w' is w but for what block g holds. -/
structure Ex (g : Nat) (w w' : World) : Prop where
  os : w'.os = w.os
  tape : w'.tape = w.tape
  output : w'.output = w.output
  size : w'.heap.size = w.heap.size
  block : ∀ k, k ≠ g → w'.heap[k]? = w.heap[k]?
theorem Ex.refl (g : Nat) (w : World) : Ex g w w := ⟨rfl, rfl, rfl, rfl, fun _ _ => rfl⟩
theorem Ex.trans {g : Nat} {a b c : World} (h : Ex g a b) (k : Ex g b c) : Ex g a c := ⟨k.os.trans h.os, k.tape.trans h.tape, k.output.trans h.output, k.size.trans h.size, fun i hi => (k.block i hi).trans (h.block i hi)⟩
theorem Ex.setCell {g : Nat} {a b : World} (h : Ex g a b) (i : Nat) (v : Value) : Ex g a (b.setCell ⟨g, i, none⟩ v) :=
  h.trans ⟨rfl, rfl, rfl, by simp [World.setCell], fun k hk => Below.heap_setCell _ _ _ _ hk⟩
theorem Ex.cell {g : Nat} {w w' : World} (h : Ex g w w') {p : Addr} (hp : p.block ≠ g) : w'.cell? p = w.cell? p := World.cell?_of_block (w := w) (h.block p.block hp)
theorem Ex.below {g B : Nat} {w w' : World} (h : Ex g w w') (hB : B ≤ g) : Below B w w' := ⟨h.os, h.tape, h.output, by rw [h.size]; exact Nat.le_refl _, fun k hk => h.block k (by omega)⟩
theorem RdN.ex {g gv : Nat} {w w' : World} {c : Nat} {xs : List Int} (h : RdN w (some ⟨gv, 0, none⟩) c xs) (hx : Ex g w w') (hne : gv ≠ g) : RdN w' (some ⟨gv, 0, none⟩) c xs :=
  ⟨h.cap, h.lim, fun hp => by
    obtain ⟨g', o, he, hc⟩ := h.cells hp
    injection he with he
    injection he with he1 he2
    subst he1; subst he2
    exact ⟨gv, 0, rfl, fun j hj => (hx.cell (p := ⟨gv, 0 + j, none⟩) hne).trans (hc j hj)⟩⟩
theorem Row.ex {g gv n c : Nat} {w w' : World} {base : Nat} {e : TypeId} {xs : List Int} (h : Row w base e (.slice (some ⟨gv, 0, none⟩) n c) xs) (hx : Ex g w w') (hne : gv ≠ g) : Row w' base e (.slice (some ⟨gv, 0, none⟩) n c) xs := by
  obtain ⟨rfl, hb, cur, hh, h1, h2, h3, h4⟩ := h.form
  exact ⟨by simp, .inr ⟨gv, c, cur, rfl, hb, by rw [hx.block gv hne]; exact hh, h1, h2, by omega, by rw [Nat.mul_one]; exact h4⟩⟩

def SbIn (D0 y : List Int) (j : Nat) (dg : Int) (w wr : World) (base g N : Nat) (e : TypeId) (k : Nat) (bv cv : Value) : Prop :=
  ∃ D b c, bv = .int .u64 b ∧ cv = .int .u64 c ∧ SbS D0 y j dg k D b c ∧ Row wr base e (.slice (some ⟨g, 0, none⟩) N N) D ∧ Ex g w wr

/-- The end of subtract and of addBack: a row written in a part of it. -/
def SbOut (D0 y : List Int) (j : Nat) (dg : Int) (w : World) (base g N : Nat) (e : TypeId) (en : Ending) (w' : World) : Prop :=
  ∃ D neg, en = .returned (.bool neg) ∧ SbE D0 y j dg D neg ∧ Row w' base e (.slice (some ⟨g, 0, none⟩) N N) D ∧ Ex g w w'

/-- A difference in 64 bits, taken apart. -/
theorem wrap_sub (E b lo : Int) (e0 : 0 ≤ E) (e1 : E ≤ 4294967295) (b0 : 0 ≤ b) (b1 : b ≤ 1) (l0 : 0 ≤ lo) (l1 : lo ≤ 4294967295) :
    ∃ T z b' : Int, IntKind.u64.wrap (IntKind.u64.wrap (E - b) - lo) = T ∧ 0 ≤ T ∧ T < 18446744073709551616 ∧ T % 4294967296 = z ∧ 0 ≤ z ∧ z ≤ 4294967295 ∧ T / 9223372036854775808 = b' ∧ 0 ≤ b' ∧ b' ≤ 1 ∧ E + 4294967296 * b' = z + b + lo := by
  refine ⟨_, _, if E - b - lo < 0 then 1 else 0, rfl, ?_, ?_, rfl, ?_, ?_, ?_, ?_, ?_, ?_⟩
  all_goals (try simp only [IntKind.wrap_u64])
  all_goals (try split)
  all_goals omega

set_option maxHeartbeats 4000000 in
theorem subtract_c (w : World) (base g N j c gv cv : Nat) (D0 y : List Int) (dg : Int) (hrow : Row w base 78 (.slice (some ⟨g, 0, none⟩) N N) D0) (hD : Lim D0) (hN : N ≤ 2199023255552) (hj : j + y.length < N) (hv : RdN w (some ⟨gv, 0, none⟩) cv y) (hne : gv ≠ g) (g0 : 0 ≤ dg) (g1 : dg ≤ 4294967295) :
    Calls Tryd.prog 102 #[.slice (some ⟨g, j, none⟩) (y.length + 1) c, .slice (some ⟨gv, 0, none⟩) y.length cv, .int .u64 dg] w (SbOut D0 y j dg w base g N 78) := by
  have HROW := hid hrow
  have HLD := hid hD
  have HLEN := hid hrow.form.1
  have HV := hid hv
  have HNE := hid hne
  have hlow := low32
  have hcv : ∀ k, k < y.length → w.cell? ⟨gv, k, none⟩ = some (.int .u32 (y.getD k 0)) := fun k hk => by
    obtain ⟨g', o, he, hc⟩ := hv.cells (by omega)
    injection he with he
    injection he with he1 he2
    subst he1; subst he2
    have := hc k hk
    rwa [Nat.zero_add] at this
  have HCV := hid hcv
  clear hrow hv hne hcv hD
  go_enter Tryd.func102, Tryd.ntmps102
  go_wp2
  go_loopw [7, 8, 15] (fun bv cv i wr => ∃ k : Nat, k ≤ y.length ∧ i = .int .i64 k ∧ Hid (SbIn D0 y j dg w wr base g N 78 k bv cv)) (fun _ _ i _ => y.length - (intOf i).toNat)
  case atStart => exact ⟨0, Nat.zero_le _, rfl, _, 0, 0, rfl, rfl, SbS.start y j dg HLD.out, HROW.out, Ex.refl _ _⟩
  case round =>
    obtain ⟨k, hk, rfl, HI⟩ := hrel
    obtain ⟨D, b, c', rfl, rfl, hst, hrow2, hex⟩ := HI.out
    have HST := hid hst
    have HROW2 := hid hrow2
    have HEX := hid hex
    have hb0 := hst.b0
    have hb1 := hst.b1
    have hc0 := hst.c0
    have hc1 := hst.c1
    clear hst hrow2 hex HI
    by_cases hlt : k < y.length
    · have hcy : wr.cell? ⟨gv, k, none⟩ = some (.int .u32 (y.getD k 0)) := (HEX.out.cell HNE.out).trans (HCV.out k hlt)
      have hq := HV.out.lim.get k
      obtain ⟨q, hqe⟩ : ∃ q, q = y.getD k 0 := ⟨_, rfl⟩
      rw [← hqe] at hcy hq
      obtain ⟨hq0, hq1⟩ := hq
      have HQ := hid hqe
      clear hqe
      obtain ⟨hd1, hd2⟩ := HROW2.out.cell (j + k) (by omega)
      have hE := HST.out.lim.get (j + k)
      obtain ⟨E, hEe⟩ : ∃ E, E = D.getD (j + k) 0 := ⟨_, rfl⟩
      rw [← hEe] at hd1 hE
      obtain ⟨hE0, hE1⟩ := hE
      have HE := hid hEe
      clear hEe
      obtain ⟨hm0, hm1⟩ := mul_bound g0 g1 hq0 hq1
      obtain ⟨T, z, b', hT, hT0, hT1, hz, hz0, hz1, hb, hb'0, hb'1, heq⟩ := wrap_sub E b ((c' + dg * q) % 4294967296) hE0 hE1 hb0 hb1 (by omega) (by omega)
      have HN := hid (HST.out.next (t := c' + dg * q) (z := z) (b' := b') HV.out.lim hlt (by have := HLEN.out; omega) g0 g1 (by rw [HQ.out]) (by rw [← HE.out]; exact heq) hz0 hz1 hb'0 hb'1)
      clear heq
      go_wp2
      refine ⟨⟨k + 1, by omega, by go_num, _, _, _, rfl, rfl, HN.out, HROW2.out.set (j + k) _, HEX.out.setCell _ _⟩, by simp [intOf]; omega⟩
    · have hkl : k = y.length := by omega
      have HKL := hid hkl
      clear hkl
      obtain ⟨hd1, hd2⟩ := HROW2.out.cell (j + y.length) (by omega)
      have hE := HST.out.lim.get (j + y.length)
      obtain ⟨E, hEe⟩ : ∃ E, E = D.getD (j + y.length) 0 := ⟨_, rfl⟩
      rw [← hEe] at hd1 hE
      obtain ⟨hE0, hE1⟩ := hE
      have HE := hid hEe
      clear hEe
      obtain ⟨T, z, b', hT, hT0, hT1, hz, hz0, hz1, hb, hb'0, hb'1, heq⟩ := wrap_sub E b c' hE0 hE1 hb0 hb1 hc0 hc1
      have h1 := HST.out
      rw [HKL.out] at h1
      have HN := hid (h1.done (z := z) (b' := b') (neg := b' == 1) (by have := HLEN.out; omega) (by rw [← HE.out]; exact heq) hz0 hz1 (by
        by_cases h : b' = 1
        · subst h; rfl
        · have h0 : b' = 0 := by omega
          subst h0; rfl))
      clear heq h1
      go_wp2
      go_ret
      exact ⟨_, _, rfl, HN.out, HROW2.out.set (j + y.length) _, HEX.out.setCell _ _⟩

def AbIn (D0 y : List Int) (j : Nat) (w wr : World) (base g N : Nat) (e : TypeId) (k : Nat) (cv : Value) : Prop :=
  ∃ D c, cv = .int .u64 c ∧ AbS D0 y j k D c ∧ Row wr base e (.slice (some ⟨g, 0, none⟩) N N) D ∧ Ex g w wr
def AbOut (D0 y : List Int) (j : Nat) (w : World) (base g N : Nat) (e : TypeId) (en : Ending) (w' : World) : Prop :=
  ∃ D, en = .returned (.tuple #[]) ∧ AbE D0 y j D ∧ Row w' base e (.slice (some ⟨g, 0, none⟩) N N) D ∧ Ex g w w'

set_option maxHeartbeats 4000000 in
theorem addBack_c (w : World) (base g N j c gv cv : Nat) (D0 y : List Int) (hrow : Row w base 78 (.slice (some ⟨g, 0, none⟩) N N) D0) (hD : Lim D0) (hN : N ≤ 2199023255552) (hj : j + y.length < N) (hv : RdN w (some ⟨gv, 0, none⟩) cv y) (hne : gv ≠ g) :
    Calls Tryd.prog 103 #[.slice (some ⟨g, j, none⟩) (y.length + 1) c, .slice (some ⟨gv, 0, none⟩) y.length cv] w (AbOut D0 y j w base g N 78) := by
  have HROW := hid hrow
  have HLD := hid hD
  have HLEN := hid hrow.form.1
  have HV := hid hv
  have HNE := hid hne
  have hlow := low32
  have hcv : ∀ k, k < y.length → w.cell? ⟨gv, k, none⟩ = some (.int .u32 (y.getD k 0)) := fun k hk => by
    obtain ⟨g', o, he, hc⟩ := hv.cells (by omega)
    injection he with he
    injection he with he1 he2
    subst he1; subst he2
    have := hc k hk
    rwa [Nat.zero_add] at this
  have HCV := hid hcv
  clear hrow hv hne hcv hD
  go_enter Tryd.func103, Tryd.ntmps103
  go_wp2
  go_loopw [4, 9] (fun cv i wr => ∃ k : Nat, k ≤ y.length ∧ i = .int .i64 k ∧ Hid (AbIn D0 y j w wr base g N 78 k cv)) (fun _ i _ => y.length - (intOf i).toNat)
  case atStart => exact ⟨0, Nat.zero_le _, rfl, _, 0, rfl, AbS.start y j HLD.out, HROW.out, Ex.refl _ _⟩
  case round =>
    obtain ⟨k, hk, rfl, HI⟩ := hrel
    obtain ⟨D, c', rfl, hst, hrow2, hex⟩ := HI.out
    have HST := hid hst
    have HROW2 := hid hrow2
    have HEX := hid hex
    have hc0 := hst.c0
    have hc1 := hst.c1
    clear hst hrow2 hex HI
    by_cases hlt : k < y.length
    · have hcy : wr.cell? ⟨gv, k, none⟩ = some (.int .u32 (y.getD k 0)) := (HEX.out.cell HNE.out).trans (HCV.out k hlt)
      have hq := HV.out.lim.get k
      obtain ⟨q, hqe⟩ : ∃ q, q = y.getD k 0 := ⟨_, rfl⟩
      rw [← hqe] at hcy hq
      obtain ⟨hq0, hq1⟩ := hq
      have HQ := hid hqe
      clear hqe
      obtain ⟨hd1, hd2⟩ := HROW2.out.cell (j + k) (by omega)
      have hE := HST.out.lim.get (j + k)
      obtain ⟨E, hEe⟩ : ∃ E, E = D.getD (j + k) 0 := ⟨_, rfl⟩
      rw [← hEe] at hd1 hE
      obtain ⟨hE0, hE1⟩ := hE
      have HE := hid hEe
      clear hEe
      have HN := hid (HST.out.next (t := c' + (E + q)) HV.out.lim hlt (by have := HLEN.out; omega) (by rw [HE.out, HQ.out]))
      go_wp2
      refine ⟨⟨k + 1, by omega, by go_num, _, _, rfl, HN.out, HROW2.out.set (j + k) _, HEX.out.setCell _ _⟩, by simp [intOf]; omega⟩
    · have hkl : k = y.length := by omega
      have HKL := hid hkl
      clear hkl
      obtain ⟨hd1, hd2⟩ := HROW2.out.cell (j + y.length) (by omega)
      have hE := HST.out.lim.get (j + y.length)
      obtain ⟨E, hEe⟩ : ∃ E, E = D.getD (j + y.length) 0 := ⟨_, rfl⟩
      rw [← hEe] at hd1 hE
      obtain ⟨hE0, hE1⟩ := hE
      have HE := hid hEe
      clear hEe
      have h1 := HST.out
      rw [HKL.out] at h1
      have HN := hid (h1.done (t := E + c') (by have := HLEN.out; omega) (by rw [HE.out]))
      clear h1
      have hw := u32_low (E + c')
      go_wp2
      go_end0
      exact ⟨_, rfl, HN.out, HROW2.out.set (j + y.length) _, HEX.out.setCell _ _⟩
end Go.Proofs.YtkbgdiejjabdmaaDoor
