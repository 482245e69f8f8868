/- Opening the arguments where their bulk is bounded; the table that the row lists. -/
import Derived.Test.YtkbgdiejjabdmaaDoorOpen
import Derived.Test.YtkbgdiejjabdmaaDoorFmt
import Derived.ProofKit
import Derived.OpenShut
import Derived.Stop.LaidErr
import Derived.Lib.LaidTab
namespace Go.Proofs.YtkbgdiejjabdmaaDoor
open Go.ChangeShapes Go.WideShapes Go.ChangeAt Go.RowKit

theorem bulk_one {H : Type} (d : DataW H) : 1 ≤ Rows.uptoBulk d := by
  cases d with
  | lit l => cases l <;> simp [Rows.uptoBulk]
  | nil => simp [Rows.uptoBulk]
  | ptr d => simp [Rows.uptoBulk]
  | slice elems spare => simp [Rows.uptoBulk]
  | agg parts => simp [Rows.uptoBulk]
  | iface t d => simp [Rows.uptoBulk]
  | map entries => simp [Rows.uptoBulk]
  | held h => simp [Rows.uptoBulk]
theorem bulk_len {H : Type} (l : List (DataW H)) : l.length ≤ Rows.uptoBulkAll l := by
  induction l with
  | nil => simp [Rows.uptoBulkAll]
  | cons x r ih => have := bulk_one x; simp only [Rows.uptoBulkAll, List.length_cons]; omega
theorem bulk_slice {H : Type} (elems spare : List (DataW H)) : elems.length ≤ Rows.uptoBulk (.slice elems spare) := by
  have h1 := bulk_len elems
  simp only [Rows.uptoBulk]
  omega
theorem bulk_str {H : Type} (bytes : List UInt8) : Rows.uptoBulk (DataW.lit (H := H) (.string bytes)) = bytes.length + 1 := by
  simp [Rows.uptoBulk]
theorem bulk_bound {H : Type} {l : List (DataW H)} (hk : Rows.uptoSmall H l = true) : Rows.uptoBulkAll l ≤ 1048576 := of_decide_eq_true hk

section
variable {H : Type} {enc : TypeId × Value → H} {W : World} {sp : Nat → Bool} {held : Bool} {fuel : Nat} {cs : List Value} {x : DataW H × List MemPlace}
theorem open_natb (h : DataW.trod enc Tryd.prog W 0 sp held fuel 24 cs = some x) : ∃ A l c n, cs = [.slice A l c] ∧ AN W (.slice A l c) n l ∧ l ≤ Rows.uptoBulk x.1 := by
  obtain ⟨A, l, c, n, hcs, ha, _⟩ := open_nat h
  refine ⟨A, l, c, n, hcs, ha, ?_⟩
  rcases open_ints Tryd.underlying24 Tryd.underlying78 (by kernel_rfl) h with ⟨hc, _⟩ | ⟨a, len, cap, zs, hc, _, hl, _, hz, hx, _, _⟩
  · rw [hcs] at hc
    injection hc with hc _
    injection hc with _ hc _
    omega
  · rw [hcs] at hc
    injection hc with hc _
    injection hc with _ hc _
    subst hc
    rw [hx]
    refine Nat.le_trans ?_ (bulk_slice _ _)
    simp only [lits, List.length_map, List.length_take, hz]
    split <;> omega
set_option maxRecDepth 100000 in
theorem open_intb (h : DataW.trod enc Tryd.prog W 0 sp held fuel 51 cs = some x) : ∃ neg A l c n, cs = [.bool neg, .slice A l c] ∧ AN W (.slice A l c) n l ∧ l ≤ Rows.uptoBulk x.1 := by
  obtain ⟨neg, A, l, c, n, hcs, ha, _⟩ := Go.Proofs.YtkbgdiejjabdmaaDoor.open_int h
  refine ⟨neg, A, l, c, n, hcs, ha, ?_⟩
  obtain ⟨y0, y1, m, rfl, hl, h0, h1⟩ := trod_struct2 Tryd.underlying51 h
  subst hcs
  have h1' : DataW.trod enc Tryd.prog W 0 sp held m 24 [.slice A l c] = some y1 := h1
  obtain ⟨A', l', c', n', hc', _, hb⟩ := open_natb h1'
  injection hc' with hc' _
  injection hc' with _ hc' _
  subst hc'
  simp only [Rows.uptoBulk, Rows.uptoBulkAll]
  omega
end

theorem gTab : Tryd.prog.globalNamed "internal/strconv.uint64pow10" = some 0 := by kernel_rfl
theorem gTabType : (Tryd.prog.globals[0]?).map (·.type) = some 113 := by kernel_rfl
theorem tabCells : Tryd.prog.cellsOf 113 = 20 := by kernel_rfl
theorem u64Cells : Tryd.prog.cellsOf 22 = 1 := by kernel_rfl
theorem tab_data : (Rows.laid_internal_strconv_uint64pow10 : DataW Unit) = Lib.tabData .u64 Lib.pow10Tab := by kernel_rfl
/-- What the row's list gives. -/
theorem tab_of {W : World} {d1 d2 : DataW Unit} {n1 n2 : String} (h : laidMet Tryd.prog [(n1, d1), (n2, d2), ("internal/strconv.uint64pow10", Rows.laid_internal_strconv_uint64pow10)] W) : Tab W := by
  have h2 := laidMet.tail (laidMet.tail h)
  rw [tab_data] at h2
  exact Lib.tabIs_of_head gTab gTabType Tryd.underlying113 Tryd.underlying22 u64Cells tabCells h2
end Go.Proofs.YtkbgdiejjabdmaaDoor
