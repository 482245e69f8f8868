/- The walks of nat.DivMod in all cases, and of nat.Gcd, as numbers. -/
import Derived.Test.YtkbgdiejjabdmaaDoorNatI
import Derived.Deep.LoopGhost
namespace Go.Proofs.YtkbgdiejjabdmaaDoor
open Go.RowKit

theorem divMod_c (w : World) (v1 v2 : Value) (m n L : Nat) (h1 : AN w v1 m L) (h2 : AN w v2 n L) (hL : L ≤ 1099511627776) (hn : 0 < n) :
    Calls Tryd.prog 39 #[v1, v2] w (RetVB w true fun u v w' => VN w' w.heap.size u (m / n) L ∧ VN w' w.heap.size v (m % n) L) := by
  rcases Nat.lt_or_ge m n with h | h
  · exact divMod_c1 w v1 v2 m n L h1 h2 hL h
  · have h3 : (limbs n).length ≠ 0 := fun h0 => by
      have := limbs_nil.1 (List.eq_nil_of_length_eq_zero h0)
      omega
    by_cases h4 : (limbs n).length = 1
    · exact divMod_c2 w v1 v2 m n L h1 h2 hL h h4
    · exact divMod_c3 w v1 v2 m n L h1 h2 hL h (by omega)

def GcIn (m n L : Nat) (w wr : World) (p q : Nat) (v5 v6 : Value) : Prop := VN wr w.heap.size v5 p L ∧ VN wr w.heap.size v6 q L ∧ Nat.gcd m n = Nat.gcd q p ∧ Gr w wr

set_option maxHeartbeats 1000000 in
theorem gcd_c (w : World) (v1 v2 : Value) (m n L : Nat) (h1 : AN w v1 m L) (h2 : AN w v2 n L) (hL : L ≤ 1099511627776) :
    Calls Tryd.prog 41 #[v1, v2] w (Ret w fun v w' => VN w' w.heap.size v (Nat.gcd m n) L) := by
  have H1 := hid h1
  have H2 := hid h2
  have HL := hid hL
  clear h1 h2 hL
  go_enter Tryd.func41, Tryd.ntmps41
  go_wp2_with fail
  refine (norm_c w v1 m L H1.out HL.out).mono ?_
  rintro e w1 ⟨x, rfl, hx, hg1⟩
  have HX := hid hx
  have HG1 := hid hg1
  clear hx hg1
  go_wp2_with fail
  refine (norm_c w1 v2 n L (H2.out.gr HG1.out) HL.out).mono ?_
  rintro e w2 ⟨y, rfl, hy, hg2⟩
  have HY := hid hy
  have HG2 := hid hg2
  clear hy hg2
  go_wp2
  go_loopg [5, 6] n (fun g v5 v6 wr => ∃ p, Hid (GcIn m n L w wr p g v5 v6))
  case atStart => exact ⟨m, HX.out.gr HG2.out, HY.out.base HG1.out.size, Nat.gcd_comm _ _, HG1.out.trans HG2.out⟩
  case round =>
    obtain ⟨p, HI⟩ := hrel
    obtain ⟨hx, ⟨A, c, rfl, hr, hlen, hown⟩, hgcd, hgr⟩ := HI.out
    have HX2 := hid hx
    have HY2 : Hid (VN wr w.heap.size (.slice A (limbs gk).length c) gk L) := ⟨A, c, rfl, hr, hlen, hown⟩
    have HGCD := hid hgcd
    have HGR := hid hgr
    have HLEN := hid hlen
    clear hx hr hown hgcd hgr HI hlen HX HY HG1 HG2 H1 H2
    by_cases h0 : 0 < gk
    · have hpos : 0 < (limbs gk).length := by
        rcases Nat.eq_zero_or_pos (limbs gk).length with h | h
        · have := limbs_nil.1 (List.eq_nil_of_length_eq_zero h); omega
        · exact h
      go_wp2_with fail
      refine (divMod_c wr _ _ p gk L HX2.out.an HY2.out.an HL.out h0).mono ?_
      rintro e w3 ⟨q, r, rfl, ⟨hq, hr⟩, hg3⟩
      have HR := hid (hr.base HGR.out.size)
      have HG3 := hid hg3
      clear hq hr hg3
      go_wp2
      go_roundg (p % gk)
      case measure => exact Nat.mod_lt _ h0
      case rel => exact ⟨gk, HY2.out.gr HG3.out, HR.out, by rw [HGCD.out, Nat.gcd_rec], HGR.out.trans HG3.out⟩
    · obtain rfl : gk = 0 := by omega
      have hlen0 : ¬ 0 < (limbs 0).length := by rw [limbs_zero]; simp
      go_wp2
      go_ret
      exact ⟨_, rfl, by rw [HGCD.out, Nat.gcd_zero_left]; exact HX2.out, HGR.out⟩
end Go.Proofs.YtkbgdiejjabdmaaDoor
