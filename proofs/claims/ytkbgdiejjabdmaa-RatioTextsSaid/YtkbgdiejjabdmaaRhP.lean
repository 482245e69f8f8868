/- Plain: a string cut at its first slash; the error and the value of a ratio's Parse. -/
import Derived.Test.YtkbgdiejjabdmaaRhA
import Derived.Lib.IndexMore
namespace Go.Proofs.Ytkbgdiejjabdmaa

theorem idx_some : ∀ (l : List UInt8) (k : Nat), l[k]? = some 47 → (∀ j, j < k → l[j]? ≠ some 47) → Lib.index l [47] = (k : Int)
  | [], k, h, _ => by simp at h
  | b :: l, 0, h, _ => by
    have hb : b = 47 := by simpa using h
    subst hb
    simp [Lib.index, List.isPrefixOf]
  | b :: l, k + 1, h, hj => by
    have hb : b ≠ 47 := fun hb => hj 0 (by omega) (by simp [hb])
    have ih := idx_some l k (by simpa using h) (fun j hj' => by simpa using hj (j + 1) (by omega))
    have hp : [47].isPrefixOf (b :: l) = false := by
      simp only [List.isPrefixOf, Bool.and_true]
      rw [beq_eq_false_iff_ne]
      exact fun h => hb h.symm
    rw [Lib.index, hp, ih]
    have hk : ((k : Int) == -1) = false := by rw [beq_eq_false_iff_ne]; omega
    rw [hk]
    simp
theorem idx_none : ∀ (l : List UInt8), (∀ j : Nat, l[j]? ≠ some 47) → Lib.index l [47] = -1
  | [], _ => by simp [Lib.index]
  | b :: l, hj => by
    have hb : b ≠ 47 := fun hb => hj 0 (by simp [hb])
    have ih := idx_none l (fun j => by simpa using hj (j + 1))
    have hp : [47].isPrefixOf (b :: l) = false := by
      simp only [List.isPrefixOf, Bool.and_true]
      rw [beq_eq_false_iff_ne]
      exact fun h => hb h.symm
    rw [Lib.index, hp, ih]
    simp
theorem cut_some {l : List UInt8} {k : Nat} (h : l[k]? = some 47) (hj : ∀ j, j < k → l[j]? ≠ some 47) : Lib.cut l [47] = (l.take k, l.drop (k + 1), true) := by
  unfold Lib.cut
  rw [idx_some l k h hj, if_pos (by omega)]
  simp
theorem cut_none {l : List UInt8} (hj : ∀ j : Nat, l[j]? ≠ some 47) : Lib.cut l [47] = (l, [], false) := by
  unfold Lib.cut
  rw [idx_none l hj, if_neg (by omega)]
/-- The error of a ratio's Parse. -/
def rErr (l : List UInt8) : Int :=
  if (Lib.cut l [47]).2.2 = true then (if zErr (Lib.cut l [47]).1 = 0 then (if pErr (Lib.cut l [47]).2.1 = 0 then (if pVal (Lib.cut l [47]).2.1 = 0 then 2 else 0) else pErr (Lib.cut l [47]).2.1) else zErr (Lib.cut l [47]).1) else zErr l
/-- The ratio that Parse returns. -/
def rVal (l : List UInt8) : Rat :=
  if rErr l = 0 then (if (Lib.cut l [47]).2.2 = true then mkRat (zVal (Lib.cut l [47]).1) (pVal (Lib.cut l [47]).2.1) else (zVal l : Rat)) else 0
end Go.Proofs.Ytkbgdiejjabdmaa
