/- copy(out, a) into a row of the call's own that is as long. -/
import Derived.Test.YtkbgdiejjabdmaaDoorNatB
import Derived.Test.YtkbgdiejjabdmaaDoorPl
import Derived.Laws.CopyOwn
namespace Go.Proofs.YtkbgdiejjabdmaaDoor
open Go.RowKit

section
variable {P : Program} {ops : Array Oper} {rest : List Oper} {o : Oper} {a : Act} {Q : Exit → Act → World → Prop}
theorem copy_row {w w0 : World} (hgd : o.guard = none) (d s : Operand) (dT sT e base : Nat) (ho : o.op = .call { callee := .builtin .copy, args := #[d, s], argTypes := #[dT, sT] })
    (hu : P.underlying dT = some (.slice e)) (hinfo : (P.info? e).map (fun i => (i.zero, i.size, i.bytes)) = some (some (.int .u32 0), 1, 4))
    (g n : Nat) (zs xs : List Int) (A : Option Addr) (c sl : Nat) (hsl : sl = xs.length) (hd : a.eval d = .slice (some ⟨g, 0, none⟩) n n) (hs : a.eval s = .slice A sl c)
    (hown : Row w base e (.slice (some ⟨g, 0, none⟩) n n) zs) (hr : RdN w A c xs) (hn : n ≤ xs.length) (hB : Below base w0 w)
    (h : ∀ w', Row w' base e (.slice (some ⟨g, 0, none⟩) n n) (xs.take n) → Below base w0 w' → wpList P ops Q rest (a.put o.dst (goInt n)) w') : wpList P ops Q (o :: rest) a w := by
  subst hsl
  have hsz : (P.info? e).map (·.size) = some 1 := by
    obtain ⟨i0, hi, hzz⟩ := Option.map_eq_some_iff.1 hinfo
    simp only [Prod.mk.injEq] at hzz
    rw [hi, Option.map_some, hzz.2.1]
  obtain ⟨hlen, hbase, cur, hh, hnc, hcm, hcs, htake⟩ := hown.form
  by_cases h0 : n = 0
  · subst h0
    refine wpList_copy_nothing hgd d s dT sT ho e hu hsz _ _ _ _ _ _ hd hs (by simp) ?_
    refine h w ?_ hB
    have : zs = [] := List.eq_nil_of_length_eq_zero hlen
    subst this
    rw [List.take_zero]
    exact hown
  · obtain ⟨k, oo, rfl, hc⟩ := hr.cells (by omega)
    have hcl : ((xs.take n).map (Value.int .u32)).length = n := by rw [List.length_map, List.length_take]; omega
    refine wpList_copy_own hgd d s dT sT ho e hu hsz g 0 n n ⟨k, oo, none⟩ xs.length c hd hs cur e hh ((xs.take n).map (Value.int .u32)) (by rw [hcl]; exact (Nat.min_eq_right hn).symm) (fun j v hj => ?_) (by omega) (fun v hv => ?_) ?_
    · have hjl : j < n := by have := (List.getElem?_eq_some_iff.1 hj).1; omega
      have hadd : (⟨k, oo, none⟩ : Addr).add j = ⟨k, oo + j, none⟩ := by unfold Addr.add; split <;> simp_all
      rw [hadd, hc j (by omega)]
      rw [List.getElem?_map, List.getElem?_take, if_pos hjl, List.getElem?_eq_getElem (by omega)] at hj
      rw [List.getD_eq_getElem?_getD, List.getElem?_eq_getElem (by omega)]
      simpa using hj
    · obtain ⟨z, _, rfl⟩ := List.mem_map.1 hv
      rfl
    · rw [hcl]
      refine h _ ?_ (below_setRow hB hbase _)
      have hdrop : cur.toList.drop (0 + n) = [] := List.drop_eq_nil_of_le (by rw [Array.length_toList]; omega)
      rw [hdrop, List.take_zero, List.nil_append, List.append_nil]
      have hset := setRow_heap w g cur ((xs.take n).map (Value.int .u32)).toArray e _ hh
      have hl2 : (xs.take n).length = n := by rw [List.length_take]; omega
      refine ⟨by simp, .inr ⟨g, n, ((xs.take n).map (Value.int .u32)).toArray, by rw [hl2], hbase, hset, ?_, hcm, ?_, ?_⟩⟩
      · rw [hl2]; omega
      · rw [List.size_toArray, hcl]; omega
      · rw [hl2, Nat.mul_one]
        show List.take n ((xs.take n).map (Value.int .u32)) = _
        exact List.take_of_length_le (by omega)
end
end Go.Proofs.YtkbgdiejjabdmaaDoor
