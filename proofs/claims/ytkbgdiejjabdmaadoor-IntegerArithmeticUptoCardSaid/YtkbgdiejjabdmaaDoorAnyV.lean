/- A statement whose order is open and whose values are known ahead: walked operation by operation. -/
import Derived.Test.YtkbgdiejjabdmaaDoorAny
namespace Go.Proofs.YtkbgdiejjabdmaaDoor
open Go.RowKit
variable {P : Program}

/-- What an operation is to show where all values are known: those that it waits for are as foretold. -/
def StepV (P : Program) (o1 : List Oper) (Q : Exit → Act → World → Prop) (a : Act) (w : World) (vals : List Value) (i : Nat) (o : Oper) : Prop :=
  ∀ (vs : Nat → Value) (w' : World), Gr w w' → (∀ e ∈ o.after, Region.binds .any e = true → vs e.on = vals.getD e.on undef) →
    ((Region.wanted o (yielded o1.toArray (puts vs 0 o1 a).tmps) = true ∧ o.wp P (puts vs 0 o1 a) w' (fun a2 w2 => a2 = (puts vs 0 o1 a).put o.dst (vals.getD i undef) ∧ Gr w' w2) Q) ∨
    (Region.wanted o (yielded o1.toArray (puts vs 0 o1 a).tmps) = false ∧ vals.getD i undef = undef))
def StepsV (P : Program) (o1 : List Oper) (Q : Exit → Act → World → Prop) (a : Act) (w : World) (vals : List Value) : Nat → List Oper → Prop
  | _, [] => True
  | i, o :: rest => StepV P o1 Q a w vals i o ∧ StepsV P o1 Q a w vals (i + 1) rest
theorem StepsV.cons {o1 : List Oper} {Q : Exit → Act → World → Prop} {a : Act} {w : World} {vals : List Value} {i : Nat} {o : Oper} {rest : List Oper} (h : StepV P o1 Q a w vals i o) (hr : StepsV P o1 Q a w vals (i + 1) rest) : StepsV P o1 Q a w vals i (o :: rest) := ⟨h, hr⟩
theorem StepsV.nil {o1 : List Oper} {Q : Exit → Act → World → Prop} {a : Act} {w : World} {vals : List Value} {i : Nat} : StepsV P o1 Q a w vals i [] := trivial
theorem StepsV.get {o1 : List Oper} {Q : Exit → Act → World → Prop} {a : Act} {w : World} {vals : List Value} : ∀ {l : List Oper} {k : Nat}, StepsV P o1 Q a w vals k l → ∀ i o, l[i]? = some o → StepV P o1 Q a w vals (k + i) o
  | [], _, _, i, o, h => by simp at h
  | x :: rest, k, hs, i, o, h => by
    cases i with
    | zero =>
      obtain rfl : x = o := by simpa using h
      exact hs.1
    | succ i =>
      have := StepsV.get hs.2 i o (by simpa using h)
      rwa [show k + 1 + i = k + (i + 1) by omega] at this

theorem StepV.mk {o1 : List Oper} {Q : Exit → Act → World → Prop} {a : Act} {w : World} {vals : List Value} {i : Nat} {o : Oper}
    (h : ∀ (vs : Nat → Value) (V : World) (K : Act → World → Prop), Gr w V → (∀ e ∈ o.after, Region.binds .any e = true → vs e.on = vals.getD e.on undef) → (∀ W, Gr V W → K ((puts vs 0 o1 a).put o.dst (vals.getD i undef)) W) →
      Region.wanted o (yielded o1.toArray (puts vs 0 o1 a).tmps) = true ∧ o.wp P (puts vs 0 o1 a) V K Q) : StepV P o1 Q a w vals i o := fun vs V hV hd => by
  obtain ⟨h1, h2⟩ := h vs V (fun a2 w2 => a2 = (puts vs 0 o1 a).put o.dst (vals.getD i undef) ∧ Gr V w2) hV hd (fun W hW => ⟨rfl, hW⟩)
  exact .inl ⟨h1, h2⟩
theorem StepV.skip {o1 : List Oper} {Q : Exit → Act → World → Prop} {a : Act} {w : World} {vals : List Value} {i : Nat} {o : Oper}
    (h : ∀ (vs : Nat → Value), (∀ e ∈ o.after, Region.binds .any e = true → vs e.on = vals.getD e.on undef) → Region.wanted o (yielded o1.toArray (puts vs 0 o1 a).tmps) = false) (hv : vals.getD i undef = undef) : StepV P o1 Q a w vals i o := fun vs _ _ hd => .inr ⟨h vs hd, hv⟩

theorem wp_region_vals {o1 : List Oper} {id : Nat} {Q : Exit → Act → World → Prop} {a : Act} {w : World} (vals : List Value) (hm : P.follows .mixedOrders = true) (hd : dstsApart o1 = true) (hbk : backB o1 = true) (ht : tailB o1 o1.length = true)
    (hs : StepsV P o1 Q a w vals 0 o1) (hQ : ∀ w', Gr w w' → Q .normal (puts (fun i => vals.getD i undef) 0 o1 a) w') : (Code.region id o1.toArray true).wp P Q a w := by
  have h := @wp_region_grow P o1 [] id Q a w (fun i v _ => v = vals.getD i undef) hm hd (by rwa [List.append_nil]) (by rwa [List.append_nil]) (fun i v _ _ _ h => h) (fun i o hi vs w' hg hv => ?_) (fun vs w' hg hv => ?_)
  · rwa [List.append_nil] at h
  · have h1 := StepsV.get hs i o hi vs w' hg hv
    rw [Nat.zero_add, List.append_nil] at *
    refine ⟨fun hw => ?_, fun hw => ?_⟩
    · rcases h1 with h1 | h1
      · exact Oper.wp_mono (fun a2 w2 h2 => ⟨_, h2.1, h2.2, rfl⟩) h1.2
      · rw [h1.1] at hw; cases hw
    · rcases h1 with h1 | h1
      · rw [h1.1] at hw; cases hw
      · exact h1.2.symm
  · rw [List.append_nil]
    have e : puts vs 0 o1 a = puts (fun i => vals.getD i undef) 0 o1 a := puts_congr o1 0 a (fun j _ hj => hv j (by omega))
    rw [e]
    exact hQ w' hg
end Go.Proofs.YtkbgdiejjabdmaaDoor
