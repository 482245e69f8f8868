/- A statement whose order of evaluation is open, whose operations only add memory: what is known of each operation's result, whatever the order. -/
import Derived.Orders
import Derived.Below
import Derived.Tactics
import Derived.WalkKit
import Derived.Deep.Draws
namespace Go.Proofs.YtkbgdiejjabdmaaDoor
open Go.RowKit

/-- w' is w with more memory: nothing that was there has changed. -/
def Gr (w w' : World) : Prop := Below w.heap.size w w'
theorem Gr.refl (w : World) : Gr w w := Below.refl _ _
theorem Gr.trans {a b c : World} (h : Gr a b) (k : Gr b c) : Gr a c := Below.trans h (Below.mono k h.size)
theorem Gr.drew {a b : World} (h : Gr a b) : Gr a b.drew := Below.drew h
theorem Gr.drawn (w : World) (n : Nat) : Gr w { w with drawn := n } := ⟨rfl, rfl, rfl, Nat.le_refl _, fun _ _ => rfl⟩
theorem Gr.alloc (w : World) (o : Obj) : Gr w (w.alloc o) := Below.alloc (Below.refl _ _) (Nat.le_refl _) o
theorem Gr.cell {w w' : World} (h : Gr w w') {p : Addr} {v : Value} (hc : w.cell? p = some v) : w'.cell? p = some v := (Below.cell h (World.block_lt_of_cell? w p hc)).trans hc
theorem Gr.block {w w' : World} (h : Gr w w') {b : Nat} {o : Obj} (hb : w.heap[b]? = some o) : w'.heap[b]? = some o := (Below.block h b (Array.getElem?_eq_some_iff.1 hb).1).trans hb

section
variable {P : Program}

/-- All the operations' temporaries set to 'vs'. -/
def puts (vs : Nat → Value) : Nat → List Oper → Act → Act
  | _, [], a => a
  | k, o :: rest, a => puts vs (k + 1) rest (a.put o.dst (vs k))
def upd (vs : Nat → Value) (i : Nat) (v : Value) : Nat → Value := fun j => if j = i then v else vs j
theorem upd_same (vs : Nat → Value) (i : Nat) (v : Value) : upd vs i v i = v := by simp [upd]
theorem upd_other (vs : Nat → Value) {i j : Nat} (v : Value) (h : j ≠ i) : upd vs i v j = vs j := by simp [upd, h]

theorem put_put (a : Act) (d : Option Tmp) (u v : Value) : (a.put d u).put d v = a.put d v := by
  cases d with
  | none => rfl
  | some d => simp [Act.put]
theorem put_self (a : Act) (d : Option Tmp) : ∃ u, a.put d u = a := by
  cases d with
  | none => exact ⟨undef, rfl⟩
  | some d =>
    by_cases h : d < a.tmps.size
    · refine ⟨a.tmps[d], ?_⟩
      simp [Act.put, Array.setIfInBounds, h]
    · refine ⟨undef, ?_⟩
      simp [Act.put, Array.setIfInBounds, h]
theorem puts_congr {vs us : Nat → Value} : ∀ (ops : List Oper) (k : Nat) (a : Act), (∀ j, k ≤ j → j < k + ops.length → vs j = us j) → puts vs k ops a = puts us k ops a
  | [], _, _, _ => rfl
  | o :: rest, k, a, h => by
    simp only [puts]
    rw [h k (Nat.le_refl _) (by simp)]
    exact puts_congr rest (k + 1) _ (fun j h1 h2 => h j (by omega) (by simp; omega))
/-- Two operations write into one temporary? -/
def dstsApart : List Oper → Bool
  | [] => true
  | o :: rest => (match o.dst with | none => true | some d => rest.all fun x => x.dst != some d) && dstsApart rest
theorem puts_put {vs : Nat → Value} : ∀ (ops : List Oper) (k : Nat) (a : Act) (d : Option Tmp) (v : Value), (∀ x, d = some x → ∀ o ∈ ops, o.dst ≠ some x) → (puts vs k ops a).put d v = puts vs k ops (a.put d v)
  | [], _, _, _, _, _ => rfl
  | o :: rest, k, a, d, v, h => by
    simp only [puts]
    rw [puts_put rest (k + 1) _ d v (fun x hx o' ho' => h x hx o' (List.mem_cons_of_mem _ ho'))]
    congr 1
    apply Act.put_comm
    intro x hx hd
    exact h x hd o (List.mem_cons_self ..) hx
theorem puts_upd {vs : Nat → Value} : ∀ (ops : List Oper) (k : Nat) (a : Act) (i : Nat) (o : Oper) (v : Value), dstsApart ops = true → ops[i]? = some o → (puts vs k ops a).put o.dst v = puts (upd vs (k + i) v) k ops a
  | [], _, _, i, o, _, _, h => by simp at h
  | x :: rest, k, a, i, o, v, ha, h => by
    simp only [dstsApart, Bool.and_eq_true] at ha
    cases i with
    | zero =>
      obtain rfl : x = o := by simpa using h
      simp only [puts, Nat.add_zero, upd_same]
      rw [puts_put rest (k + 1) _ x.dst v, put_put]
      · exact puts_congr rest (k + 1) _ (fun j h1 _ => (upd_other vs v (by omega)).symm)
      · intro d hd o' ho'
        have h1 := ha.1
        rw [hd] at h1
        simp only [List.all_eq_true, bne_iff_ne, ne_eq] at h1
        exact h1 o' ho'
    | succ i =>
      simp only [puts]
      have h' : rest[i]? = some o := by simpa using h
      rw [puts_upd rest (k + 1) _ i o v ha.2 h', upd_other vs v (by omega), show k + 1 + i = k + (i + 1) by omega]
theorem puts_self : ∀ (ops : List Oper) (k : Nat) (a : Act), dstsApart ops = true → ∃ vs, puts vs k ops a = a
  | [], _, a, _ => ⟨fun _ => undef, rfl⟩
  | o :: rest, k, a, ha => by
    simp only [dstsApart, Bool.and_eq_true] at ha
    obtain ⟨u, hu⟩ := put_self a o.dst
    obtain ⟨vs, hvs⟩ := puts_self rest (k + 1) a ha.2
    refine ⟨upd vs k u, ?_⟩
    simp only [puts, upd_same]
    rw [hu]
    rw [← puts_congr (vs := vs) rest (k + 1) a (fun j h1 _ => (upd_other vs u (by omega)).symm)]
    exact hvs

/-- What one operation is to show: from any world that has grown, and what it waits for being known. -/
def StepOk (P : Program) (o1 ops : List Oper) (Q : Exit → Act → World → Prop) (a : Act) (w : World) (Ψ : Nat → Value → World → Prop) (i : Nat) (o : Oper) : Prop :=
  ∀ (vs : Nat → Value) (w' : World), Gr w w' → (∀ e ∈ o.after, Region.binds .any e = true → Ψ e.on (vs e.on) w') →
    (Region.wanted o (yielded ops.toArray (puts vs 0 o1 a).tmps) = true → o.wp P (puts vs 0 o1 a) w' (fun a2 w2 => ∃ v, a2 = (puts vs 0 o1 a).put o.dst v ∧ Gr w' w2 ∧ Ψ i v w2) Q) ∧
    (Region.wanted o (yielded ops.toArray (puts vs 0 o1 a).tmps) = false → Ψ i undef w')

/-- How far the first operations have come. -/
def InvA (ops : List Oper) (a : Act) (w : World) (Ψ : Nat → Value → World → Prop) (listed : Array Bool) (a' : Act) (w' : World) : Prop :=
  ∃ vs, a' = puts vs 0 ops a ∧ Gr w w' ∧ ∀ i, i < ops.length → listed.getD i false = true → Ψ i (vs i) w'
theorem getD_at {l : Array Bool} {i : Nat} (d : Bool) (h : i < l.size) : l.getD i d = l[i] := by simp [Array.getD, h]
theorem getD_set {listed : Array Bool} {i j : Nat} (h : (listed.setIfInBounds i true).getD j false = true) : j = i ∨ listed.getD j false = true := by
  by_cases hij : i = j
  · exact .inl hij.symm
  · rw [getD_set_ne false hij] at h; exact .inr h

/-- Every operation waits for earlier ones alone. -/
def backB (ops : List Oper) : Bool := (List.range ops.length).all fun i => match ops[i]? with | some o => o.after.all fun e => !Region.binds .any e || decide (e.on < i) | none => true
theorem backB_spec {ops : List Oper} (hb : backB ops = true) {i : Nat} {o : Oper} (ho : ops[i]? = some o) {e : Edge} (he : e ∈ o.after) (hbd : Region.binds .any e = true) : e.on < i := by
  simp only [backB, List.all_eq_true, List.mem_range] at hb
  have h1 := hb i (List.getElem?_eq_some_iff.1 ho).1
  rw [ho] at h1
  simp only [Array.all_eq_true_iff_forall_mem, Bool.or_eq_true, Bool.not_eq_true', decide_eq_true_eq] at h1
  rcases h1 e he with h2 | h2
  · rw [hbd] at h2; cases h2
  · exact h2
theorem ready_nil_all {ops : List Oper} {listed : Array Bool} (hb : backB ops = true) (hsz : listed.size = ops.length) (hr : Region.ready .any ops.toArray listed = []) : ∀ i, i < ops.length → listed.getD i false = true := by
  intro i
  induction i using Nat.strongRecOn with
  | _ i ih =>
    intro hi
    cases hl : listed.getD i false with
    | true => rfl
    | false =>
      exfalso
      have hlt : i < listed.size := by omega
      obtain ⟨o, ho⟩ : ∃ o, ops[i]? = some o := ⟨_, List.getElem?_eq_getElem hi⟩
      have hm : i ∈ Region.ready .any ops.toArray listed := by
        rw [mem_ready]
        refine ⟨?_, o, by simpa using ho, fun e he hbd => ?_⟩
        · simp only [Array.getD, hlt, dif_pos] at hl ⊢
          exact hl
        · have h2 := backB_spec hb ho he hbd
          exact ih e.on h2 (by omega)
      rw [hr] at hm
      cases hm

/-- What operation i waits for, through others too: the list 'go' down from i. -/
def afters (ops : List Oper) (k : Nat) : List Nat := match ops[k]? with | some o => (o.after.toList.filter fun e => Region.binds .any e).map (·.on) | none => []
def cover (ops : List Oper) : Nat → List Nat → List Nat
  | 0, S => S
  | k + 1, S => cover ops k (if S.contains k then S ++ afters ops k else S)
/-- Every operation from the m-th on waits for all earlier ones. -/
def tailB (ops : List Oper) (m : Nat) : Bool := (List.range ops.length).all fun i => decide (i < m) || (List.range i).all fun j => (cover ops i (afters ops i)).contains j

def Closed (ops : List Oper) (listed : Array Bool) : Prop := ∀ i o, ops[i]? = some o → listed.getD i false = true → ∀ e ∈ o.after, Region.binds .any e = true → listed.getD e.on false = true
theorem mem_afters {ops : List Oper} {k x : Nat} (h : x ∈ afters ops k) : ∃ o, ops[k]? = some o ∧ ∃ e ∈ o.after, Region.binds .any e = true ∧ e.on = x := by
  unfold afters at h
  cases ho : ops[k]? with
  | none => rw [ho] at h; cases h
  | some o =>
    rw [ho] at h
    obtain ⟨e, he, rfl⟩ := List.mem_map.1 h
    obtain ⟨h1, h2⟩ := List.mem_filter.1 he
    exact ⟨o, rfl, e, by simpa using h1, h2, rfl⟩
theorem cover_listed {ops : List Oper} {listed : Array Bool} (hc : Closed ops listed) : ∀ (k : Nat) (S : List Nat), (∀ x ∈ S, listed.getD x false = true) → ∀ x ∈ cover ops k S, listed.getD x false = true
  | 0, _, h => h
  | k + 1, S, h => by
    unfold cover
    refine cover_listed hc k _ ?_
    by_cases hk : S.contains k = true
    · rw [if_pos hk]
      intro x hx
      rcases List.mem_append.1 hx with hx | hx
      · exact h x hx
      · obtain ⟨o, ho, e, he, hbd, rfl⟩ := mem_afters hx
        exact hc k o ho (h k (by simpa using hk)) e he hbd
    · rw [if_neg hk]; exact h
theorem tail_listed {ops : List Oper} {m : Nat} {listed : Array Bool} (ht : tailB ops m = true) (hc : Closed ops listed) {i : Nat} (hmi : m ≤ i) {o : Oper} (ho : ops[i]? = some o) (ha : ∀ e ∈ o.after, Region.binds .any e = true → listed.getD e.on false = true) :
    ∀ j, j < i → listed.getD j false = true := by
  intro j hj
  simp only [tailB, List.all_eq_true, List.mem_range, Bool.or_eq_true, decide_eq_true_eq] at ht
  have h1 := (ht i (List.getElem?_eq_some_iff.1 ho).1).resolve_left (by omega) j hj
  refine cover_listed hc i _ (fun x hx => ?_) j (by simpa using h1)
  obtain ⟨o', ho', e, he, hbd, rfl⟩ := mem_afters hx
  rw [ho] at ho'
  injection ho' with ho'
  subst ho'
  exact ha e he hbd

/-- The last operations, each behind all earlier ones: in the order of the text. -/
theorem wpAny_tail {ops : List Oper} {Q : Exit → Act → World → Prop} (hbk : backB ops = true) {m : Nat} (ht : tailB ops m = true) :
    ∀ (tl : List Oper) (k : Nat) (fuel : Nat) (listed : Array Bool) (a : Act) (w : World), m ≤ k → ops.length = k + tl.length → (∀ j, tl[j]? = ops[k + j]?) → tl.length ≤ fuel → listed.size = ops.length →
      (∀ j, j < ops.length → listed.getD j false = decide (j < k)) → wpList P ops.toArray Q tl a w → wpAny P .any ops.toArray Q fuel listed a w
  | [], k, fuel, listed, a, w, _, hlen, _, _, hsz, hl, h => by
    refine wpAny_done ?_ h fuel
    unfold Region.ready
    rw [List.filter_eq_nil_iff]
    intro i hi
    rw [List.mem_range] at hi
    have hi' : i < ops.length := by simpa using hi
    have h1 := hl i hi'
    have hlt : i < listed.size := by omega
    have h2 : decide (i < k) = true := by
      simp only [List.length_nil] at hlen
      simpa using (by omega : i < k)
    rw [h2, getD_at false hlt] at h1
    rw [getD_at true hlt, h1]
    simp
  | o :: rest, k, fuel, listed, a, w, hmk, hlen, hops, hf, hsz, hl, h => by
    have ho : ops[k]? = some o := by simpa using (hops 0).symm
    have hk : k < ops.length := by simp at hlen; omega
    have hcl : Closed ops listed := fun i o' ho' hli e he hbd => by
      have h1 := backB_spec hbk ho' he hbd
      have h2 := hl i (List.getElem?_eq_some_iff.1 ho').1
      rw [hli] at h2
      have h3 : i < k := of_decide_eq_true h2.symm
      rw [hl e.on (by omega)]
      exact decide_eq_true (by omega)
    have honly : ∀ i, i ∈ Region.ready .any ops.toArray listed → i = k := by
      intro i hi
      obtain ⟨hun, o', ho', hall⟩ := mem_ready.1 hi
      have ho2 : ops[i]? = some o' := by simpa using ho'
      have hil : i < ops.length := (List.getElem?_eq_some_iff.1 ho2).1
      have hlt : i < listed.size := by omega
      have h1 := hl i hil
      have h2 : listed.getD i false = false := by
        rw [getD_at true hlt] at hun
        rw [getD_at false hlt]
        exact hun
      rw [h2] at h1
      have h3 : ¬ i < k := of_decide_eq_false h1.symm
      by_cases hik : i = k
      · exact hik
      · exfalso
        have h4 := tail_listed ht hcl (by omega) ho2 hall k (by omega)
        rw [hl k hk] at h4
        exact absurd (of_decide_eq_true h4) (by omega)
    have hready : k ∈ Region.ready .any ops.toArray listed := by
      rw [mem_ready]
      have hlt : k < listed.size := by omega
      refine ⟨?_, o, by simpa using ho, fun e he hbd => ?_⟩
      · have h1 := hl k hk
        rw [show decide (k < k) = false by simp, getD_at false hlt] at h1
        rw [getD_at true hlt]
        exact h1
      · have h1 := backB_spec hbk ho he hbd
        rw [hl e.on (by omega)]
        exact decide_eq_true h1
    obtain ⟨f, rfl⟩ : ∃ f, fuel = f + 1 := ⟨fuel - 1, by simp at hf; omega⟩
    refine ⟨fun h0 => (by rw [h0] at hready; cases hready), fun i hi => ?_⟩
    obtain rfl := honly i hi
    have next : ∀ a' w', wpList P ops.toArray Q rest a' w' → wpAny P .any ops.toArray Q f (listed.setIfInBounds i true) a' w' := by
      intro a' w' h'
      refine wpAny_tail hbk ht rest (i + 1) f _ a' w' (by omega) (by simp at hlen; omega) (fun j => ?_) (by simp at hf; omega) (by simpa using hsz) (fun j hj => ?_) h'
      · have := hops (j + 1)
        simpa [Nat.add_assoc, Nat.add_comm 1 j] using this
      · by_cases hji : j = i
        · subst hji
          have hlt : j < listed.size := by omega
          simp [Array.getD, hlt]
        · rw [getD_set_ne false (Ne.symm hji), hl j hj]
          congr 1
          exact propext ⟨fun h => by omega, fun h => by omega⟩
    unfold wpList at h
    unfold wpOp
    have ho3 : ops.toArray[i]? = some o := by simpa using ho
    rw [ho3]
    simp only []
    by_cases hw : Region.wanted o (yielded ops.toArray a.tmps) = true
    · rw [if_pos hw] at h ⊢
      exact h.imp (Oper.wp_mono next) id
    · rw [if_neg hw] at h ⊢
      exact next _ _ h

theorem wpAny_inv {o1 tl : List Oper} {Q : Exit → Act → World → Prop} {a : Act} {w : World} {Ψ : Nat → Value → World → Prop} (hd : dstsApart o1 = true) (hbk : backB (o1 ++ tl) = true) (ht : tailB (o1 ++ tl) o1.length = true)
    (hmono : ∀ i v w1 w2, Gr w1 w2 → Ψ i v w1 → Ψ i v w2)
    (hstep : ∀ i o, o1[i]? = some o → StepOk P o1 (o1 ++ tl) Q a w Ψ i o)
    (hQ : ∀ (vs : Nat → Value) w', Gr w w' → (∀ i, i < o1.length → Ψ i (vs i) w') → wpList P (o1 ++ tl).toArray Q tl (puts vs 0 o1 a) w') :
    ∀ (fuel : Nat) (listed : Array Bool) (a' : Act) (w' : World), listed.size = (o1 ++ tl).length → (listed.toList.count false ≤ fuel) → (∀ i, o1.length ≤ i → listed.getD i false = false) → Closed (o1 ++ tl) listed →
      InvA o1 a w Ψ listed a' w' → wpAny P .any (o1 ++ tl).toArray Q fuel listed a' w' := by
  have htl : ∀ j, tl[j]? = (o1 ++ tl)[o1.length + j]? := fun j => by rw [List.getElem?_append_right (by omega)]; congr 1; omega
  have finish : ∀ (fuel : Nat) (listed : Array Bool) (a' : Act) (w' : World), listed.size = (o1 ++ tl).length → (listed.toList.count false ≤ fuel) → (∀ i, o1.length ≤ i → listed.getD i false = false) → InvA o1 a w Ψ listed a' w' →
      (∀ i, i < o1.length → listed.getD i false = true) → wpAny P .any (o1 ++ tl).toArray Q fuel listed a' w' := by
    intro fuel listed a' w' hsz hc hun hI hall
    obtain ⟨vs, rfl, hg, hΨ⟩ := hI
    refine wpAny_tail hbk ht tl o1.length fuel listed _ w' (Nat.le_refl _) (by simp) htl ?_ hsz (fun j _ => ?_) (hQ vs w' hg (fun i hi => hΨ i hi (hall i hi)))
    · refine Nat.le_trans ?_ hc
      have h1 : listed.toList = List.replicate o1.length true ++ List.replicate tl.length false := by
        apply List.ext_getElem
        · simp at hsz ⊢; exact hsz
        · intro i h1 h2
          have hlt : i < listed.size := by simpa using h1
          by_cases hi : i < o1.length
          · have := hall i hi
            rw [getD_at false hlt] at this
            rw [List.getElem_append_left (by simpa using hi)]
            simpa using this
          · have := hun i (by omega)
            rw [getD_at false hlt] at this
            rw [List.getElem_append_right (by simpa using hi)]
            simpa using this
      rw [h1, List.count_append]
      simp [List.count_replicate]
    · by_cases hj : j < o1.length
      · rw [hall j hj, decide_eq_true hj]
      · rw [hun j (by omega), decide_eq_false hj]
  intro fuel
  induction fuel with
  | zero =>
    intro listed a' w' hsz hc hun hcl hI
    refine finish 0 listed a' w' hsz hc hun hI (fun i hi => ?_)
    have h0 : listed.toList.count false = 0 := by omega
    rw [List.count_eq_zero] at h0
    have hlt : i < listed.size := by simp at hsz; omega
    cases hb : listed[i] with
    | true => rw [getD_at false hlt]; exact hb
    | false => exact absurd (by rw [← hb]; simp) h0
  | succ fuel ih =>
    intro listed a' w' hsz hc hun hcl hI
    by_cases hall : ∀ i, i < o1.length → listed.getD i false = true
    · exact finish _ listed a' w' hsz hc hun hI hall
    · refine ⟨fun h0 => ?_, fun i hi => ?_⟩
      · exact absurd (fun i (hi : i < o1.length) => ready_nil_all hbk hsz h0 i (by simp; omega)) hall
      · obtain ⟨hul, o, ho, hwait⟩ := mem_ready.1 hi
        have ho' : (o1 ++ tl)[i]? = some o := by simpa using ho
        have hil : i < (o1 ++ tl).length := (List.getElem?_eq_some_iff.1 ho').1
        have hlt : i < listed.size := by omega
        by_cases him : i < o1.length
        · have ho1 : o1[i]? = some o := by rwa [List.getElem?_append_left him] at ho'
          obtain ⟨vs, rfl, hg, hΨ⟩ := hI
          have hS := hstep i o ho1 vs w' hg (fun e he hbd => hΨ e.on (by have := backB_spec hbk ho' he hbd; omega) (hwait e he hbd))
          have next : ∀ v w2, Gr w' w2 → Ψ i v w2 → wpAny P .any (o1 ++ tl).toArray Q fuel (listed.setIfInBounds i true) ((puts vs 0 o1 a).put o.dst v) w2 := by
            intro v w2 hg2 hv
            refine ih (listed.setIfInBounds i true) _ w2 (by simpa using hsz) ?_ (fun j hj => ?_) (fun j oj hoj hlj e he hbd => ?_) ?_
            · have hf : listed[i] = false := by simpa [Array.getD, hlt] using hul
              have h1 : (listed.setIfInBounds i true).toList = listed.toList.set i true := by simp [Array.setIfInBounds, hlt]
              have h2 : listed.toList[i]'(by simpa using hlt) = false := by simpa using hf
              have h3 := List.count_set (l := listed.toList) (i := i) (a := true) (b := false) (by simpa using hlt)
              have h4 : 0 < List.count false listed.toList := List.count_pos_iff.2 (by rw [← h2]; exact List.getElem_mem _)
              rw [h1, h3, h2]
              simp only [beq_self_eq_true, if_true, show (true == false) = false from rfl, Bool.false_eq_true, if_false]
              omega
            · rw [getD_set_ne false (by omega)]; exact hun j hj
            · refine getD_set_true ?_
              rcases getD_set hlj with rfl | hlj
              · rw [ho'] at hoj
                injection hoj with hoj
                subst hoj
                exact hwait e he hbd
              · exact hcl j oj hoj hlj e he hbd
            · refine ⟨upd vs i v, ?_, hg.trans hg2, fun j hj hlj => ?_⟩
              · rw [puts_upd o1 0 a i o v hd ho1, Nat.zero_add]
              · by_cases hji : j = i
                · subst hji; rw [upd_same]; exact hv
                · rw [upd_other vs v hji]
                  exact hmono j _ _ _ hg2 (hΨ j hj ((getD_set hlj).resolve_left hji))
          unfold wpOp
          rw [ho]
          simp only []
          by_cases hw : Region.wanted o (yielded (o1 ++ tl).toArray (puts vs 0 o1 a).tmps) = true
          · rw [if_pos hw]
            refine .inl (Oper.wp_mono (fun a2 w2 h => ?_) (hS.1 hw))
            obtain ⟨v, rfl, hg2, hv⟩ := h
            exact next v w2 hg2 hv
          · rw [if_neg hw]
            exact next undef w' (Gr.refl _) (hS.2 (by simpa using hw))
        · exact absurd (fun j (hj : j < o1.length) => tail_listed ht hcl (by omega) ho' hwait j (by omega)) hall

/-- **A statement whose order is open, its first operations only adding memory, its last ones each behind all others: walked once.** -/
theorem wp_region_grow {o1 tl : List Oper} {id : Nat} {Q : Exit → Act → World → Prop} {a : Act} {w : World} (Ψ : Nat → Value → World → Prop) (hm : P.follows .mixedOrders = true) (hd : dstsApart o1 = true) (hbk : backB (o1 ++ tl) = true) (ht : tailB (o1 ++ tl) o1.length = true)
    (hmono : ∀ i v w1 w2, Gr w1 w2 → Ψ i v w1 → Ψ i v w2)
    (hstep : ∀ i o, o1[i]? = some o → StepOk P o1 (o1 ++ tl) Q a w Ψ i o)
    (hQ : ∀ (vs : Nat → Value) w', Gr w w' → (∀ i, i < o1.length → Ψ i (vs i) w') → wpList P (o1 ++ tl).toArray Q tl (puts vs 0 o1 a) w') : (Code.region id (o1 ++ tl).toArray true).wp P Q a w := by
  refine wp_region_any hm (wpAny_inv hd hbk ht hmono hstep hQ _ _ _ _ (by simp) (by simp) (fun i hi => ?_) (fun i o ho hl => ?_) ?_)
  · by_cases h : i < (o1 ++ tl).length
    · simp [Array.getD]
    · simp [Array.getD]
  · simp [Array.getD] at hl
  · obtain ⟨vs, hvs⟩ := puts_self o1 0 a hd
    exact ⟨vs, hvs.symm, Gr.drawn w _, fun i hi hl => by simp [Array.getD] at hl⟩
end
end Go.Proofs.YtkbgdiejjabdmaaDoor
