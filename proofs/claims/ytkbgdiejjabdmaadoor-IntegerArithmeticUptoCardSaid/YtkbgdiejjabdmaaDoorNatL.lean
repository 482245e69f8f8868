/- The walk of nat.Parse, as numbers. -/
import Derived.Test.YtkbgdiejjabdmaaDoorNatK
namespace Go.Proofs.YtkbgdiejjabdmaaDoor
open Go.RowKit

/-- A contract's end: a number and an error. -/
def RetE (w : World) (er : Int) (R : Value → World → Prop) (e : Ending) (w' : World) : Prop := ∃ v, e = .returned (.tuple #[v, .int .i64 er]) ∧ R v w' ∧ Gr w w'

theorem byte_take_snoc (s : ByteArray) (k : Nat) (h : k < s.size) : s.data.toList.take (k + 1) = s.data.toList.take k ++ [s[k]] := by
  rw [List.take_succ_eq_append_getElem (by simpa using h)]; rfl
theorem byte_isDig (c : UInt8) : isDig c = true ↔ 48 ≤ (c.toNat : Int) ∧ (c.toNat : Int) ≤ 57 := by
  unfold isDig
  simp only [Bool.and_eq_true, decide_eq_true_eq]
  omega
theorem all_take_dig {s : ByteArray} (h : ∀ j (hj : j < s.size), isDig s[j] = true) : s.data.toList.all isDig = true := by
  rw [List.all_eq_true]
  intro c hc
  obtain ⟨j, hj, rfl⟩ := List.mem_iff_getElem.1 hc
  exact h j (by simpa using hj)
theorem not_all_dig {s : ByteArray} {j : Nat} (hj : j < s.size) (h : isDig s[j] = false) : s.data.toList.all isDig = false := by
  rw [Bool.eq_false_iff]
  intro h2
  rw [List.all_eq_true] at h2
  have h3 := h2 s[j] (by
    have : s[j] = s.data.toList[j]'(by simpa using hj) := rfl
    rw [this]; exact List.getElem_mem _)
  rw [h] at h3
  cases h3
theorem bl_loop (s : ByteArray) (i : Nat) (r : List UInt8) (h : r ≠ []) : ByteArray.toList.loop s i r ≠ [] := by
  fun_induction ByteArray.toList.loop s i r with
  | case1 i r hi ih => exact ih (by simp)
  | case2 i r hi => simpa using h
theorem bl_ne {s : ByteArray} (h : 0 < s.size) : s.toList ≠ [] := by
  unfold ByteArray.toList
  rw [ByteArray.toList.loop]
  rw [if_pos h]
  exact bl_loop _ _ _ (by simp)
theorem wrap8 {x : Int} (h0 : 0 ≤ x) (h1 : x ≤ 255) : IntKind.u8.wrap x = x := by
  have : IntKind.u8.wrap x = x % 256 := rfl
  omega
theorem wrap32 {x : Int} (h0 : 0 ≤ x) (h1 : x ≤ 4294967295) : IntKind.u32.wrap x = x := by
  have : IntKind.u32.wrap x = x % 4294967296 := rfl
  omega
theorem size_len (s : ByteArray) : s.data.toList.length = s.size := by simp

set_option maxHeartbeats 4000000 in
theorem parse_c (w : World) (s : ByteArray) (hs : s.size ≤ 1099511627776) :
    Calls Tryd.prog 45 #[.string s] w (RetE w (pErr s.data.toList) fun v w' => VN w' w.heap.size v (pVal s.data.toList) 400) := by
  obtain ⟨l, hl⟩ : ∃ l, l = s.data.toList := ⟨_, rfl⟩
  rw [← hl]
  have HL := hid hl
  clear hl
  have herr : ∀ (er : Int), pErr l = er → er ≠ 0 → ∀ (w' : World), Gr w w' → RetE w (pErr l) (fun v w' => VN w' w.heap.size v (pVal l) 400) (.returned (.tuple #[.slice none 0 0, .int .i64 er])) w' := by
    intro er he h0 w' hg
    refine ⟨_, by rw [he], ?_, hg⟩
    unfold pVal
    rw [he, if_neg h0]
    exact VN.zero _ _ _ _ _
  have HERR := hid herr
  clear herr
  by_cases h0 : s.size = 0
  · have hd : s.toList = [] := by
      have : s.data = #[] := Array.eq_empty_of_size_eq_zero h0
      have e : s = ⟨#[]⟩ := by cases s; simp at this; rw [this]
      subst e
      unfold ByteArray.toList
      rw [ByteArray.toList.loop]
      rfl
    have he : pErr l = 2 := by
      unfold pErr
      rw [if_pos (.inl (by rw [HL.out]; exact List.eq_nil_of_length_eq_zero (by rw [size_len]; exact h0)))]
    have HE := hid he
    clear he h0
    go_enter Tryd.func45, Tryd.ntmps45
    go_wp2
    go_ret2
    exact HERR.out 2 HE.out (by decide) _ (Gr.refl _)
  · have hp : 0 < s.size := by omega
    have hne1 : ¬ s.toList = [] := bl_ne hp
    have hne2 : s.toList.isEmpty = false := by
      cases h : s.toList with
      | nil => exact absurd h hne1
      | cons a b => rfl
    have hne3 : ¬ s.toList.isEmpty = true := by rw [hne2]; simp
    by_cases hz : (s[0].toNat : Int) = 48 ∧ 1 < (s.size : Int)
    · have he : pErr l = 2 := by
        unfold pErr
        refine if_pos (.inr ⟨?_, by rw [HL.out, size_len]; omega⟩)
        rw [HL.out, List.head?_eq_getElem?, List.getElem?_eq_getElem (by rw [size_len]; exact hp)]
        have : s.data.toList[0]'(by rw [size_len]; exact hp) = s[0] := rfl
        rw [this]
        congr 1
        apply UInt8.toNat_inj.1
        have := hz.1
        simp only [UInt8.reduceToNat]
        omega
      have HE := hid he
      have hz1 : ((s[0].toNat : Int) == 48) = true := by rw [beq_iff_eq]; exact hz.1
      have hz2 := hz.2
      clear he h0 hz
      go_enter Tryd.func45, Tryd.ntmps45
      go_wp2
      go_ret2
      exact HERR.out 2 HE.out (by decide) _ (Gr.refl _)
    · have hfirst : ¬ (l = [] ∨ (l.head? = some 48 ∧ 1 < l.length)) := by
        rw [HL.out]
        rintro (h | ⟨h1, h2⟩)
        · have := congrArg List.length h
          rw [size_len] at this
          exact h0 this
        · refine hz ⟨?_, by rw [size_len] at h2; omega⟩
          rw [List.head?_eq_getElem?, List.getElem?_eq_getElem (by rw [size_len]; exact hp)] at h1
          have h3 : s.data.toList[0]'(by rw [size_len]; exact hp) = s[0] := rfl
          rw [h3] at h1
          have h4 := Option.some.inj h1
          rw [h4]; rfl
      have HF := hid hfirst
      have hs1 : (1 : Int) ≤ s.size := by omega
      clear hfirst h0
      have hzz : ((s[0].toNat : Int) == 48 && decide (1 < (s.size : Int))) = false := by
        rw [Bool.eq_false_iff]
        intro h
        rw [Bool.and_eq_true, beq_iff_eq, decide_eq_true_eq] at h
        exact hz h
      clear hzz
      have HZ := hid hz
      clear hz
      have hor : (s[0].toNat : Int) = 48 ∧ ¬ 1 < (s.size : Int) ∨ ¬ (s[0].toNat : Int) = 48 := by
        by_cases h : (s[0].toNat : Int) = 48
        · exact .inl ⟨h, fun h2 => HZ.out ⟨h, h2⟩⟩
        · exact .inr h
      go_enter Tryd.func45, Tryd.ntmps45
      rcases hor with ⟨ho1, ho2⟩ | ho1
      all_goals
        go_wp2
        go_loop [21] (fun i => ∃ k : Nat, k ≤ s.size ∧ i = .int .i64 k ∧ Hid (∀ j (hj : j < s.size), j < k → isDig s[j] = true)) (fun i => s.size - (intOf i).toNat)
        case atStart => exact ⟨0, Nat.zero_le _, rfl, fun j _ h => absurd h (Nat.not_lt_zero _)⟩
        case round =>
          obtain ⟨k, hk, rfl, HD⟩ := hrel
          by_cases hlt : k < s.size
          · have i1 : (k : Int) < s.size := by omega
            by_cases hd : isDig s[k] = true
            · obtain ⟨d0, d1⟩ := (byte_isDig _).1 hd
              have e0 : ¬ (s[k].toNat : Int) < 48 := by omega
              have e1 : ¬ 57 < (s[k].toNat : Int) := by omega
              have HDK := hid hd
              clear hd
              go_wp2
              go_round
              case rel =>
                refine ⟨k + 1, by omega, by go_num, fun j hj h => ?_⟩
                by_cases hjk : j = k
                · subst hjk; exact HDK.out
                · exact HD.out j hj (by omega)
              case measure => simp [intOf]; omega
            · have he : pErr l = 2 := by
                unfold pErr
                rw [if_neg HF.out, HL.out, if_pos (not_all_dig hlt (by simpa using hd))]
              have HE := hid he
              clear he
              by_cases e0 : (s[k].toNat : Int) < 48
              · go_wp2
                go_ret2
                exact HERR.out 2 HE.out (by decide) _ (Gr.refl _)
              · have e1 : 57 < (s[k].toNat : Int) := by
                  by_cases h : 57 < (s[k].toNat : Int)
                  · exact h
                  · exact absurd ((byte_isDig _).2 ⟨by omega, by omega⟩) hd
                go_wp2
                go_ret2
                exact HERR.out 2 HE.out (by decide) _ (Gr.refl _)
          · have hkl : k = s.size := by omega
            subst hkl
            have hall : s.data.toList.all isDig = true := all_take_dig fun j hj => HD.out j hj hj
            have HA := hid hall
            clear hall HD
            by_cases hbig : 400 < (s.size : Int)
            · have he : pErr l = 5 := by
                unfold pErr
                rw [if_neg HF.out, HL.out, HA.out, if_neg (by decide), if_pos (by rw [size_len]; omega)]
              have HE := hid he
              clear he
              go_wp2
              go_ret2
              exact HERR.out 5 HE.out (by decide) _ (Gr.refl _)
            · have he : pErr l = 0 := by
                unfold pErr
                rw [if_neg HF.out, HL.out, HA.out, if_neg (by decide), if_neg (by rw [size_len]; omega)]
              have HE := hid he
              clear he
              go_wp2
              go_loopw [5, 40] (fun v i wr => ∃ k : Nat, k ≤ s.size ∧ i = .int .i64 k ∧ Hid (VN wr w.heap.size v (decVal (s.data.toList.take k)) k ∧ Gr w wr)) (fun _ i _ => s.size - (intOf i).toNat)
              case atStart => exact ⟨0, Nat.zero_le _, rfl, VN.zero _ _ _ _ _, Gr.refl _⟩
              case round =>
                obtain ⟨k, hk, rfl, HI⟩ := hrel
                by_cases hlt : k < s.size
                · have i1 : (k : Int) < s.size := by omega
                  have hdk : isDig s[k] = true := by
                    have := List.all_eq_true.1 HA.out (s.data.toList[k]'(by rw [size_len]; exact hlt)) (List.getElem_mem _)
                    exact this
                  obtain ⟨d0, d1⟩ := (byte_isDig _).1 hdk
                  have HDK := hid hdk
                  clear hdk
                  have HI1 := hid HI.out.1
                  have HI2 := hid HI.out.2
                  have p0 : 0 ≤ (s[k].toNat : Int) - 48 := by omega
                  have p1 : (s[k].toNat : Int) - 48 ≤ 4294967295 := by omega
                  have p9 : (s[k].toNat : Int) - 48 ≤ 255 := by omega
                  have hw1 : IntKind.u8.wrap ((s[k].toNat : Int) - 48) = (s[k].toNat : Int) - 48 := wrap8 p0 p9
                  have hw2 : IntKind.u32.wrap ((s[k].toNat : Int) - 48) = (s[k].toNat : Int) - 48 := wrap32 p0 p1
                  have HW1 := hid hw1
                  clear HI
                  go_wp2_with fail
                  refine (scale_c wr _ _ k w.heap.size 10 ((s[k].toNat : Int) - 48) HI1.out (by omega) (by decide) (by decide) p0 p1).mono ?_
                  rintro e w1 ⟨v1, rfl, hv1, hg1⟩
                  have HV1 := hid hv1
                  have HG1 := hid hg1
                  clear hv1 hg1
                  go_wp2
                  go_roundw
                  case rel =>
                    refine ⟨k + 1, by omega, by go_num, ?_, HI2.out.trans HG1.out⟩
                    rw [byte_take_snoc s k hlt, decVal_snoc]
                    have := HV1.out.base HI2.out.size
                    have e : (10 : Int).toNat = 10 := rfl
                    have e2 : ((s[k].toNat : Int) - 48).toNat = s[k].toNat - 48 := by omega
                    rwa [e, e2] at this
                  case measure => simp [intOf]; omega
                · have hkl : k = s.size := by omega
                  subst hkl
                  have hv : pVal l = decVal (s.data.toList.take s.size) := by
                    unfold pVal
                    rw [HE.out, if_pos rfl, HL.out, List.take_of_length_le (by rw [size_len]; exact Nat.le_refl _)]
                  have HVV := hid hv
                  clear hv
                  go_wp2
                  go_ret2
                  refine ⟨_, by rw [HE.out]; rfl, ?_, HI.out.2⟩
                  rw [HVV.out]
                  exact HI.out.1.le (by omega)
end Go.Proofs.YtkbgdiejjabdmaaDoor
