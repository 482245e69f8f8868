/- The walks of the reference's Gcd and Parse, as numbers. -/
import Derived.Test.YtkbgdiejjabdmaaDoorRfE
import Derived.Test.YtkbgdiejjabdmaaDoorNatL
import Derived.Test.YtkbgdiejjabdmaaDoorBoxR
namespace Go.Proofs.YtkbgdiejjabdmaaDoor
open Go.RowKit

theorem AN.lit {w : World} {g : Nat} {x : Int} {t : TypeId} (h : Blk w g #[.int .u32 x] t) (h0 : 0 ≤ x) (h1 : x ≤ 4294967295) : AN w (.slice (some ⟨g, 0, none⟩) 1 1) x.toNat 1 :=
  ⟨_, _, [x], rfl, RdN.of_block (cells := #[.int .u32 x]) (e := t) (fr := (0, 0)) h (Lim.cons h0 h1 Lim.nil) (by simp) (fun j hj => by
    match j, hj with
    | 0, _ => rfl), by simp [val], by simp⟩
theorem Blk.dr {w : World} {g : Nat} {t : TypeId} {cs : Array Value} (h : Blk w g cs t) : Blk w.drew g cs t := h.gr (Gr.refl w).drew

theorem dec_len {n d k : Nat} (h : (limbs n).length ≤ k) (hd : d ≤ 9) : (limbs (n * 10 + d)).length ≤ k + 1 := by
  have h1 := val_lt_pow (limbs_lim n) h
  rw [val_limbs] at h1
  refine limbs_length_le ?_
  rw [Nat.pow_succ]
  generalize 4294967296 ^ k = P at *
  omega
theorem lit_a (w : World) (x : Int) (t : TypeId) (h0 : 0 ≤ x) (h1 : x ≤ 4294967295) : AN (w.alloc (.cells #[.int .u32 x] t)).drew (.slice (some ⟨w.heap.size, 0, none⟩) 1 1) x.toNat 1 := AN.lit (Blk.at rfl).dr h0 h1
theorem lit_b (w : World) (x : Int) (t : TypeId) (o : Obj) (h0 : 0 ≤ x) (h1 : x ≤ 4294967295) : AN ((w.alloc (.cells #[.int .u32 x] t)).alloc o).drew (.slice (some ⟨w.heap.size, 0, none⟩) 1 1) x.toNat 1 := AN.lit ((Blk.at rfl).al _).dr h0 h1
theorem lit_c (w : World) (x : Int) (t : TypeId) (o : Obj) (h0 : 0 ≤ x) (h1 : x ≤ 4294967295) : AN ((w.alloc o).alloc (.cells #[.int .u32 x] t)).drew (.slice (some ⟨w.heap.size + 1, 0, none⟩) 1 1) x.toNat 1 := AN.lit (Blk.at (by simp)).dr h0 h1

set_option maxHeartbeats 1000000 in
theorem xgcd_c (w : World) (v1 v2 : Value) (m n L : Nat) (h1 : AN w v1 m L) (h2 : AN w v2 n L) (hL : L ≤ 274877906944) :
    Calls Tryd.prog 42 #[v1, v2] w (Ret w fun v w' => VN w' w.heap.size v (Nat.gcd m n) L) := by
  have H1 := hid h1
  have H2 := hid h2
  have HL := hid hL
  clear h1 h2 hL
  go_enter Tryd.func42, Tryd.ntmps42
  go_wp2_with fail
  refine (xnorm_c w v1 m L H1.out (Nat.le_trans HL.out (by decide))).mono ?_
  rintro e w1 ⟨x, rfl, hx, hg1⟩
  have HX := hid hx
  have HG1 := hid hg1
  clear hx hg1
  go_wp2_with fail
  refine (xnorm_c w1 v2 n L (H2.out.gr HG1.out) (Nat.le_trans HL.out (by decide))).mono ?_
  rintro e w2 ⟨y, rfl, hy, hg2⟩
  have HY := hid hy
  have HG2 := hid hg2
  clear hy hg2
  go_wp2
  go_loopg [0, 1] n (fun g v5 v6 wr => ∃ p, Hid (GcIn m n L w wr p g v5 v6))
  case atStart => exact ⟨m, HX.out.gr HG2.out, HY.out.base HG1.out.size, Nat.gcd_comm _ _, HG1.out.trans HG2.out⟩
  case round =>
    obtain ⟨p, HI⟩ := hrel
    obtain ⟨hx, ⟨A, c, rfl, hr, hlen, hown⟩, hgcd, hgr⟩ := HI.out
    have HX2 := hid hx
    have HY2 : Hid (VN wr w.heap.size (.slice A (limbs gk).length c) gk L) := ⟨A, c, rfl, hr, hlen, hown⟩
    have HGCD := hid hgcd
    have HGR := hid hgr
    have HLEN := hid hlen
    clear hx hr hown hgcd hgr HI hlen HX HY HG1 HG2 H1 H2
    by_cases h0 : 0 < gk
    · have hpos : 0 < (limbs gk).length := by
        rcases Nat.eq_zero_or_pos (limbs gk).length with h | h
        · have := limbs_nil.1 (List.eq_nil_of_length_eq_zero h); omega
        · exact h
      go_wp2_with fail
      refine (xdivmod_c wr _ _ p gk L HX2.out.an HY2.out.an HL.out h0).mono ?_
      rintro e w3 ⟨q, r, rfl, ⟨hq, hr⟩, hg3⟩
      have HR := hid (hr.base HGR.out.size)
      have HG3 := hid hg3
      clear hq hr hg3
      go_wp2
      go_roundg (p % gk)
      case measure => exact Nat.mod_lt _ h0
      case rel => exact ⟨gk, HY2.out.gr HG3.out, HR.out, by rw [HGCD.out, Nat.gcd_rec], HGR.out.trans HG3.out⟩
    · obtain rfl : gk = 0 := by omega
      have hlen0 : ¬ 0 < (limbs 0).length := by rw [limbs_zero]; simp
      go_wp2
      go_ret
      exact ⟨_, rfl, by rw [HGCD.out, Nat.gcd_zero_left]; exact HX2.out, HGR.out⟩

set_option maxHeartbeats 4000000 in
theorem xparse_c (w : World) (s : ByteArray) (hs : s.size ≤ 1099511627776) :
    Calls Tryd.prog 46 #[.string s] w (RetE w (pErr s.data.toList) fun v w' => VN w' w.heap.size v (pVal s.data.toList) 400) := by
  obtain ⟨l, hl⟩ : ∃ l, l = s.data.toList := ⟨_, rfl⟩
  rw [← hl]
  have HL := hid hl
  clear hl
  have herr : ∀ (er : Int), pErr l = er → er ≠ 0 → ∀ (w' : World), Gr w w' → RetE w (pErr l) (fun v w' => VN w' w.heap.size v (pVal l) 400) (.returned (.tuple #[.slice none 0 0, .int .i64 er])) w' := by
    intro er he h0 w' hg
    refine ⟨_, by rw [he], ?_, hg⟩
    unfold pVal
    rw [he, if_neg h0]
    exact VN.zero _ _ _ _ _
  have HERR := hid herr
  clear herr
  by_cases h0 : s.size = 0
  · have hne5 : ((s.size : Int) == 0) = true := by rw [beq_iff_eq]; omega
    have he : pErr l = 2 := by
      unfold pErr
      rw [if_pos (.inl (by rw [HL.out]; exact List.eq_nil_of_length_eq_zero (by rw [size_len]; exact h0)))]
    have HE := hid he
    clear he h0
    go_enter Tryd.func46, Tryd.ntmps46
    go_wp2
    go_ret2
    exact HERR.out 2 HE.out (by decide) _ (Gr.refl _)
  · have hp : 0 < s.size := by omega
    have hne4 : ((s.size : Int) == 0) = false := by rw [beq_eq_false_iff_ne]; omega
    by_cases hz : (s[0].toNat : Int) = 48 ∧ 1 < (s.size : Int)
    · have he : pErr l = 2 := by
        unfold pErr
        refine if_pos (.inr ⟨?_, by rw [HL.out, size_len]; omega⟩)
        rw [HL.out, List.head?_eq_getElem?, List.getElem?_eq_getElem (by rw [size_len]; exact hp)]
        have : s.data.toList[0]'(by rw [size_len]; exact hp) = s[0] := rfl
        rw [this]
        congr 1
        apply UInt8.toNat_inj.1
        have := hz.1
        simp only [UInt8.reduceToNat]
        omega
      have HE := hid he
      have hz1 : ((s[0].toNat : Int) == 48) = true := by rw [beq_iff_eq]; exact hz.1
      have hz2 := hz.2
      clear he h0 hz
      go_enter Tryd.func46, Tryd.ntmps46
      go_wp2
      go_ret2
      exact HERR.out 2 HE.out (by decide) _ (Gr.refl _)
    · have hfirst : ¬ (l = [] ∨ (l.head? = some 48 ∧ 1 < l.length)) := by
        rw [HL.out]
        rintro (h | ⟨h1, h2⟩)
        · have := congrArg List.length h
          rw [size_len] at this
          exact h0 this
        · refine hz ⟨?_, by rw [size_len] at h2; omega⟩
          rw [List.head?_eq_getElem?, List.getElem?_eq_getElem (by rw [size_len]; exact hp)] at h1
          have h3 : s.data.toList[0]'(by rw [size_len]; exact hp) = s[0] := rfl
          rw [h3] at h1
          have h4 := Option.some.inj h1
          rw [h4]; rfl
      have HF := hid hfirst
      have hs1 : (1 : Int) ≤ s.size := by omega
      clear hfirst h0
      have hzz : ((s[0].toNat : Int) == 48 && decide (1 < (s.size : Int))) = false := by
        rw [Bool.eq_false_iff]
        intro h
        rw [Bool.and_eq_true, beq_iff_eq, decide_eq_true_eq] at h
        exact hz h
      clear hzz
      have HZ := hid hz
      clear hz
      have hor : (¬ 1 < (s.size : Int)) ∨ (1 < (s.size : Int) ∧ ((s[0].toNat : Int) == 48) = false) := by
        by_cases h : 1 < (s.size : Int)
        · exact .inr ⟨h, by rw [beq_eq_false_iff_ne]; exact fun h2 => HZ.out ⟨h2, h⟩⟩
        · exact .inl h
      go_enter Tryd.func46, Tryd.ntmps46
      rcases hor with ho1 | ⟨ho1, ho2⟩
      all_goals
        go_wp2
        go_loop [4] (fun i => ∃ k : Nat, k ≤ s.size ∧ i = .int .i64 k ∧ Hid (∀ j (hj : j < s.size), j < k → isDig s[j] = true)) (fun i => s.size - (intOf i).toNat)
        case atStart => exact ⟨0, Nat.zero_le _, rfl, fun j _ h => absurd h (Nat.not_lt_zero _)⟩
        case round =>
          obtain ⟨k, hk, rfl, HD⟩ := hrel
          by_cases hlt : k < s.size
          · have i1 : (k : Int) < s.size := by omega
            by_cases hd : isDig s[k] = true
            · obtain ⟨d0, d1⟩ := (byte_isDig _).1 hd
              have e0 : ¬ (s[k].toNat : Int) < 48 := by omega
              have e1 : ¬ 57 < (s[k].toNat : Int) := by omega
              have HDK := hid hd
              clear hd
              go_wp2
              go_round
              case rel =>
                refine ⟨k + 1, by omega, by go_num, fun j hj h => ?_⟩
                by_cases hjk : j = k
                · subst hjk; exact HDK.out
                · exact HD.out j hj (by omega)
              case measure => simp [intOf]; omega
            · have he : pErr l = 2 := by
                unfold pErr
                rw [if_neg HF.out, HL.out, if_pos (not_all_dig hlt (by simpa using hd))]
              have HE := hid he
              clear he
              by_cases e0 : (s[k].toNat : Int) < 48
              · go_wp2
                go_ret2
                exact HERR.out 2 HE.out (by decide) _ (Gr.refl _)
              · have e1 : 57 < (s[k].toNat : Int) := by
                  by_cases h : 57 < (s[k].toNat : Int)
                  · exact h
                  · exact absurd ((byte_isDig _).2 ⟨by omega, by omega⟩) hd
                go_wp2
                go_ret2
                exact HERR.out 2 HE.out (by decide) _ (Gr.refl _)
          · have hkl : k = s.size := by omega
            subst hkl
            have hall : s.data.toList.all isDig = true := all_take_dig fun j hj => HD.out j hj hj
            have HA := hid hall
            clear hall HD
            by_cases hbig : 400 < (s.size : Int)
            · have he : pErr l = 5 := by
                unfold pErr
                rw [if_neg HF.out, HL.out, HA.out, if_neg (by decide), if_pos (by rw [size_len]; omega)]
              have HE := hid he
              clear he
              go_wp2
              go_ret2
              exact HERR.out 5 HE.out (by decide) _ (Gr.refl _)
            · have he : pErr l = 0 := by
                unfold pErr
                rw [if_neg HF.out, HL.out, HA.out, if_neg (by decide), if_neg (by rw [size_len]; omega)]
              have HE := hid he
              clear he
              have hs400 : (s.size : Int) ≤ 400 := by omega
              go_wp2
              go_loopw [5, 6] (fun v i wr => ∃ k : Nat, k ≤ s.size ∧ i = .int .i64 k ∧ Hid (∃ A l c, v = .slice A l c) ∧ Hid (VN wr w.heap.size v (decVal (s.data.toList.take k)) k ∧ Gr w wr)) (fun _ i _ => s.size - (intOf i).toNat)
              case atStart => exact ⟨0, Nat.zero_le _, rfl, ⟨_, _, _, rfl⟩, VN.zero _ _ _ _ _, Gr.alloc _ _⟩
              case round =>
                obtain ⟨k, hk, rfl, HFORM, HI⟩ := hrel
                obtain ⟨A1, l1, c1, rfl⟩ := HFORM.out
                by_cases hlt : k < s.size
                · have i1 : (k : Int) < s.size := by omega
                  have hdk : isDig s[k] = true := by
                    have := List.all_eq_true.1 HA.out (s.data.toList[k]'(by rw [size_len]; exact hlt)) (List.getElem_mem _)
                    exact this
                  obtain ⟨d0, d1⟩ := (byte_isDig _).1 hdk
                  have HDK := hid hdk
                  clear hdk
                  have HI1 := hid HI.out.1
                  have HI2 := hid HI.out.2
                  have p0 : 0 ≤ (s[k].toNat : Int) - 48 := by omega
                  have p1 : (s[k].toNat : Int) - 48 ≤ 4294967295 := by omega
                  have p9 : (s[k].toNat : Int) - 48 ≤ 255 := by omega
                  have hw1 : IntKind.u8.wrap ((s[k].toNat : Int) - 48) = (s[k].toNat : Int) - 48 := wrap8 p0 p9
                  have hw2 : IntKind.u32.wrap ((s[k].toNat : Int) - 48) = (s[k].toNat : Int) - 48 := wrap32 p0 p1
                  have HW1 := hid hw1
                  clear HI
                  obtain ⟨dg, hdg⟩ : ∃ x, x = (s[k].toNat : Int) - 48 := ⟨_, rfl⟩
                  have hdg0 : 0 ≤ dg := by omega
                  have hdg1 : dg ≤ 9 := by omega
                  have hw3 : IntKind.u8.wrap ((s[k].toNat : Int) - 48) = dg := by rw [hdg]; exact hw1
                  have hw4 : IntKind.u32.wrap dg = dg := by rw [hdg]; exact hw2
                  have HDG := hid hdg
                  have HWR := hid (Gr.refl wr)
                  clear p0 p1 p9 hdg HW1 hw1 hw2
                  go_wp2
                  go_region_held3 (fun V => Gr wr V)
                    (first
                      | exact (Gr.refl wr).drew
                      | with_reducible exact HX2.out
                      | with_reducible exact HX1.out
                      | with_reducible exact (Gr.alloc wr _).drew
                      | with_reducible exact ((Gr.alloc wr _).trans (Gr.alloc _ _)).drew
                      | with_reducible exact ((Gr.alloc wr _).trans (Gr.alloc _ _)).trans (Gr.alloc _ _)
                      | exact Gr.trans ‹Gr wr _› (Gr.alloc _ _)
                      | exact Gr.trans HX1.out (Gr.alloc _ _))
                    (first
                      | (go_at_call 36; refine (xadd_c _ g1 _ _ dg.toNat (k + 1) ((HV1.out.gr (by first | exact Gr.refl _ | exact Gr.alloc _ _)).an) ((AN.lit (t := 78) (by first | exact BD.out | exact Blk.at rfl) hdg0 (by omega)).le (by omega)) (by omega)).mono ?_; rintro e w2 ⟨g2, rfl, hv, hg⟩; have HV2 := hid (hv.base (b' := w.heap.size) (Nat.le_trans HI2.out.size (‹Gr wr _›).size)); have HX2 := hid (‹Gr wr _›.trans hg); clear hv hg)
                      | (go_at_call 38; refine (xmul_c _ _ _ _ 10 k 1 (HI1.out.gr ‹Gr wr _›).an (by first | exact lit_a wr 10 _ (by decide) (by decide) | exact lit_b wr 10 _ _ (by decide) (by decide) | exact lit_c wr 10 _ _ (by decide) (by decide)) (by omega) (by decide)).mono ?_; rintro e w1 ⟨g1, rfl, hv, hg⟩; have HV1 := hid hv; have HX1 := hid (‹Gr wr _›.trans hg); (try (have BD : Hid (Blk w1 wr.heap.size #[.int .u32 dg] 78) := hid (((Blk.new wr _ _).al _).dr.gr hg))); (try (have BD : Hid (Blk w1 (wr.heap.size + 1) #[.int .u32 dg] 78) := hid ((Blk.at (w := wr.alloc _) (by simp)).dr.gr hg))); clear hv hg))
                  all_goals go_wp2
                  all_goals refine ⟨⟨k + 1, by omega, by go_num, ?_, ?_, HI2.out.trans HX2.out⟩, by first | (simp [intOf]; done) | (simp [intOf]; omega)⟩
                  all_goals first
                    | (obtain ⟨A2, c2, hv2, _⟩ := HV2.out; exact ⟨_, _, _, hv2⟩)
                    | (rw [byte_take_snoc s k hlt, decVal_snoc]; have h1 := HV2.out.small (dec_len HI1.out.len (show dg.toNat ≤ 9 by omega)); have e2 : dg.toNat = s[k].toNat - 48 := (by have := HDG.out; omega); rwa [e2] at h1)
                · have hkl : k = s.size := by omega
                  subst hkl
                  have hv : pVal l = decVal (s.data.toList.take s.size) := by
                    unfold pVal
                    rw [HE.out, if_pos rfl, HL.out, List.take_of_length_le (by rw [size_len]; exact Nat.le_refl _)]
                  have HVV := hid hv
                  clear hv
                  go_wp2
                  go_ret2
                  refine ⟨_, by rw [HE.out]; rfl, ?_, HI.out.2⟩
                  rw [HVV.out]
                  exact HI.out.1.le (by omega)
end Go.Proofs.YtkbgdiejjabdmaaDoor
