/- The walks of the laws of nat: Parse and Print, inverse to each other. -/
import Derived.Test.YtkbgdiejjabdmaaDoorAwA
import Derived.Test.YtkbgdiejjabdmaaDoorRfA
namespace Go.Proofs.YtkbgdiejjabdmaaDoor
open Go.RowKit

set_option maxRecDepth 100000 in
set_option maxHeartbeats 8000000 in
theorem natnotation_law (W : World) (ht : Tab W) {v1 : Value} {a : Nat} (h1 : AN W v1 a 1048576) {s : ByteArray} (hs : s.size ≤ 1048576) : Calls Tryd.prog 10 #[v1, .string s] W (Is W (.bool true)) := by
  have HT := hid ht
  have H1 := hid h1
  have hs2 : s.size ≤ 1099511627776 := by omega
  have HS := hid hs2
  have hla : (limbs a).length ≤ 1048576 := by
    obtain ⟨A, c, xs, rfl, hr, rfl, hl⟩ := h1
    exact Nat.le_trans (limbs_val_le hr.lim) hl
  have hdl := dec_bound hla a (Nat.le_refl _)
  have hde := dec_err a
  obtain ⟨D, hD⟩ : ∃ D, D = Lib.decDigits a := ⟨_, rfl⟩
  have HPR : Hid (∀ V : World, Tab V → AN V v1 a 1048576 → Calls Tryd.prog 47 #[v1] V (Is V (.string ⟨D.toArray⟩))) := fun V h1 h2 => by rw [hD]; exact print_c V v1 a 1048576 h2 (by decide) h1
  obtain ⟨S, hS⟩ : ∃ S : ByteArray, S = ⟨D.toArray⟩ := ⟨_, rfl⟩
  have hSz : S.size = D.length := by rw [hS]; show D.toArray.size = _; simp
  have hSl : S.data.toList = D := by rw [hS]
  rw [← hS] at HPR
  have hcv : pErr D = 0 → pVal D = a := fun h => by
    rw [hD, dec_err] at h
    rw [hD]
    refine dec_pval ?_
    rcases Nat.lt_or_ge 400 (Lib.decDigits a).length with h2 | h2
    · rw [if_pos h2] at h; cases h
    · exact h2
  rw [← hD] at hde hdl
  have HPP : Hid (∀ V : World, Calls Tryd.prog 45 #[.string S] V (RetE V (pErr D) fun v w' => VN w' V.heap.size v (pVal D) 400)) := fun V => by
    rw [← hSl]; exact parse_c V S (by rw [hSz]; omega)
  obtain ⟨e2, he2⟩ : ∃ e, e = pErr s.data.toList := ⟨_, rfl⟩
  obtain ⟨n2, hn2⟩ : ∃ n, n = pVal s.data.toList := ⟨_, rfl⟩
  have HP2 : Hid (∀ V : World, Calls Tryd.prog 45 #[.string s] V (RetE V e2 fun v w' => VN w' V.heap.size v n2 400)) := fun V => by
    rw [he2, hn2]; exact parse_c V s hs2
  have HPS : Hid (e2 = 0 → ∀ (V : World) (x : Value), Tab V → AN V x n2 400 → Calls Tryd.prog 47 #[x] V (Is V (.string s))) := fun h0 V x h1 h2 => by
    have h := print_c V x n2 400 h2 (by decide) h1
    rw [hn2, dec_parse (by rw [← he2]; exact h0)] at h
    have h4 : (ByteArray.mk s.data.toList.toArray) = s := by rw [Array.toArray_toList]
    rw [h4] at h
    exact h
  clear hD hS hSl he2 hn2 ht h1 hs hs2 hla
  by_cases hlen : 400 < D.length
  · have hE : pErr D = 5 := by rw [hde, if_pos hlen]
    rw [hE] at HPP
    have h400 : ¬ (S.size : Int) ≤ 400 := by rw [hSz]; omega
    have h401 : (400 : Int) < S.size := by rw [hSz]; omega
    clear hE hde hdl hSz hcv hlen
    go_enter Tryd.func10, Tryd.ntmps10
    go_wp2_with fail
    refine (HPR.out W (HT.out.gr (Gr.refl _)) H1.out).mono ?_
    rintro e w1 ⟨rfl, hg⟩
    replace H1 := hid (H1.out.gr hg)
    have HG := hid hg
    clear hg
    go_wp2_with fail
    refine (HPP.out w1).mono ?_
    rintro e w2 ⟨v5, rfl, hv, hg⟩
    replace H1 := hid (H1.out.gr hg)
    have HB := hid hv
    replace HG := hid (HG.out.trans hg)
    clear hg hv
    go_wp2_with fail
    refine (HP2.out w2).mono ?_
    rintro e w3 ⟨v2, rfl, hv, hg⟩
    replace H1 := hid (H1.out.gr hg)
    replace HB := hid (HB.out.gr hg)
    have HN := hid hv
    replace HG := hid (HG.out.trans hg)
    clear hg hv
    by_cases h2 : e2 = 0
    · have HE2 := hid h2
      have hb : (e2 != 0) = false := by rw [h2]; rfl
      clear h2
      go_wp2_with fail
      refine (HPS.out HE2.out w3 _ (HT.out.gr HG.out) HN.out.an).mono ?_
      rintro e w4 ⟨rfl, hg⟩
      replace H1 := hid (H1.out.gr hg)
      replace HB := hid (HB.out.gr hg)
      replace HN := hid (HN.out.gr hg)
      replace HG := hid (HG.out.trans hg)
      clear hg
      go_wp2_with fail
      refine (awake_c w4 (HT.out.gr HG.out)).mono ?_
      rintro e w5 ⟨rfl, hg⟩
      replace H1 := hid (H1.out.gr hg)
      replace HB := hid (HB.out.gr hg)
      replace HN := hid (HN.out.gr hg)
      replace HG := hid (HG.out.trans hg)
      clear hg
      go_wp2
      go_ret
      exact ⟨rfl, HG.out⟩
    · have hb : (e2 != 0) = true := by rw [bne_iff_ne]; exact h2
      clear h2
      go_wp2_with fail
      refine (awake_c w3 (HT.out.gr HG.out)).mono ?_
      rintro e w4 ⟨rfl, hg⟩
      replace H1 := hid (H1.out.gr hg)
      replace HB := hid (HB.out.gr hg)
      replace HN := hid (HN.out.gr hg)
      replace HG := hid (HG.out.trans hg)
      clear hg
      go_wp2
      go_ret
      exact ⟨rfl, HG.out⟩
  · have hE : pErr D = 0 := by rw [hde, if_neg hlen]
    rw [hE, hcv hE] at HPP
    have h400 : (S.size : Int) ≤ 400 := by rw [hSz]; omega
    have h401 : ¬ (400 : Int) < S.size := by rw [hSz]; omega
    have HCA : Hid (∀ (V : World) (x y : Value), AN V x a 1048576 → AN V y a 1048576 → Calls Tryd.prog 25 #[x, y] V (Is V (.int .i64 0))) := fun V x y h1 h2 => by
      have h := cmp_c V x y a a 1048576 h1 h2 (by decide)
      rw [cmpN_eq rfl] at h
      exact h
    clear hE hde hdl hSz hcv hlen
    go_enter Tryd.func10, Tryd.ntmps10
    go_wp2_with fail
    refine (HPR.out W (HT.out.gr (Gr.refl _)) H1.out).mono ?_
    rintro e w1 ⟨rfl, hg⟩
    replace H1 := hid (H1.out.gr hg)
    have HG := hid hg
    clear hg
    go_wp2_with fail
    refine (HPP.out w1).mono ?_
    rintro e w2 ⟨v5, rfl, hv, hg⟩
    replace H1 := hid (H1.out.gr hg)
    have HB := hid hv
    replace HG := hid (HG.out.trans hg)
    clear hg hv
    go_wp2_with fail
    refine (HCA.out w2 _ _ H1.out (HB.out.le (by decide)).an).mono ?_
    rintro e w3 ⟨rfl, hg⟩
    replace H1 := hid (H1.out.gr hg)
    replace HB := hid (HB.out.gr hg)
    replace HG := hid (HG.out.trans hg)
    clear hg
    go_wp2_with fail
    refine (HP2.out w3).mono ?_
    rintro e w4 ⟨v2, rfl, hv, hg⟩
    replace H1 := hid (H1.out.gr hg)
    replace HB := hid (HB.out.gr hg)
    have HN := hid hv
    replace HG := hid (HG.out.trans hg)
    clear hg hv
    by_cases h2 : e2 = 0
    · have HE2 := hid h2
      have hb : (e2 != 0) = false := by rw [h2]; rfl
      clear h2
      go_wp2_with fail
      refine (HPS.out HE2.out w4 _ (HT.out.gr HG.out) HN.out.an).mono ?_
      rintro e w5 ⟨rfl, hg⟩
      replace H1 := hid (H1.out.gr hg)
      replace HB := hid (HB.out.gr hg)
      replace HN := hid (HN.out.gr hg)
      replace HG := hid (HG.out.trans hg)
      clear hg
      go_wp2_with fail
      refine (awake_c w5 (HT.out.gr HG.out)).mono ?_
      rintro e w6 ⟨rfl, hg⟩
      replace H1 := hid (H1.out.gr hg)
      replace HB := hid (HB.out.gr hg)
      replace HN := hid (HN.out.gr hg)
      replace HG := hid (HG.out.trans hg)
      clear hg
      go_wp2
      go_ret
      exact ⟨rfl, HG.out⟩
    · have hb : (e2 != 0) = true := by rw [bne_iff_ne]; exact h2
      clear h2
      go_wp2_with fail
      refine (awake_c w4 (HT.out.gr HG.out)).mono ?_
      rintro e w5 ⟨rfl, hg⟩
      replace H1 := hid (H1.out.gr hg)
      replace HB := hid (HB.out.gr hg)
      replace HN := hid (HN.out.gr hg)
      replace HG := hid (HG.out.trans hg)
      clear hg
      go_wp2
      go_ret
      exact ⟨rfl, HG.out⟩
end Go.Proofs.YtkbgdiejjabdmaaDoor
