/- The walk of the law RatioTexts. -/
import Derived.Test.YtkbgdiejjabdmaaLawB
import Derived.Test.YtkbgdiejjabdmaaRhC
import Derived.Deep.Cut
import Derived.Deep.RegionHeld3
namespace Go.Proofs.Ytkbgdiejjabdmaa
open Go.RowKit

set_option maxHeartbeats 8000000 in
theorem ratiotexts_law (W : World) (s : ByteArray) (m : Int) (hm : W.cell? ⟨0, 0, none⟩ = some (.int .i64 m)) :
    Calls Try.prog 9 #[.string s] W (Is W (.bool true)) := by
  by_cases hs : (2000 : Int) < s.size
  · clear hm
    go_enter Try.func9, Try.ntmps9
    go_wp2
    go_ret
    exact ⟨rfl, Gr.refl _⟩
  have hs2 : s.size ≤ 2000 := by omega
  obtain ⟨er, her⟩ : ∃ e, e = rErr s.data.toList := ⟨_, rfl⟩
  obtain ⟨R, hR⟩ : ∃ r, r = rVal s.data.toList := ⟨_, rfl⟩
  have HF1 : Hid (∀ V : World, Gr W V → Calls Try.prog 35 #[.string s] V (RetE V er fun v w' => VQ w' V.heap.size v R 400)) := fun V hV => by
    rw [her, hR]; exact rparse_c V s m hs2 (Gr.cell hV hm)
  have HF2 : Hid (∀ V : World, Calls Try.prog 36 #[.string s] V (RetE V er fun v w' => VQ w' V.heap.size v R 400)) := fun V => by
    rw [her, hR]; exact xrparse_c V s hs2
  have HS1 : Hid (∀ (V : World) (b1 b2 : Nat) (u v : Value), VQ V b1 u R 400 → VQ V b2 v R 400 → Calls Try.prog 12 #[u, v] V (Is V (.bool true))) := fun V b1 b2 u v h1 h2 => by
    have h := same_c V b1 b2 u v _ _ 400 h1 h2 (by decide)
    rw [decide_eq_true rfl] at h
    exact h
  have hee : (er == er) = true := by simp
  clear hm her hR hs2
  go_enter Try.func9, Try.ntmps9
  go_wp2_with fail
  refine (HF1.out W (Gr.refl _)).mono ?_
  rintro e w1 ⟨v1, rfl, hv, hg⟩
  obtain ⟨A8, l8, c8, B8, m8, e8, rfl, hv⟩ := hv.form
  obtain ⟨s8, hs'⟩ : ∃ b, b = decide (R.num < 0) := ⟨_, rfl⟩
  rw [← hs'] at hv ⊢
  clear hs'
  go_upto_region 4 with (fail)
  obtain ⟨W1, hW⟩ : ∃ V, V = w1.alloc (.cells #[.bool s8, .slice A8 l8 c8, .slice B8 m8 e8] 27) := ⟨_, rfl⟩
  obtain ⟨hgl, bl⟩ := al1 w1 #[.bool s8, .slice A8 l8 c8, .slice B8 m8 e8] 27
  rw [← hW] at hgl bl ⊢
  clear hW
  have HV8 := hid (hv.gr hgl)
  have HB8 := hid bl
  have HL8 := hid bl.lt
  have HG1 := hid (hg.trans hgl)
  clear hv hg hgl bl
  go_wp2_with fail
  refine (HF2.out W1).mono ?_
  rintro e w2 ⟨v2, rfl, hv, hg⟩
  obtain ⟨A9, l9, c9, B9, m9, e9, rfl, hv⟩ := hv.form
  obtain ⟨s9, hs'⟩ : ∃ b, b = decide (R.num < 0) := ⟨_, rfl⟩
  rw [← hs'] at hv ⊢
  clear hs'
  go_upto_region 5 with (fail)
  obtain ⟨W2, hW⟩ : ∃ V, V = w2.alloc (.cells #[.bool s9, .slice A9 l9 c9, .slice B9 m9 e9] 27) := ⟨_, rfl⟩
  obtain ⟨hgl, bl⟩ := al1 w2 #[.bool s9, .slice A9 l9 c9, .slice B9 m9 e9] 27
  rw [← hW] at hgl bl ⊢
  clear hW
  have HV9 := hid (hv.gr hgl)
  have HB9 := hid bl
  have HV8 := hid (HV8.out.gr (hg.trans hgl))
  have HB8 := hid (HB8.out.gr (hg.trans hgl))
  have HG2 := hid (HG1.out.trans (hg.trans hgl))
  clear hv hg hgl bl
  have g0 : W2.cell? ⟨w1.heap.size, 0, none⟩ = some (.bool s8) := HB8.out.c 0 rfl
  have g1 : W2.cell? ⟨w1.heap.size, 1, none⟩ = some (.slice A8 l8 c8) := HB8.out.c 1 rfl
  have g2 : W2.cell? ⟨w1.heap.size, 2, none⟩ = some (.slice B8 m8 e8) := HB8.out.c 2 rfl
  have h0 : W2.cell? ⟨w2.heap.size, 0, none⟩ = some (.bool s9) := HB9.out.c 0 rfl
  have h1 : W2.cell? ⟨w2.heap.size, 1, none⟩ = some (.slice A9 l9 c9) := HB9.out.c 1 rfl
  have h2 : W2.cell? ⟨w2.heap.size, 2, none⟩ = some (.slice B9 m9 e9) := HB9.out.c 2 rfl
  go_wp2_with fail
  refine (HS1.out W2 _ _ _ _ HV8.out HV9.out).mono ?_
  rintro e w3 ⟨rfl, hg⟩
  have HG3 := hid (HG2.out.trans hg)
  clear hg
  go_wp2
  go_ret
  exact ⟨rfl, HG3.out⟩
end Go.Proofs.Ytkbgdiejjabdmaa
