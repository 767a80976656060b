/- The walk over frame.Seal. -/
import Derived.Test.YtjhhknkhgilecaaF0
import Derived.Deep.DeepCutAuto
import Derived.Deep.CutBlock
namespace Go.Proofs.Ytjhhknkhgilecaa.Fm
open Go.RowKit Lt
set_option linter.unusedVariables false
set_option linter.unusedSimpArgs false
theorem conv_brd {w W : World} {v : Value} {l : List UInt8} (h : BRd w v l) (hb : Below w.heap.size w W) : (convert 24 9 v).run Try.prog W = .ok (.string (bstr l)) W :=
  conv_rd (P := Try.prog) (h.below hb) 24 5 9 Try.underlying24 Try.underlying5 Try.underlying9
theorem bstr_data (l : List UInt8) : (bstr l).data.toList = l := by unfold bstr; simp
theorem slAt_one {w : World} {v : Value} {l : List UInt8} (h : BRd w v l) : Crc.SlAt (w.alloc (.cells #[v] 24)) (.slice (some ⟨w.heap.size, 0, none⟩) 1 1) [l] :=
  ⟨_, 1, rfl, fun i hi => by
    have : i = 0 := by simp at hi; omega
    subst this
    refine ⟨⟨w.heap.size, 0, none⟩, v, rfl, ?_, h.below (below_alloc1 _ _)⟩
    rw [add_plain, cell_block (alloc_at (w := w) _ rfl)]; rfl⟩
theorem crcOf {w : World} {v : Value} {l : List UInt8} (h : BRd w v l) (hl : l.length ≤ 140737488351232) :
    Calls Try.prog 95 #[.slice (some ⟨w.heap.size, 0, none⟩) 1 1] (w.alloc (.cells #[v] 24)) fun e w' => e = .returned (.int .u32 (Crc.crc l : Nat)) ∧ Below w.heap.size w w' := by
  have := Crc.of_ok _ [l] _ (slAt_one h) (by simpa [Crc.total] using hl) (by simp)
  rw [show [l].flatten = l by simp] at this
  exact this.mono fun e w' ⟨h1, h2⟩ => ⟨h1, (below_alloc1 _ _).trans (h2.mono (by simp))⟩
set_option maxHeartbeats 8000000 in
set_option maxRecDepth 100000 in
theorem seal_ok (k : Int) (s : StS) (v : Value) (t : List UInt8) (w : World) (hv : BRd w v t) (hl : t.length ≤ 140737488351232) (hk : -9223372036854775808 ≤ k ∧ k ≤ 9223372036854775807) (hs : s.fine) :
    Calls Try.prog 47 #[.int .i64 k, sv s, v] w fun e w' => ∃ x, e = .returned (.tuple #[x, .int .i64 (secE k s t.length)]) ∧ BRd w' x (if secE k s t.length = 0 then secB k s t else []) ∧ Below w.heap.size w w' := by
  obtain ⟨ER, hER⟩ : ∃ e, secE k s t.length = e := ⟨_, rfl⟩
  obtain ⟨BR, hBR⟩ : ∃ b, (if secE k s t.length = 0 then secB k s t else []) = b := ⟨_, rfl⟩
  rw [hBR, hER]
  rw [hER] at hBR
  unfold secE at hER
  have HR := Lib.hid (And.intro hER hBR); clear hER hBR
  have HV := Lib.hid hv
  obtain ⟨A, c, rfl, _, _, _⟩ := hv
  obtain ⟨k1, k2⟩ := hk
  obtain ⟨⟨s1, s2⟩, ⟨s3, s4⟩, s5, s6⟩ := hs
  have hg := alloc_at (w := w) (.cells #[.int .i64 s.ep, .int .i64 s.sq, .int .i64 s.pos] 32) rfl
  have hb0 := below_alloc1 w (.cells #[.int .i64 s.ep, .int .i64 s.sq, .int .i64 s.pos] 32)
  have HB0 := Lib.hid hb0; clear hb0
  go_enter Try.func47, Try.ntmps47
  go_upto_region 1 with (fail)
  generalize (w.alloc _) = w0 at *
  go_upto_region 7 with (first
    | (go_at_call 61; refine (new_w 256 _).mono ?_; rintro e w1 ⟨rfl, hO, hb⟩
       have hg := block_up hg hb
       obtain ⟨q0, q1, q2⟩ := cells3 hg
       clear hb)
    | (go_at_call 62; refine (OW.num (w0 := w0) (by assumption) _ _ (by omega) (by omega) (by decide) (by decide)).mono ?_; rintro e w3 ⟨rfl, hO, hK⟩
       have hg := hK.2 _ _ _ _ hg (by decide) (by decide)
       obtain ⟨q0, q1, q2⟩ := cells3 hg
       clear hK))
  have hO : OW w0 w3 w0.heap.size (sealS k s) := hO
  have HO := Lib.hid hO
  clear hO hg q0 q1 q2
  have hS := sealS_eq k s
  have hm : (sealS k s).made = true := by
    by_cases hb : bad k s
    · exact (hS.1 hb).2
    · rw [hS.2 hb]; rfl
  have HS := Lib.hid (And.intro hS hm); clear hS hm
  by_cases hn : 238 < t.length
  · have hd : decide ((238 : Int) < t.length) = true := decide_eq_true (by omega)
    by_cases hb : bad k s
    · have hE := (HS.out.1.1 hb).1
      have hr := HR.out
      rw [if_pos hb] at hr
      obtain ⟨r1, r2⟩ := hr
      rw [← r1, if_neg (by decide)] at r2
      subst r1 r2
      have HE := Lib.hid hE; clear hE hb HR
      go_wp2_with (go_at_call 63; refine (HO.out.done HS.out.2).mono ?_; rintro e w4 ⟨x, l, rfl, _, hx, hb⟩; rw [HE.out]; have H4 := Lib.hid (below_up HB0.out (below_up HO.out.bel hb)); clear hb hx)
      go_ret2
      exact ⟨_, rfl, brd_nil _, H4.out⟩
    · have hE : (sealS k s).err = 0 := by rw [HS.out.1.2 hb]; rfl
      have hr := HR.out
      rw [if_neg hb, if_pos hn] at hr
      obtain ⟨r1, r2⟩ := hr
      rw [← r1, if_neg (by decide)] at r2
      subst r1 r2
      have HE := Lib.hid hE; clear hE hb HR
      go_wp2_with (go_at_call 63; refine (HO.out.done HS.out.2).mono ?_; rintro e w4 ⟨x, l, rfl, _, hx, hb⟩; rw [HE.out]; have H4 := Lib.hid (below_up HB0.out (below_up HO.out.bel hb)); clear hb hx)
      go_ret2
      exact ⟨_, rfl, brd_nil _, H4.out⟩
  · have hd : decide ((238 : Int) < t.length) = false := decide_eq_false (by omega)
    go_wp2_with fail
    refine (HO.out.num (t.length : Nat) 1 (by omega) (by omega) (by decide) (by decide)).mono ?_; rintro e w4 ⟨rfl, hO, hK⟩
    have hcv := conv_brd HV.out (below_up HB0.out hO.bel)
    have H4 := Lib.hid hO; clear hO hK
    go_wp2_with fail
    refine (H4.out.text (bstr t) (by rw [bstr_size]; omega)).mono ?_; rintro e w5 ⟨rfl, hO, hK⟩
    rw [bstr_data] at hO
    have H5 := Lib.hid hO; clear hO hK hcv
    go_wp2_with fail
    refine (H5.out.pad 252 (by decide) (by decide)).mono ?_; rintro e w6 ⟨rfl, hO, hK⟩
    by_cases hb : bad k s
    · rw [sealF_bad t hb] at hO
      have hE := (HS.out.1.1 hb).1
      have hr := HR.out
      rw [if_pos hb] at hr
      obtain ⟨r1, r2⟩ := hr
      rw [← r1, if_neg (by decide)] at r2
      subst r1 r2
      have H6 := Lib.hid (And.intro hO hE); clear hO hE hb HR hK
      go_wp2_with (go_at_call 63; refine (H6.out.1.done HS.out.2).mono ?_; rintro e w7 ⟨x, l, rfl, _, hx, hb⟩; rw [H6.out.2]; have H7 := Lib.hid (below_up HB0.out (below_up H6.out.1.bel hb)); clear hb hx)
      go_ret2
      exact ⟨_, rfl, brd_nil _, H7.out⟩
    · have htl : t.length ≤ 238 := by omega
      rw [sealF_ok t hb htl] at hO
      have hr := HR.out
      rw [if_neg hb, if_neg hn] at hr
      obtain ⟨r1, r2⟩ := hr
      rw [← r1, if_pos rfl] at r2
      subst r1
      have hbl := body_len k s t htl
      have hse := sealE_ok (k := k) (s := s) t htl
      have hcl := crc_lt (body k s t)
      have hsl := secB_len k s t htl
      obtain ⟨B, hB⟩ : ∃ B, body k s t = B := ⟨_, rfl⟩
      rw [hB] at hO hbl hse hcl
      have H6 := Lib.hid (And.intro hO (And.intro r2 (And.intro hse (And.intro hbl hsl)))); clear hO r2 hse hb HR hK hB hbl hsl
      go_wp2_with fail
      refine (H6.out.1.done rfl).mono ?_; rintro e w7 ⟨x, l, rfl, hl2, hx, hb⟩
      rw [show (outOk 256 B).err = 0 from rfl] at *
      replace hl2 : l = B := hl2
      subst hl2
      have H7 := Lib.hid (And.intro hx (And.intro (H6.out.1.up hb) (below_up HB0.out (below_up H6.out.1.bel hb)))); clear hx hb
      obtain ⟨Ax, cx, rfl, _, _, _⟩ := id H7.out.1
      go_wp2_with fail
      refine (crcOf H7.out.1 (by have := H6.out.2.2.2.1; omega)).mono ?_; rintro e w8 ⟨rfl, hb⟩
      have H8 := Lib.hid (H7.out.2.1.up hb); clear hb
      generalize Crc.crc l = C at *
      go_wp2_with fail
      refine (H8.out.num (C : Nat) 4 (by omega) (by omega) (by decide) (by decide)).mono ?_; rintro e w9 ⟨rfl, hO, hK⟩
      rw [H6.out.2.2.1] at hO
      have H9 := Lib.hid hO; clear hO hK
      go_wp2_with (go_at_call 63; refine (H9.out.done rfl).mono ?_; rintro e w10 ⟨y, l2, rfl, hl3, hx, hb⟩; rw [show (outOk 256 (secB k s t)).err = 0 from rfl] at *; have H10 := Lib.hid (And.intro hl3 (And.intro hx (below_up HB0.out (below_up H9.out.bel hb)))); clear hl3 hx hb)
      go_ret2
      exact ⟨_, rfl, by have h1 : l2 = secB k s t := H10.out.1; have h2 := H10.out.2.1; rw [h1, H6.out.2.1] at h2; exact h2, H10.out.2.2⟩
end Go.Proofs.Ytjhhknkhgilecaa.Fm
