/- The walk over point.Get. -/
import Derived.Test.YtkjapmafipnmpaaPt
import Derived.Deep.DeepCutAuto
namespace Go.Proofs.Ytkjapmafipnmpaa.Pt
open Go.RowKit Lt
set_option linter.unusedVariables false
set_option linter.unusedSimpArgs false
structure RdP where
  p : PtS
  s : InS
def rdP (s : InS) : RdP :=
  let s1 := s.next 4
  let s2 := s1.next 4
  let s3 := s2.next 4
  let s4 := s3.next 1
  let n := getB (s3.got 1)
  ⟨⟨(getB (s.got 4) : Nat), getB (s1.got 4), getB (s2.got 4), bstr (s4.got n)⟩, s4.next n⟩
def RdP.ok (r : RdP) : Bool := decide (r.s.tells = 0 ∧ r.p.chk = 0)
def RdP.out (r : RdP) : PtS := if r.ok = true then r.p else PtS.zero
theorem got4_lt (s : InS) : getB (s.got (sz 4)) < 4294967296 := by
  have h1 := getB_lt (s.got (sz 4))
  have h2 := got_le s (sz 4)
  have h3 : 256 ^ (s.got (sz 4)).length ≤ 256 ^ 4 := Nat.pow_le_pow_right (by omega) h2
  omega
theorem got1_lt (s : InS) : getB (s.got (sz 1)) < 256 := by
  have h1 := getB_lt (s.got (sz 1))
  have h2 := got_le s (sz 1)
  have h3 : 256 ^ (s.got (sz 1)).length ≤ 256 ^ 1 := Nat.pow_le_pow_right (by omega) h2
  omega
theorem info_pt : (Try.prog.info? 53).map (·.size) = some 4 := by kernel_rfl
set_option maxHeartbeats 4000000 in
theorem pget_ok {w0 W : World} {q : Nat} {s : InS} (h : IW w0 W q s) (hl : s.b.length ≤ 9223372036854775807) :
    Calls Try.prog 32 #[.pointer (some ⟨q, 0, none⟩)] W fun e w' => e = .returned (.tuple #[pv (rdP s).out, .bool (rdP s).ok]) ∧ IW w0 w' q (rdP s).s ∧ KeepI W w' := by
  obtain ⟨R, hR⟩ : ∃ R, rdP s = R := ⟨_, rfl⟩
  rw [hR]
  have hb1 := next_len s 4
  have hb2 := next_len (s.next 4) 4
  have hb3 := next_len ((s.next 4).next 4) 4
  have hb4 := next_len (((s.next 4).next 4).next 4) 1
  have hz0 := alloc_at (w := W) (.cells #[.int .i64 0, .int .u32 0, .int .u32 0, .string ⟨#[]⟩] 53) rfl
  have hK0 := KeepI.of_below (below_alloc1 W (.cells #[.int .i64 0, .int .u32 0, .int .u32 0, .string ⟨#[]⟩] 53))
  have hI0 := h.up (below_alloc1 W (.cells #[.int .i64 0, .int .u32 0, .int .u32 0, .string ⟨#[]⟩] 53))
  have hge := h.bel.size
  have HR := Lib.hid (And.intro hR (And.intro hb1 (And.intro hb2 (And.intro hb3 hb4)))); clear hR hb1 hb2 hb3 hb4 h
  go_enter Try.func32, Try.ntmps32
  go_wp2_with fail
  refine (hI0.num 4 hl).mono ?_; rintro e w1 ⟨rfl, hI1, hK⟩
  have hz1 := hK.2 _ _ _ _ hz0 (by decide)
  have hK1 := hK0.trans hK
  have hn1 := got4_lt s
  obtain ⟨N1, e1⟩ : ∃ N : Nat, getB (s.got (sz 4)) = N := ⟨_, rfl⟩
  rw [e1] at hn1 ⊢
  have E1 := Lib.hid e1; clear e1 hI0 hz0 hK0 hK
  go_wp2_with fail
  refine (hI1.num 4 (by have := HR.out.2.1; show (s.next 4).b.length ≤ _; omega)).mono ?_; rintro e w2 ⟨rfl, hI2, hK⟩
  have hz2 := hK.2 _ _ _ _ hz1 (by decide)
  have hK2 := hK1.trans hK
  have hn2 := got4_lt (s.next (sz 4))
  obtain ⟨N2, e2⟩ : ∃ N : Nat, getB ((s.next (sz 4)).got (sz 4)) = N := ⟨_, rfl⟩
  rw [e2] at hn2 ⊢
  have E2 := Lib.hid e2; clear e2 hI1 hz1 hK1 hK
  go_wp2_with fail
  refine (hI2.num 4 (by have := HR.out; show ((s.next 4).next 4).b.length ≤ _; omega)).mono ?_; rintro e w3 ⟨rfl, hI3, hK⟩
  have hz3 := hK.2 _ _ _ _ hz2 (by decide)
  have hK3 := hK2.trans hK
  have hn3 := got4_lt ((s.next (sz 4)).next (sz 4))
  obtain ⟨N3, e3⟩ : ∃ N : Nat, getB (((s.next (sz 4)).next (sz 4)).got (sz 4)) = N := ⟨_, rfl⟩
  rw [e3] at hn3 ⊢
  have E3 := Lib.hid e3; clear e3 hI2 hz2 hK2 hK
  have hI3a := hI3.up (below_alloc1 w3 (.cells #[.int .i64 (N1 : Nat), .int .u32 (N2 : Nat), .int .u32 (N3 : Nat), .string ⟨#[]⟩] 53))
  have hz3a := alloc_old hz3 (.cells #[.int .i64 (N1 : Nat), .int .u32 (N2 : Nat), .int .u32 (N3 : Nat), .string ⟨#[]⟩] 53)
  have hK3a := hK3.trans (KeepI.of_below (below_alloc1 w3 (.cells #[.int .i64 (N1 : Nat), .int .u32 (N2 : Nat), .int .u32 (N3 : Nat), .string ⟨#[]⟩] 53)))
  have hp3 := alloc_at (w := w3) (.cells #[.int .i64 (N1 : Nat), .int .u32 (N2 : Nat), .int .u32 (N3 : Nat), .string ⟨#[]⟩] 53) rfl
  have hsz3 : W.heap.size < w3.heap.size := (Array.getElem?_eq_some_iff.1 hz3).1
  clear hI3 hz3 hK3
  go_wp2_with fail
  refine (hI3a.num 1 (by have := HR.out; show (((s.next 4).next 4).next 4).b.length ≤ _; omega)).mono ?_; rintro e w4 ⟨rfl, hI4, hK⟩
  have hz4 := hK.2 _ _ _ _ hz3a (by decide)
  have hp4 := hK.2 _ _ _ _ hp3 (by decide)
  have hK4 := hK3a.trans hK
  have hn4 := got1_lt (((s.next (sz 4)).next (sz 4)).next (sz 4))
  obtain ⟨N4, e4⟩ : ∃ N : Nat, getB ((((s.next (sz 4)).next (sz 4)).next (sz 4)).got (sz 1)) = N := ⟨_, rfl⟩
  rw [e4] at hn4 ⊢
  have E4 := Lib.hid e4; clear e4 hI3a hz3a hK3a hK hp3
  go_wp2_with fail
  refine (hI4.text (N4 : Nat) (by omega) (by have := HR.out; show ((((s.next 4).next 4).next 4).next 1).b.length ≤ _; omega)).mono ?_; rintro e w5 ⟨rfl, hI5, hK⟩
  rw [Int.toNat_natCast] at hI5 ⊢
  have hz5 := hK.2 _ _ _ _ hz4 (by decide)
  have hp5 := hK.2 _ _ _ _ hp4 (by decide)
  have hK5 := hK4.trans hK
  obtain ⟨D, eD⟩ : ∃ D : ByteArray, bstr (((((s.next (sz 4)).next (sz 4)).next (sz 4)).next (sz 1)).got N4) = D := ⟨_, rfl⟩
  obtain ⟨S, eS⟩ : ∃ S : InS, ((((s.next (sz 4)).next (sz 4)).next (sz 4)).next (sz 1)).next N4 = S := ⟨_, rfl⟩
  rw [eD]
  rw [eS] at hI5
  have hRR : R = ⟨⟨(N1 : Nat), N2, N3, D⟩, S⟩ := by
    rw [← HR.out.1, ← E1.out, ← E2.out, ← E3.out, ← eD, ← eS, ← E4.out]; rfl
  clear eD eS hI4 hz4 hK4 hK hp4 HR E1 E2 E3 E4
  subst hRR
  have c5 : w5.cell? ⟨w3.heap.size, 3, none⟩ = some (.string ⟨#[]⟩) := (by rw [cell_block hp5]; rfl)
  have f5 := free_block hp5 3
  have hF := fr_set w5 w3.heap.size 3 (.string D)
  have hIs := hI5.fr hF hp5 (by omega) (by decide) (by decide)
  have hzs := blk_fr hz5 hF (by omega)
  have hps := blk_set hp5 3 (.string D)
  have hKs := hK5.fr hF (Nat.le_of_lt hsz3)
  have HS' := Lib.hid (And.intro hIs (And.intro hzs (And.intro hps hKs))); clear hIs hzs hps hKs hK5 hz5 hp5 hI5 hF
  go_upto_region 3 with (fail)
  generalize (w5.setCell ⟨w3.heap.size, 3, none⟩ (.string D)) = ws at *
  have hps : ws.heap[w3.heap.size]? = some (.cells #[.int .i64 (N1 : Nat), .int .u32 (N2 : Nat), .int .u32 (N3 : Nat), .string D] 53 (0, 0)) := HS'.out.2.2.1
  have HS := Lib.hid (And.intro HS'.out.1 (And.intro HS'.out.2.1 (And.intro hps HS'.out.2.2.2)))
  clear HS' c5 f5
  obtain ⟨p0, p1, p2, p3⟩ := cells4 hps
  clear hps
  by_cases t0 : S.tells = 0
  · have e0 : (S.tells != 0) = false := by simp [t0]
    have e0' : (S.tells == 0) = true := by simp [t0]
    obtain ⟨c, hc⟩ : ∃ c, PtS.chk ⟨(N1 : Nat), N2, N3, D⟩ = c := ⟨_, rfl⟩
    by_cases t1 : c = 0
    · subst t1
      have hok : RdP.ok ⟨⟨(N1 : Nat), N2, N3, D⟩, S⟩ = true := decide_eq_true ⟨t0, hc⟩
      have HOK := Lib.hid (And.intro hok hc); clear hok hc t0
      go_wp2_with (first
        | (go_at_call 70; refine HS.out.1.err.mono ?_; rintro e w9 ⟨rfl, rfl⟩)
        | (go_at_call 28; refine (chkp_ok ⟨(N1 : Nat), N2, N3, D⟩ _).mono ?_; rintro e w9 ⟨rfl, hb⟩; rw [HOK.out.2]
           have hz9 := block_up HS.out.2.1 hb
           obtain ⟨p0, p1, p2, p3⟩ := cells4 (block_up HS.out.2.2.1 hb)
           have HC := Lib.hid (And.intro hz9 (And.intro (HS.out.1.up hb) (HS.out.2.2.2.trans (KeepI.of_below hb)))); clear hz9 hb)
        | (refine wpList_store_rowF rfl 53 _ _ rfl W.heap.size #[.int .i64 (N1 : Nat), .int .u32 (N2 : Nat), .int .u32 (N3 : Nat), .string D] rfl rfl 53 #[.int .i64 0, .int .u32 0, .int .u32 0, .string ⟨#[]⟩] HC.out.1 info_pt rfl (by simp [Value.oneCell']) ?_
           intro W9 hn9 hF9
           have hI9 := IW.fr HC.out.2.1 hF9 HC.out.1 (by omega) (by decide) (by decide)
           have hK9 := KeepI.fr HC.out.2.2 hF9 (Nat.le_refl _)
           have HF := Lib.hid (And.intro hn9 (And.intro hI9 hK9)); clear hn9 hF9 hI9 hK9))
      refine bodyPost_ret (v := .tuple #[.agg #[.int .i64 (N1 : Nat), .int .u32 (N2 : Nat), .int .u32 (N3 : Nat), .string D], .bool true]) (results_cell_tmp (p := 2) (t := 3) rfl _ _ W.heap.size _ _ (0, 0) _ rfl HF.out.1 Try.underlying53 rfl info_pt _ rfl) rfl ⟨?_, HF.out.2.1, HF.out.2.2⟩
      rw [RdP.out, HOK.out.1]; rfl
    · have hok : RdP.ok ⟨⟨(N1 : Nat), N2, N3, D⟩, S⟩ = false := decide_eq_false fun h => t1 (hc.symm.trans h.2)
      have e1 : (c != 0) = true := by simpa using t1
      have e1' : (c == 0) = false := by simpa using t1
      have HOK := Lib.hid (And.intro hok hc); clear hok hc t0 t1
      go_wp2_with (first
        | (go_at_call 70; refine HS.out.1.err.mono ?_; rintro e w9 ⟨rfl, rfl⟩)
        | (go_at_call 28; refine (chkp_ok ⟨(N1 : Nat), N2, N3, D⟩ _).mono ?_; rintro e w9 ⟨rfl, hb⟩; rw [HOK.out.2]
           have hz9 := block_up HS.out.2.1 hb
           obtain ⟨p0, p1, p2, p3⟩ := cells4 (block_up HS.out.2.2.1 hb)
           have HC := Lib.hid (And.intro hz9 (And.intro (HS.out.1.up hb) (HS.out.2.2.2.trans (KeepI.of_below hb)))); clear hz9 hb)
        | (refine wpList_store_rowF rfl 53 _ _ rfl W.heap.size #[.int .i64 0, .int .u32 0, .int .u32 0, .string ⟨#[]⟩] rfl rfl 53 #[.int .i64 0, .int .u32 0, .int .u32 0, .string ⟨#[]⟩] HC.out.1 info_pt rfl (by simp [Value.oneCell']) ?_
           intro W9 hn9 hF9
           have hI9 := IW.fr HC.out.2.1 hF9 HC.out.1 (by omega) (by decide) (by decide)
           have hK9 := KeepI.fr HC.out.2.2 hF9 (Nat.le_refl _)
           have HF := Lib.hid (And.intro hn9 (And.intro hI9 hK9)); clear hn9 hF9 hI9 hK9))
      refine bodyPost_ret (v := .tuple #[.agg #[.int .i64 0, .int .u32 0, .int .u32 0, .string ⟨#[]⟩], .bool false]) (results_cell_tmp (p := 2) (t := 3) rfl _ _ W.heap.size _ _ (0, 0) _ rfl HF.out.1 Try.underlying53 rfl info_pt _ rfl) rfl ⟨?_, HF.out.2.1, HF.out.2.2⟩
      rw [RdP.out, HOK.out.1]; rfl
  · have e0 : (S.tells != 0) = true := by simpa using t0
    have e0' : (S.tells == 0) = false := by simpa using t0
    have hok : RdP.ok ⟨⟨(N1 : Nat), N2, N3, D⟩, S⟩ = false := decide_eq_false fun h => t0 h.1
    have HOK := Lib.hid hok; clear hok t0
    have HSR := Lib.hid (And.intro HS.out.2.1 (And.intro HS.out.1 HS.out.2.2.2))
    go_wp2_with (first
      | (go_at_call 70; refine HS.out.1.err.mono ?_; rintro e w9 ⟨rfl, rfl⟩)
      | (go_at_call 28; refine (chkp_ok ⟨(N1 : Nat), N2, N3, D⟩ _).mono ?_; rintro e w9 ⟨rfl, hb⟩
         have hz9 := block_up HS.out.2.1 hb
         obtain ⟨p0, p1, p2, p3⟩ := cells4 (block_up HS.out.2.2.1 hb)
         have HC := Lib.hid (And.intro hz9 (And.intro (HS.out.1.up hb) (HS.out.2.2.2.trans (KeepI.of_below hb)))); clear hz9 hb)
      | (refine wpList_store_rowF rfl 53 _ _ rfl W.heap.size #[.int .i64 0, .int .u32 0, .int .u32 0, .string ⟨#[]⟩] rfl rfl 53 #[.int .i64 0, .int .u32 0, .int .u32 0, .string ⟨#[]⟩] HSR.out.1 info_pt rfl (by simp [Value.oneCell']) ?_
         intro W9 hn9 hF9
         have hI9 := IW.fr HSR.out.2.1 hF9 HSR.out.1 (by omega) (by decide) (by decide)
         have hK9 := KeepI.fr HSR.out.2.2 hF9 (Nat.le_refl _)
         have HF := Lib.hid (And.intro hn9 (And.intro hI9 hK9)); clear hn9 hF9 hI9 hK9))
    refine bodyPost_ret (v := .tuple #[.agg #[.int .i64 0, .int .u32 0, .int .u32 0, .string ⟨#[]⟩], .bool false]) (results_cell_tmp (p := 2) (t := 3) rfl _ _ W.heap.size _ _ (0, 0) _ rfl HF.out.1 Try.underlying53 rfl info_pt _ rfl) rfl ⟨?_, HF.out.2.1, HF.out.2.2⟩
    rw [RdP.out, HOK.out]; rfl
end Go.Proofs.Ytkjapmafipnmpaa.Pt
