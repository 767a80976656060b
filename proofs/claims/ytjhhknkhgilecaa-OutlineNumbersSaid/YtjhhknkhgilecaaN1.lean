/- The walk over outline.Number. -/
import Derived.Test.YtjhhknkhgilecaaN0
import Derived.Test.YtjhhknkhgilecaaLittle
import Derived.Deep.DeepCutAuto
import Derived.Deep.CutBlock
namespace Go.Proofs.Ytjhhknkhgilecaa.Ou
open Go.RowKit Lt
set_option linter.unusedVariables false
set_option linter.unusedSimpArgs false
set_option maxHeartbeats 4000000 in
set_option maxRecDepth 100000 in
theorem number_ok (n : Int) (w : World) (hn : -9223372036854775808 ≤ n ∧ n ≤ 9223372036854775807) :
    Calls Try.prog 17 #[.int .i64 n] w fun e w' => e = .returned (.string (bstr (dec n))) ∧ Below w.heap.size w w' := by
  have hlen := dec_len hn
  obtain ⟨S, hS⟩ : ∃ s, bstr (dec n) = s := ⟨_, rfl⟩
  rw [hS]
  have HS := Lib.hid (And.intro hS hlen); clear hS hlen
  obtain ⟨U, hU⟩ : ∃ u, n.natAbs = u := ⟨_, rfl⟩
  have hUb : (U : Int) ≤ 9223372036854775808 := by omega
  have HU := Lib.hid (And.intro hU hUb); clear hU hUb
  go_enter Try.func17, Try.ntmps17
  go_upto_if 9 with (fail)
  go_cut [3] (fun v3 wx => v3 = .int .u64 (U : Nat) ∧ wx = w)
  case first =>
    by_cases h : n < 0
    · have e := wrapN hn h
      rw [HU.out.1] at e
      have HE := Lib.hid e; clear e
      go_wp2
      go_meet
      case rel => exact ⟨by rw [HE.out], rfl⟩
    · have e := wrapP hn h
      rw [HU.out.1] at e
      have HE := Lib.hid e; clear e
      go_wp2
      go_meet
      case rel => exact ⟨by rw [HE.out], rfl⟩
  case rest =>
  obtain ⟨rfl, hw⟩ := hcut
  replace hw := hw.symm; subst hw
  have HN := Lib.hid hn; clear hn
  go_wp2_with fail
  go_loopw [3, 4] (fun v3 v4 W => ∃ (m : Nat) (bs : List UInt8), v3 = .int .u64 (m : Nat) ∧ m < 18446744073709551616 ∧ W.ownsRow w.heap.size 5 1 v4 bs.length (bv bs) ∧ dgs m ++ bs = dgs U ∧ Below w.heap.size w W) (fun v3 _ _ => (intOf v3).toNat)
  case atStart => exact ⟨U, [], rfl, by have := HU.out.2; omega, World.ownsRow_nil _ _ _ _, List.append_nil _, Below.refl _ _⟩
  obtain ⟨m, bs, rfl, hm, hown, heq, hbel⟩ := hrel
  obtain ⟨A4, c4, rfl, hle, _, hrd, _⟩ := own_rd hown
  have hbl : bs.length ≤ 20 := by
    have h1 := dgs_20 (n := U) (by have := HU.out.2; omega)
    rw [← heq, List.length_append] at h1; omega
  have HR := Lib.hid (And.intro hrd (And.intro heq (And.intro hbel hbl))); clear hown hrd heq hbel hle
  have HM := Lib.hid hm; clear hm
  by_cases hlt : m < 10
  · have d : decide ((10 : Int) ≤ (m : Nat)) = false := decide_eq_false (by omega)
    have ho := own_new wr w.heap.size 5 1 1 #[.int .u8 (48 + (m : Int))] HR.out.2.2.1.size (by decide) rfl
    rw [show (#[Value.int .u8 (48 + (m : Int))] : Array Value).toList = bv [UInt8.ofNat (48 + m)] from by unfold bv; simp; omega] at ho
    have HO := Lib.hid ho; clear ho
    have heq := HR.out.2.1
    rw [dgs_small hlt] at heq
    have HQ := Lib.hid heq; clear heq
    have hlU := dgs_20 (n := U) (by have := HU.out.2; omega)
    have hsz := bstr_size (dgs U)
    have hS := HS.out.1
    unfold dec at hS
    rw [HU.out.1] at hS
    obtain ⟨sA, hsA⟩ : ∃ s, bstr (dgs U) = s := ⟨_, rfl⟩
    rw [hsA] at hsz
    have HSA := Lib.hid (And.intro hsA hS); clear hsA hS
    by_cases h : n < 0
    · have z1 : ¬ 9223372036854775807 < 1 + sA.size := by omega
      have z2 : ¬ 9223372036854775807 < (ByteArray.mk #[45]).size + sA.size := by show ¬ _ < 1 + sA.size; omega
      have hS := HSA.out.2
      rw [if_pos h, show (45 :: dgs U) = [45] ++ dgs U from rfl, bstr_append, HSA.out.1, show bstr [45] = ByteArray.mk #[45] from rfl] at hS
      have HF := Lib.hid hS; clear hS hsz hlU
      go_wp2_with (at_builtin; refine wpList_app rfl _ _ 24 rfl w.heap.size 5 (.int .u8 0) 1 1 Try.underlying24 info_u8 rfl (by decide) (by decide) (.slice (some ⟨wr.heap.size, 0, none⟩) 1 1) 1 (bv [UInt8.ofNat (48 + m)]) rfl A4 bs.length c4 (bv bs) rfl HO.out (by rw [bv_length, Nat.mul_one]) (HR.out.1.below (below_alloc1 _ _)) (bv_one _) (by have := HR.out.2.2.2; omega) (below_up HR.out.2.2.1 (below_alloc1 _ _)).size ?_
                   intro A6 c6 w6 hown hgrow _
                   rw [← bv_append] at hown
                   have hb6 := below_grown (below_up HR.out.2.2.1 (below_alloc1 _ _)) hgrow (fun k e => own_base HO.out k e)
                   have H7 := Lib.hid (And.intro hown hb6); clear hown hb6 hgrow
                   have hcv := conv_rd (P := Try.prog) (brd_own H7.out.1) 24 5 9 Try.underlying24 Try.underlying5 Try.underlying9
                   rw [HQ.out, HSA.out.1] at hcv
                   skip)
      go_ret
      exact ⟨by rw [← HF.out]; rfl, H7.out.2⟩
    · have hS := HSA.out.2
      rw [if_neg h, HSA.out.1] at hS
      have HF := Lib.hid hS; clear hS hsz hlU
      go_wp2_with (at_builtin; refine wpList_app rfl _ _ 24 rfl w.heap.size 5 (.int .u8 0) 1 1 Try.underlying24 info_u8 rfl (by decide) (by decide) (.slice (some ⟨wr.heap.size, 0, none⟩) 1 1) 1 (bv [UInt8.ofNat (48 + m)]) rfl A4 bs.length c4 (bv bs) rfl HO.out (by rw [bv_length, Nat.mul_one]) (HR.out.1.below (below_alloc1 _ _)) (bv_one _) (by have := HR.out.2.2.2; omega) (below_up HR.out.2.2.1 (below_alloc1 _ _)).size ?_
                   intro A6 c6 w6 hown hgrow _
                   rw [← bv_append] at hown
                   have hb6 := below_grown (below_up HR.out.2.2.1 (below_alloc1 _ _)) hgrow (fun k e => own_base HO.out k e)
                   have H7 := Lib.hid (And.intro hown hb6); clear hown hb6 hgrow
                   have hcv := conv_rd (P := Try.prog) (brd_own H7.out.1) 24 5 9 Try.underlying24 Try.underlying5 Try.underlying9
                   rw [HQ.out, HSA.out.1] at hcv
                   skip)
      go_ret
      exact ⟨by rw [← HF.out]; rfl, H7.out.2⟩
  · have d : decide ((10 : Int) ≤ (m : Nat)) = true := decide_eq_true (by omega)
    have ho := own_new wr w.heap.size 5 1 1 #[.int .u8 (48 + (m : Int) % 10)] HR.out.2.2.1.size (by decide) rfl
    rw [show (#[Value.int .u8 (48 + (m : Int) % 10)] : Array Value).toList = bv [UInt8.ofNat (48 + m % 10)] from by unfold bv; simp; omega] at ho
    have HO := Lib.hid ho; clear ho
    have hw : IntKind.u64.wrap ((m : Int) / 10) = (m : Int) / 10 := by rw [IntKind.wrap_u64]; have := HM.out; omega
    have heq := HR.out.2.1
    rw [dgs_big hlt, List.append_assoc] at heq
    have HQ := Lib.hid heq; clear heq
    go_wp2_with (at_builtin; refine wpList_app rfl _ _ 24 rfl w.heap.size 5 (.int .u8 0) 1 1 Try.underlying24 info_u8 rfl (by decide) (by decide) (.slice (some ⟨wr.heap.size, 0, none⟩) 1 1) 1 (bv [UInt8.ofNat (48 + m % 10)]) rfl A4 bs.length c4 (bv bs) rfl HO.out (by rw [bv_length, Nat.mul_one]) (HR.out.1.below (below_alloc1 _ _)) (bv_one _) (by have := HR.out.2.2.2; omega) (below_up HR.out.2.2.1 (below_alloc1 _ _)).size ?_
                 intro A6 c6 w6 hown hgrow _
                 rw [← bv_append] at hown
                 have hb6 := below_grown (below_up HR.out.2.2.1 (below_alloc1 _ _)) hgrow (fun k e => own_base HO.out k e)
                 have H7 := Lib.hid (And.intro hown hb6); clear hown hb6 hgrow
                 skip)
    have hm := HM.out
    exact ⟨⟨m / 10, [UInt8.ofNat (48 + m % 10)] ++ bs, by simp, by omega, by rw [List.length_append]; exact H7.out.1, HQ.out, H7.out.2⟩, by simp [intOf]; omega⟩
end Go.Proofs.Ytjhhknkhgilecaa.Ou
