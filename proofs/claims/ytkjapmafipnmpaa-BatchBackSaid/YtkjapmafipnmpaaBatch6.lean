/- The walk over batch.Read. -/
import Derived.Test.YtkjapmafipnmpaaBatch5
import Derived.Deep.RegionLaw
import Derived.Test.YtkjapmafipnmpaaArr
namespace Go.Proofs.Ytkjapmafipnmpaa.Bt
open Go.RowKit Lt
set_option linter.unusedVariables false
set_option linter.unusedSimpArgs false
theorem info_ent : (Try.prog.info? 76).map (fun i => (i.zero, i.size, i.bytes)) = some (some (.agg #[.int .i64 0, .int .i64 0]), 2, 16) := by kernel_rfl
theorem info_sum : (Try.prog.info? 73).map (·.size) = some 3 := by kernel_rfl
theorem KeepI.own {W W' : World} (h : KeepI W W') {base n : Nat} {v : Value} {xs : List Value} (ho : W.ownsRow base 76 2 v n xs) : W'.ownsRow base 76 2 v n xs :=
  own_move ho fun k hk => by
    obtain ⟨cells, hc⟩ := own_typed ho k hk
    rw [hc, h.2 _ _ _ _ hc (by decide)]
def rdVal (b : List UInt8) : Int × Bool × List EntS × Int := if (rdAll b).good = true then ((rdAll b).n, decide ((rdAll b).la = 1), (rdAll b).l, 0) else (0, false, [], 16)
set_option maxHeartbeats 8000000 in
set_option maxRecDepth 100000 in
theorem read_ok (v : Value) (b : List UInt8) (w : World) (hv : BRd w v b) (hl : b.length ≤ 140737488355328) :
    Calls Try.prog 43 #[v] w fun e w' => ∃ vs, e = .returned (.tuple #[.agg #[.int .i64 (rdVal b).1, .bool (rdVal b).2.1, vs], .int .i64 (rdVal b).2.2.2]) ∧ ERd w' vs (rdVal b).2.2.1 ∧ Below w.heap.size w w' := by
  obtain ⟨R, hR⟩ : ∃ R, rdVal b = R := ⟨_, rfl⟩
  rw [hR]
  have HV := Lib.hid (And.intro hv hR); clear hR
  obtain ⟨A0, c0, rfl, _, _⟩ := hv
  have hb0 := next_len (inOk b) 1
  have hb1 := next_len ((inOk b).next 1) 1
  have hb2 := next_len (((inOk b).next 1).next 1) 1
  have hbb : (inOk b).b.length = b.length := rfl
  have HBL := Lib.hid (And.intro hbb (And.intro hb0 (And.intro hb1 hb2))); clear hbb hb0 hb1 hb2
  go_enter Try.func43, Try.ntmps43
  go_wp2_with fail
  have hzb := alloc_at (w := w) (.cells #[.int .i64 0, .bool false, .slice none 0 0] 73) rfl
  have hbz := below_alloc1 w (.cells #[.int .i64 0, .bool false, .slice none 0 0] 73)
  have hvz := HV.out.1.below hbz
  generalize (w.alloc (.cells #[.int .i64 0, .bool false, .slice none 0 0] 73)) = w1 at *
  have HZ := Lib.hid (And.intro hzb (And.intro hbz hvz)); clear hzb hbz hvz
  refine (open_w _ b w1 HZ.out.2.2 hl).mono ?_; rintro e w2 ⟨p, rfl, hI, hb2⟩
  have hI0 : IW w1 w2 p (inOk b) := hI
  clear hI hb2
  go_wp2_with fail
  refine (hI0.num 1 (by have := HBL.out; omega)).mono ?_; rintro e w3 ⟨rfl, hI1, hK⟩
  obtain ⟨N, hN⟩ : ∃ N : Int, ((getB ((inOk b).got (sz 1)) : Nat) : Int) = N := ⟨_, rfl⟩
  rw [hN]
  have HN := Lib.hid hN; clear hN hK
  have hsl : w1.heap.size ≤ w3.heap.size := hI1.bel.size
  go_wp2_with fail
  have hI1 := hI1.up (below_alloc1 w3 (.cells #[.int .i64 N, .bool false, .slice none 0 0] 73))
  have hsB := alloc_at (w := w3) (.cells #[.int .i64 N, .bool false, .slice none 0 0] 73) rfl
  generalize (w3.alloc (.cells #[.int .i64 N, .bool false, .slice none 0 0] 73)) = w4 at *
  generalize w3.heap.size = sB at *
  refine (hI1.num 1 (by have := HBL.out; show ((inOk b).next 1).b.length ≤ _; omega)).mono ?_; rintro e w5 ⟨rfl, hI2, hK⟩
  have hsB := hK.2 _ _ _ _ hsB (by decide)
  obtain ⟨L, hL⟩ : ∃ L : Int, ((getB (((inOk b).next (sz 1)).got (sz 1)) : Nat) : Int) = L := ⟨_, rfl⟩
  rw [hL]
  have HL := Lib.hid hL; clear hL hK
  have hcB : w5.cell? ⟨sB, 1, none⟩ = some (.bool false) := (cells3 hsB).2.1
  have hfB : w5.frozen? ⟨sB, 1, none⟩ = false := free_block hsB 1
  have hI2s := hI2.set (q := ⟨sB, 1, none⟩) hsB hsl (by decide) (by decide) (.bool (L == 1))
  have hsBs : (w5.setCell ⟨sB, 1, none⟩ (.bool (L == 1))).heap[sB]? = some (.cells #[.int .i64 N, .bool (L == 1), .slice none 0 0] 73 (0, 0)) := blk_set hsB 1 _
  have HBS := Lib.hid (And.intro hI2s hsBs); clear hI2s hsBs hI2 hI1 hI0 hsB
  go_wp2_with fail
  refine (HBS.out.1.num 1 (by have := HBL.out; show (((inOk b).next 1).next 1).b.length ≤ _; omega)).mono ?_; rintro e w6 ⟨rfl, hI3, hK⟩
  have hsB := hK.2 _ _ _ _ HBS.out.2 (by decide)
  have hCle : getB ((((inOk b).next (sz 1)).next (sz 1)).got (sz 1)) ≤ 255 := by
    have h1 := getB_lt ((((inOk b).next (sz 1)).next (sz 1)).got (sz 1))
    have h2 := got_le (((inOk b).next (sz 1)).next (sz 1)) (sz 1)
    have h3 : 256 ^ ((((inOk b).next (sz 1)).next (sz 1)).got (sz 1)).length ≤ 256 ^ 1 := Nat.pow_le_pow_right (by omega) h2
    omega
  obtain ⟨C, hC⟩ : ∃ C : Nat, getB ((((inOk b).next (sz 1)).next (sz 1)).got (sz 1)) = C := ⟨_, rfl⟩
  obtain ⟨S3, hS3⟩ : ∃ S : InS, (((inOk b).next (sz 1)).next (sz 1)).next (sz 1) = S := ⟨_, rfl⟩
  rw [hS3] at hI3
  rw [hC] at hCle ⊢
  have hS3l : S3.b.length ≤ b.length := by rw [← hS3]; have := HBL.out; show ((((inOk b).next 1).next 1).next 1).b.length ≤ _; omega
  have hall : rdAll b = ⟨N, L, (rdEs S3 C).2, (rdEs S3 C).1⟩ := by
    unfold rdAll
    rw [← HN.out, ← HL.out, ← hC, ← hS3]
    rfl
  have HALL := Lib.hid (And.intro hall hS3l); clear hall hC hS3 hK hcB hfB
  go_wp2_with fail
  go_loopw [19] (fun vi W => ∃ (k : Nat) (vs : Value), k ≤ C ∧ vi = .int .i64 k ∧ IW w1 W p (rdEs S3 k).1 ∧ W.heap[sB]? = some (.cells #[.int .i64 N, .bool (L == 1), vs] 73 (0, 0)) ∧ W.ownsRow w1.heap.size 76 2 vs k ((rdEs S3 k).2.flatMap EntS.cells)) (fun vi _ => C - (intOf vi).toNat)
  case atStart => exact ⟨0, _, by omega, rfl, hI3, hsB, ⟨rfl, .inl ⟨rfl, rfl⟩⟩⟩
  clear hI3 hsB
  obtain ⟨k, vs, hk, rfl, hI, hsB, hown⟩ := hrel
  obtain ⟨Av, cv, rfl, _, _, _, _⟩ := own_rd hown
  have hkb := rdEs_ble S3 k
  by_cases hlt : k < C
  · have d : decide ((k : Int) < C) = true := decide_eq_true (by omega)
    have hId := hI.up below_drew1
    have hsBd : wr.drew.heap[sB]? = _ := hsB
    have hod := own_below hown below_drew1
    have q2 := (cells3 hsBd).2.2
    obtain ⟨E1, hE1⟩ : ∃ E1 : Nat, getB ((rdEs S3 k).1.got (sz 1)) = E1 := ⟨_, rfl⟩
    obtain ⟨E2, hE2⟩ : ∃ E2 : Nat, getB (((rdEs S3 k).1.next (sz 1)).got (sz 1)) = E2 := ⟨_, rfl⟩
    have hsucc : rdEs S3 (k + 1) = (((rdEs S3 k).1.next (sz 1)).next (sz 1), (rdEs S3 k).2 ++ [⟨E1, E2⟩]) := by rw [← hE1, ← hE2]; rfl
    have HE := Lib.hid (And.intro hE1 hE2); clear hE1 hE2
    have HS := Lib.hid (And.intro hsBd (And.intro hod (And.intro hsucc hkb))); clear hsBd hod hsucc hown hsB hI hkb
    have tok1 : True := trivial
    go_wp2_with fail
    go_region_law (first
      | (refine step_app rfl _ _ 71 rfl w1.heap.size 76 (.agg #[.int .i64 0, .int .i64 0]) 2 16 Try.underlying71 info_ent rfl (by decide) (by decide) (.slice Av k cv) k ((rdEs S3 k).2.flatMap EntS.cells) rfl (some ⟨w8.heap.size, 0, none⟩) 1 1 ([(⟨(E1 : Int), (E2 : Int)⟩ : EntS)].flatMap EntS.cells) rfl HB.out.1 rfl (rd_one w8 _ _ _ rfl) (flat_one EntS.cells_one _) (by omega) HB.out.2.2.2 ?_
         intro A5 c5 w9 hown hgrow hat
         have hI9 := IW.grown HB.out.2.1.1 HB.out.1 hgrow (Nat.le_refl _) (by decide) (by decide)
         have hs9 := (hgrow.block sB (Array.getElem?_eq_some_iff.1 HB.out.2.1.2).1 (fun e => own_ne_block HB.out.1 HB.out.2.1.2 (by decide) e.symm)).trans HB.out.2.1.2
         have q2 := (cells3 hs9).2.2
         have f2 := free_block hs9 2
         have hI9s := hI9.set (q := ⟨sB, 2, none⟩) hs9 hsl (by decide) (by decide) (.slice A5 (k + 1) c5)
         have hs9s : (w9.setCell ⟨sB, 2, none⟩ (.slice A5 (k + 1) c5)).heap[sB]? = some (.cells #[.int .i64 N, .bool (L == 1), .slice A5 (k + 1) c5] 73 (0, 0)) := blk_set hs9 2 _
         have ho9s := own_set hown (p := ⟨sB, 2, none⟩) (own_ne_block hown hs9 (by decide)) (.slice A5 (k + 1) c5)
         have H9 := Lib.hid (And.intro hI9s (And.intro hs9s ho9s)); clear hI9s hs9s ho9s hown hgrow hat hI9 hs9)
      | (go_simp; go_at_call 68; have _t := tok1; refine (hId.num 1 (by have := HS.out.2.2.2; have := HALL.out.2; omega)).mono ?_; rintro e w7 ⟨rfl, hI7, hK⟩; clear tok1 hId
         rw [HE.out.1]
         have hs7 := hK.2 _ _ _ _ HS.out.1 (by decide)
         have q2 := (cells3 hs7).2.2
         have H7 := Lib.hid (And.intro hs7 (KeepI.own hK HS.out.2.1)); clear hs7 hK
         dsimp only)
      | (go_simp; go_at_call 68; refine (hI7.num 1 (by have := HS.out.2.2.2; have := HALL.out.2; have := next_len (rdEs S3 k).1 (sz 1); omega)).mono ?_; rintro e w8 ⟨rfl, hI8, hK⟩; clear hI7
         rw [HE.out.2]
         have hs8 := hK.2 _ _ _ _ H7.out.1 (by decide)
         have q2 := (cells3 hs8).2.2
         have q2b := cell_alloc q2 (.cells #[.int .i64 (E1 : Int), .int .i64 (E2 : Int)] 76)
         have ho8 := KeepI.own hK H7.out.2
         have HB := Lib.hid (And.intro (own_below ho8 (below_alloc1 w8 (.cells #[.int .i64 (E1 : Int), .int .i64 (E2 : Int)] 76))) (And.intro (And.intro (hI8.up (below_alloc1 w8 (.cells #[.int .i64 (E1 : Int), .int .i64 (E2 : Int)] 76))) (alloc_old hs8 (.cells #[.int .i64 (E1 : Int), .int .i64 (E2 : Int)] 76))) (And.intro True.intro (Nat.le_trans hI8.bel.size (by simp : w8.heap.size ≤ (w8.alloc (.cells #[.int .i64 (E1 : Int), .int .i64 (E2 : Int)] 76)).heap.size)))))
         clear hs8 hK hI8 ho8
         dsimp only))
    all_goals
      go_wp2
      exact ⟨⟨k + 1, _, by omega, by simp, by rw [HS.out.2.2.1]; exact H9.out.1, H9.out.2.1, by rw [HS.out.2.2.1, List.flatMap_append]; exact H9.out.2.2⟩, by simp [intOf]; omega⟩
  · have hkl : k = C := by omega
    subst hkl
    have d : decide ((k : Int) < k) = false := decide_eq_false (by omega)
    obtain ⟨q0, q1, q2⟩ := cells3 hsB
    have hrd := srd_own EntS.cells_len (by decide) hown
    have how := hown
    obtain ⟨st, hst⟩ : ∃ st, (rdEs S3 k).1 = st := ⟨_, rfl⟩
    obtain ⟨el, hel⟩ : ∃ el, (rdEs S3 k).2 = el := ⟨_, rfl⟩
    have hg : (rdAll b).good = decide (st.tells = 0 ∧ st.b.length = 0 ∧ L ≤ 1 ∧ chkSum N el = 0) := by rw [HALL.out.1, ← hst, ← hel]; rfl
    have hv0 : (rdAll b).n = N ∧ (rdAll b).la = L ∧ (rdAll b).l = el := by rw [HALL.out.1, ← hel]; exact ⟨rfl, rfl, rfl⟩
    have hlen := rdEs_len S3 k
    rw [hst] at hI hkb
    rw [hel] at hrd hlen how
    have HOW := Lib.hid how; clear how
    have hz1 := block_up HZ.out.1 hI.bel
    have hRR := HV.out.2
    unfold rdVal at hRR
    rw [hg, hv0.1, hv0.2.1, hv0.2.2] at hRR
    have HSB := Lib.hid hsB
    have HR := Lib.hid (And.intro hRR (And.intro hrd (And.intro hz1 (below_up HZ.out.2.1 hI.bel)))); clear hRR hrd hz1 hg hv0 hown hst hel hsB
    by_cases t0 : st.tells = 0
    · have e0 : (st.tells != 0) = false := by simp [t0]
      have e0' : (st.tells == 0) = true := by simp [t0]
      by_cases t1 : st.b.length = 0
      · have p1 : ¬ 0 < st.b.length := by omega
        by_cases t2 : L ≤ 1
        · have p2 : ¬ 1 < L := by omega
          by_cases t3 : chkSum N el = 0
          · have hR : R = (N, decide (L = 1), el, 0) := by rw [← HR.out.1, if_pos (by rw [decide_eq_true_iff]; exact ⟨t0, t1, t2, t3⟩)]
            subst hR
            have HT := Lib.hid (And.intro t0 (And.intro t1 t3)); clear t0 t1
            go_wp2_with (first
              | (go_at_call 70; refine hI.err.mono ?_; rintro e w9 ⟨rfl, rfl⟩)
              | (go_at_call 34; refine hI.left.mono ?_; rintro e w9 ⟨rfl, rfl⟩)
              | (go_at_call 39; refine (check_ok N (L == 1) _ el _ HR.out.2.1 (by omega)).mono ?_; rintro e w9 ⟨rfl, hb⟩; rw [HT.out.2.2]
                 have hz9 := block_up HR.out.2.2.1 hb
                 have hs9 := And.intro (HR.out.2.1.below hb) (own_below HOW.out hb)
                 obtain ⟨q0, q1, q2⟩ := cells3 (block_up HSB.out hb)
                 have HC := Lib.hid (And.intro hz9 (And.intro hs9 (below_up HR.out.2.2.2 hb))); clear hz9 hs9 hb)
              | (refine wpList_store_rowF rfl 73 _ _ rfl w.heap.size #[.int .i64 N, .bool (L == 1), .slice Av k cv] rfl rfl 73 #[.int .i64 0, .bool false, .slice none 0 0] HC.out.1 info_sum rfl (by simp [Value.oneCell']) ?_
                 intro W9 hn9 hF9
                 have HF := Lib.hid (And.intro hn9 (And.intro (HC.out.2.2.trans (hF9.toBelow (fun k hk => by omega) HC.out.2.2.size)) (srd_own EntS.cells_len (by decide) (own_fr HC.out.2.1.2 hF9 (fun kk hkk e => own_ne_block HC.out.2.1.2 HC.out.1 (by decide) (by rw [hkk, e])))))); clear hn9 hF9))
            refine bodyPost_ret (v := .tuple #[.agg #[.int .i64 N, .bool (L == 1), .slice Av k cv], .int .i64 0]) (results_cell_tmp (p := 2) (t := 3) rfl _ _ w.heap.size _ _ (0, 0) _ rfl HF.out.1 Try.underlying73 rfl info_sum _ rfl) rfl ⟨_, rfl, ?_, HF.out.2.1⟩
            exact HF.out.2.2
          · have e3 : (chkSum N el != 0) = true := by simpa using t3
            have e3' : (chkSum N el == 0) = false := by simpa using t3
            have hR : R = (0, false, [], 16) := by rw [← HR.out.1, if_neg (by rw [decide_eq_true_iff]; exact fun h => t3 h.2.2.2)]
            subst hR
            go_wp2_with (first
              | (go_at_call 70; refine hI.err.mono ?_; rintro e w9 ⟨rfl, rfl⟩)
              | (go_at_call 34; refine hI.left.mono ?_; rintro e w9 ⟨rfl, rfl⟩)
              | (go_at_call 39; refine (check_ok N (L == 1) _ el _ HR.out.2.1 (by omega)).mono ?_; rintro e w9 ⟨rfl, hb⟩
                 have hz9 := block_up HR.out.2.2.1 hb
                 have hs9 := And.intro (HR.out.2.1.below hb) (own_below HOW.out hb)
                 obtain ⟨q0, q1, q2⟩ := cells3 (block_up HSB.out hb)
                 have HC := Lib.hid (And.intro hz9 (And.intro hs9 (below_up HR.out.2.2.2 hb))); clear hz9 hs9 hb)
              | (refine wpList_store_rowF rfl 73 _ _ rfl w.heap.size #[.int .i64 0, .bool false, .slice none 0 0] rfl rfl 73 #[.int .i64 0, .bool false, .slice none 0 0] HC.out.1 info_sum rfl (by simp [Value.oneCell']) ?_
                 intro W9 hn9 hF9
                 have HF := Lib.hid (And.intro hn9 (And.intro (HC.out.2.2.trans (hF9.toBelow (fun k hk => by omega) HC.out.2.2.size)) (hF9))); clear hn9 hF9))
            refine bodyPost_ret (v := .tuple #[.agg #[.int .i64 0, .bool false, .slice none 0 0], .int .i64 16]) (results_cell_tmp (p := 2) (t := 3) rfl _ _ w.heap.size _ _ (0, 0) _ rfl HF.out.1 Try.underlying73 rfl info_sum _ rfl) rfl ⟨_, rfl, ?_, HF.out.2.1⟩
            exact srd_nil _ _ _
        · have p2 : 1 < L := by omega
          have hR : R = (0, false, [], 16) := by rw [← HR.out.1, if_neg (by rw [decide_eq_true_iff]; exact fun h => t2 h.2.2.1)]
          subst hR
          go_wp2_with (first
            | (go_at_call 70; refine hI.err.mono ?_; rintro e w9 ⟨rfl, rfl⟩)
            | (go_at_call 34; refine hI.left.mono ?_; rintro e w9 ⟨rfl, rfl⟩)
            | (go_at_call 39; refine (check_ok N (L == 1) _ el _ HR.out.2.1 (by omega)).mono ?_; rintro e w9 ⟨rfl, hb⟩
               have hz9 := block_up HR.out.2.2.1 hb
               have hs9 := And.intro (HR.out.2.1.below hb) (own_below HOW.out hb)
               obtain ⟨q0, q1, q2⟩ := cells3 (block_up HSB.out hb)
               have HC := Lib.hid (And.intro hz9 (And.intro hs9 (below_up HR.out.2.2.2 hb))); clear hz9 hs9 hb)
            | (refine wpList_store_rowF rfl 73 _ _ rfl w.heap.size #[.int .i64 0, .bool false, .slice none 0 0] rfl rfl 73 #[.int .i64 0, .bool false, .slice none 0 0] HR.out.2.2.1 info_sum rfl (by simp [Value.oneCell']) ?_
               intro W9 hn9 hF9
               have HF := Lib.hid (And.intro hn9 (And.intro (HR.out.2.2.2.trans (hF9.toBelow (fun k hk => by omega) HR.out.2.2.2.size)) (hF9))); clear hn9 hF9))
          refine bodyPost_ret (v := .tuple #[.agg #[.int .i64 0, .bool false, .slice none 0 0], .int .i64 16]) (results_cell_tmp (p := 2) (t := 3) rfl _ _ w.heap.size _ _ (0, 0) _ rfl HF.out.1 Try.underlying73 rfl info_sum _ rfl) rfl ⟨_, rfl, ?_, HF.out.2.1⟩
          exact srd_nil _ _ _
      · have p1 : 0 < st.b.length := by omega
        have hR : R = (0, false, [], 16) := by rw [← HR.out.1, if_neg (by rw [decide_eq_true_iff]; exact fun h => t1 h.2.1)]
        subst hR
        go_wp2_with (first
          | (go_at_call 70; refine hI.err.mono ?_; rintro e w9 ⟨rfl, rfl⟩)
          | (go_at_call 34; refine hI.left.mono ?_; rintro e w9 ⟨rfl, rfl⟩)
          | (go_at_call 39; refine (check_ok N (L == 1) _ el _ HR.out.2.1 (by omega)).mono ?_; rintro e w9 ⟨rfl, hb⟩
             have hz9 := block_up HR.out.2.2.1 hb
             have hs9 := And.intro (HR.out.2.1.below hb) (own_below HOW.out hb)
             obtain ⟨q0, q1, q2⟩ := cells3 (block_up HSB.out hb)
             have HC := Lib.hid (And.intro hz9 (And.intro hs9 (below_up HR.out.2.2.2 hb))); clear hz9 hs9 hb)
          | (refine wpList_store_rowF rfl 73 _ _ rfl w.heap.size #[.int .i64 0, .bool false, .slice none 0 0] rfl rfl 73 #[.int .i64 0, .bool false, .slice none 0 0] HR.out.2.2.1 info_sum rfl (by simp [Value.oneCell']) ?_
             intro W9 hn9 hF9
             have HF := Lib.hid (And.intro hn9 (And.intro (HR.out.2.2.2.trans (hF9.toBelow (fun k hk => by omega) HR.out.2.2.2.size)) (hF9))); clear hn9 hF9))
        refine bodyPost_ret (v := .tuple #[.agg #[.int .i64 0, .bool false, .slice none 0 0], .int .i64 16]) (results_cell_tmp (p := 2) (t := 3) rfl _ _ w.heap.size _ _ (0, 0) _ rfl HF.out.1 Try.underlying73 rfl info_sum _ rfl) rfl ⟨_, rfl, ?_, HF.out.2.1⟩
        exact srd_nil _ _ _
    · have e0 : (st.tells != 0) = true := by simpa using t0
      have e0' : (st.tells == 0) = false := by simpa using t0
      have hR : R = (0, false, [], 16) := by rw [← HR.out.1, if_neg (by rw [decide_eq_true_iff]; exact fun h => t0 h.1)]
      subst hR
      go_wp2_with (first
        | (go_at_call 70; refine hI.err.mono ?_; rintro e w9 ⟨rfl, rfl⟩)
        | (go_at_call 34; refine hI.left.mono ?_; rintro e w9 ⟨rfl, rfl⟩)
        | (go_at_call 39; refine (check_ok N (L == 1) _ el _ HR.out.2.1 (by omega)).mono ?_; rintro e w9 ⟨rfl, hb⟩
           have hz9 := block_up HR.out.2.2.1 hb
           have hs9 := And.intro (HR.out.2.1.below hb) (own_below HOW.out hb)
           obtain ⟨q0, q1, q2⟩ := cells3 (block_up HSB.out hb)
           have HC := Lib.hid (And.intro hz9 (And.intro hs9 (below_up HR.out.2.2.2 hb))); clear hz9 hs9 hb)
        | (refine wpList_store_rowF rfl 73 _ _ rfl w.heap.size #[.int .i64 0, .bool false, .slice none 0 0] rfl rfl 73 #[.int .i64 0, .bool false, .slice none 0 0] HR.out.2.2.1 info_sum rfl (by simp [Value.oneCell']) ?_
           intro W9 hn9 hF9
           have HF := Lib.hid (And.intro hn9 (And.intro (HR.out.2.2.2.trans (hF9.toBelow (fun k hk => by omega) HR.out.2.2.2.size)) (hF9))); clear hn9 hF9))
      refine bodyPost_ret (v := .tuple #[.agg #[.int .i64 0, .bool false, .slice none 0 0], .int .i64 16]) (results_cell_tmp (p := 2) (t := 3) rfl _ _ w.heap.size _ _ (0, 0) _ rfl HF.out.1 Try.underlying73 rfl info_sum _ rfl) rfl ⟨_, rfl, ?_, HF.out.2.1⟩
      exact srd_nil _ _ _
end Go.Proofs.Ytkjapmafipnmpaa.Bt
