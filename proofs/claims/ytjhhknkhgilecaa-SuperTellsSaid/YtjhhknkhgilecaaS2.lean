/- The walk over super.Read. -/
import Derived.Test.YtjhhknkhgilecaaS0
import Derived.Test.YtjhhknkhgilecaaS1
namespace Go.Proofs.Ytjhhknkhgilecaa.Su
open Go.RowKit Lt Fm
set_option linter.unusedVariables false
set_option linter.unusedSimpArgs false
def gOf (t : List UInt8) : GeS := ⟨((t.getD 0 0).toNat : Nat), ((t.getD 1 0).toNat : Nat)⟩
/-- Is it a head? -/
def sOk (b : List UInt8) : Prop := okR b ∧ kOf b = 1 ∧ sOf b = StS.zero ∧ (tOf b).length = 2 ∧ (gOf (tOf b)).chk = 0
instance (b : List UInt8) : Decidable (sOk b) := by unfold sOk; infer_instance
def sG (b : List UInt8) : GeS := if sOk b then gOf (tOf b) else GeS.zero
def sE (b : List UInt8) : Int := if sOk b then 0 else 16
theorem s_yes {b : List UInt8} (h : sOk b) : sG b = gOf (tOf b) ∧ sE b = 0 := by unfold sG sE; simp [h]
theorem s_no {b : List UInt8} (h : ¬ sOk b) : sG b = GeS.zero ∧ sE b = 16 := by unfold sG sE; simp [h]
theorem neqS_d (x y : StS) (w : World) : (binOp .neq 32 (sv x) (sv y)).run Try.prog w = .ok (.bool (!decide (x = y))) w := by
  rw [← eqS_dec]
  refine neq_of (eqs_of Try.underlying32 (by kernel_rfl) ?_)
  refine eqf_cons (by rfl) (by go_simp; rfl) (by go_simp; rfl) (by go_simp) ?_
  refine eqf_cons (by rfl) (by go_simp; rfl) (by go_simp; rfl) (by go_simp) ?_
  exact eqf_last (by rfl) (by go_simp; rfl) (by go_simp; rfl) (by go_simp)
theorem info_ge : (Try.prog.info? 23).map (·.size) = some 2 := by kernel_rfl
theorem tOf_le (b : List UInt8) (h : b.length ≤ 140737488351232) : (tOf b).length ≤ 140737488351232 := by
  unfold tOf; have := List.length_take_le (nOf b) (b.drop 14); rw [List.length_take, List.length_drop]; omega
set_option maxHeartbeats 8000000 in
set_option maxRecDepth 100000 in
theorem sread_ok (v : Value) (b : List UInt8) (w : World) (hv : BRd w v b) (hl : b.length ≤ 140737488351232) :
    Calls Try.prog 15 #[v] w fun e w' => e = .returned (.tuple #[gv (sG b), .int .i64 (sE b)]) ∧ Below w.heap.size w w' := by
  obtain ⟨RG, hRG⟩ : ∃ x, sG b = x := ⟨_, rfl⟩
  obtain ⟨RE, hRE⟩ : ∃ x, sE b = x := ⟨_, rfl⟩
  rw [hRG, hRE]
  have hbadR : ¬ sOk b → RG = GeS.zero ∧ RE = 16 := fun h => ⟨hRG.symm.trans (s_no h).1, hRE.symm.trans (s_no h).2⟩
  have hokR : sOk b → RG = gOf (tOf b) ∧ RE = 0 := fun h => ⟨hRG.symm.trans (s_yes h).1, hRE.symm.trans (s_yes h).2⟩
  have HRR := Lib.hid (And.intro hbadR hokR); clear hbadR hokR hRG hRE
  have hz := alloc_at (w := w) (.cells #[.int .i64 0, .int .i64 0] 23) rfl
  have hb0 := below_alloc1 w (.cells #[.int .i64 0, .int .i64 0] 23)
  have hop := open_any v b _ (hv.below hb0) hl
  have htl : (oT b).length ≤ 140737488351232 := by unfold oT; split; exact tOf_le b hl; simp
  have HZ := Lib.hid (And.intro hz (And.intro hb0 hop)); clear hz hb0 hop hv
  have ho1 := o_yes (b := b)
  have ho2 := o_no (b := b)
  obtain ⟨K, hK⟩ : ∃ n, oK b = n := ⟨_, rfl⟩
  obtain ⟨S, hS⟩ : ∃ n, oS b = n := ⟨_, rfl⟩
  obtain ⟨T, hT⟩ : ∃ n, oT b = n := ⟨_, rfl⟩
  obtain ⟨OE, hOE⟩ : ∃ n, oE b = n := ⟨_, rfl⟩
  rw [hK, hS, hT, hOE] at HZ
  rw [hK, hS, hT, hOE] at ho1 ho2
  rw [hT] at htl
  have HO := Lib.hid (And.intro ho1 ho2); clear ho1 ho2 hK hS hT hOE
  go_enter Try.func15, Try.ntmps15
  go_wp2_with fail
  (with_reducible refine HZ.out.2.2.mono ?_); rintro e w1 ⟨x, rfl, hx, hb⟩
  have hzs := alloc_at (w := w1) (.cells #[.int .i64 S.ep, .int .i64 S.sq, .int .i64 S.pos] 32) rfl
  have ha := below_alloc1 w1 (.cells #[.int .i64 S.ep, .int .i64 S.sq, .int .i64 S.pos] 32)
  have H1 := Lib.hid (And.intro (hx.below ha) (And.intro (block_up HZ.out.1 (below_up hb ha)) (And.intro hzs (below_up HZ.out.2.1 (below_up hb ha))))); clear hx hb hzs ha
  go_wp2_with fail
  generalize (w1.alloc _) = w2 at *
  (with_reducible refine (open_w _ T w2 H1.out.1 (by omega)).mono ?_); rintro e w3 ⟨p, rfl, hI, hb⟩
  have hI : IW w2 w3 p (inOk T) := hI
  have H3 := Lib.hid (And.intro hI (And.intro (block_up H1.out.2.1 hb) (block_up H1.out.2.2.1 hb))); clear hI hb
  have htwo := two_of T
  have hn1 := next_len (inOk T) 1
  go_wp2_with fail
  (with_reducible refine (H3.out.1.num 1 (by have h1 : (inOk T).b.length = T.length := rfl; omega)).mono ?_); rintro e w4 ⟨rfl, hI, hK⟩
  rw [sz1] at hI ⊢
  have hg1b := getB_lt ((inOk T).got 1)
  have hg1l := got_le (inOk T) 1
  obtain ⟨N1, e1⟩ : ∃ n, getB ((inOk T).got 1) = n := ⟨_, rfl⟩
  rw [e1] at htwo hg1b ⊢
  have hN1 : N1 < 256 := Nat.lt_of_lt_of_le hg1b (Nat.pow_le_pow_right (by decide) hg1l)
  have H4 := Lib.hid (And.intro hI (And.intro (hK.2 _ _ _ _ H3.out.2.1 (by decide)) (hK.2 _ _ _ _ H3.out.2.2 (by decide)))); clear hI hK e1 hg1b hg1l
  go_wp2_with fail
  (with_reducible refine (H4.out.1.num 1 (by have h1 : (inOk T).b.length = T.length := rfl; omega)).mono ?_); rintro e w5 ⟨rfl, hI, hK⟩
  rw [sz1] at hI ⊢
  have hg2b := getB_lt (((inOk T).next 1).got 1)
  have hg2l := got_le ((inOk T).next 1) 1
  obtain ⟨N2, e2⟩ : ∃ n, getB (((inOk T).next 1).got 1) = n := ⟨_, rfl⟩
  rw [e2] at htwo hg2b ⊢
  have hN2 : N2 < 256 := Nat.lt_of_lt_of_le hg2b (Nat.pow_le_pow_right (by decide) hg2l)
  obtain ⟨S2, hS2⟩ : ∃ s, ((inOk T).next 1).next 1 = s := ⟨_, rfl⟩
  rw [hS2] at htwo hI
  have hzg := alloc_at (w := w5) (.cells #[.int .i64 (N1 : Nat), .int .i64 (N2 : Nat)] 23) rfl
  have ha := below_alloc1 w5 (.cells #[.int .i64 (N1 : Nat), .int .i64 (N2 : Nat)] 23)
  have H5 := Lib.hid (And.intro (hI.up ha) (And.intro (block_up (hK.2 _ _ _ _ H4.out.2.1 (by decide)) ha) (And.intro (block_up (hK.2 _ _ _ _ H4.out.2.2 (by decide)) ha) (And.intro hzg htwo)))); clear hI hK e2 hg2b hg2l hzg ha htwo hn1 hS2
  go_upto_region 4 with (fail)
  generalize (w5.alloc _) = w6 at *
  obtain ⟨q0, q1, q2⟩ := cells3 H5.out.2.2.1
  obtain ⟨r0, r1⟩ := cells2 H5.out.2.2.2.1
  have hne : ∀ W : World, (binOp .neq 32 (.agg #[.int .i64 S.ep, .int .i64 S.sq, .int .i64 S.pos]) (.agg #[.int .i64 0, .int .i64 0, .int .i64 0])).run Try.prog W = .ok (.bool (!decide (S = StS.zero))) W := fun W => neqS_d S StS.zero W
  have herr := H5.out.1.err
  have hlft := H5.out.1.left
  have hck := lchk_ok ⟨(N1 : Nat), (N2 : Nat)⟩ w6
  have HC := Lib.hid (And.intro herr (And.intro hlft hck)); clear herr hlft hck
  have HB := Lib.hid (below_up H1.out.2.2.2 H5.out.1.bel)
  have HW := Lib.hid (And.intro H5.out.2.1 (And.intro HB.out H5.out.2.2.2.1))
  by_cases ho : okR b
  · obtain ⟨o1, o2, o3, o4⟩ := HO.out.1 ho
    subst o4
    by_cases hk : K = 1
    · have k1 : (((K : Nat) : Int) != 1) = false := by rw [bne_eq_false_iff_eq]; omega
      have k2 : (((K : Nat) : Int) == 1) = true := by rw [beq_iff_eq]; omega
      by_cases hs : S = StS.zero
      · simp only [decide_eq_true hs, Bool.not_true] at hne
        by_cases ht : T.length = 2
        · obtain ⟨t1, t2⟩ := H5.out.2.2.2.2.1.2 ht
          obtain ⟨u1, u2⟩ := H5.out.2.2.2.2.2.1 ht
          rw [t1, t2] at HC
          by_cases hc : GeS.chk ⟨(N1 : Nat), (N2 : Nat)⟩ = 0
          · have hgo : gOf (tOf b) = ⟨(N1 : Nat), (N2 : Nat)⟩ := by unfold gOf; rw [← o3, u1, u2]
            obtain ⟨rfl, rfl⟩ := HRR.out.2 ⟨ho, by rw [← o1]; exact hk, by rw [← o2]; exact hs, by rw [← o3]; exact ht, by rw [hgo]; exact hc⟩
            rw [hc] at HC
            have HGO := Lib.hid hgo
            clear ho o1 o2 o3 hs ht t1 t2 u1 u2 hc hgo hk
            go_wp2_with (first
              | (go_at_call 54; (with_reducible refine HC.out.1.mono ?_); rintro e w9 ⟨rfl, rfl⟩)
              | (go_at_call 55; (with_reducible refine HC.out.2.1.mono ?_); rintro e w9 ⟨rfl, rfl⟩)
              | (go_at_call 46; (with_reducible refine HC.out.2.2.mono ?_); rintro e w9 ⟨rfl, hb⟩; obtain ⟨r0, r1⟩ := cells2 (block_up HW.out.2.2 hb); have HW := Lib.hid (And.intro (block_up HW.out.1 hb) (And.intro (below_up HW.out.2.1 hb) (block_up HW.out.2.2 hb))); clear hb)
              | (refine wpList_store_rowF rfl 23 _ _ rfl w.heap.size #[.int .i64 (N1 : Nat), .int .i64 (N2 : Nat)] rfl rfl 23 #[.int .i64 0, .int .i64 0] HW.out.1 info_ge rfl (by simp [Value.oneCell']) ?_
                 intro W9 hn9 hF9
                 have HF := Lib.hid (And.intro hn9 (fr_below HW.out.2.1 hF9 (Nat.le_refl _))); clear hn9 hF9))
            exact bodyPost_ret (v := .tuple #[gv ⟨(N1 : Nat), (N2 : Nat)⟩, .int .i64 0]) (results_cell_tmp (p := 2) (t := 3) rfl _ _ w.heap.size _ _ (0, 0) _ rfl HF.out.1 Try.underlying23 rfl info_ge _ rfl) rfl ⟨by rw [HGO.out], HF.out.2⟩
          · have hgo : gOf (tOf b) = ⟨(N1 : Nat), (N2 : Nat)⟩ := by unfold gOf; rw [← o3, u1, u2]
            obtain ⟨rfl, rfl⟩ := HRR.out.1 (fun h => hc (by rw [← hgo]; exact h.2.2.2.2))
            rw [GeS.chk_four hc] at HC
            clear ho o1 o2 o3 hs ht t1 t2 u1 u2 hc hgo hk
            go_wp2_with (first
              | (go_at_call 54; (with_reducible refine HC.out.1.mono ?_); rintro e w9 ⟨rfl, rfl⟩)
              | (go_at_call 55; (with_reducible refine HC.out.2.1.mono ?_); rintro e w9 ⟨rfl, rfl⟩)
              | (go_at_call 46; (with_reducible refine HC.out.2.2.mono ?_); rintro e w9 ⟨rfl, hb⟩; obtain ⟨r0, r1⟩ := cells2 (block_up HW.out.2.2 hb); have HW := Lib.hid (And.intro (block_up HW.out.1 hb) (And.intro (below_up HW.out.2.1 hb) (block_up HW.out.2.2 hb))); clear hb)
              | (refine wpList_store_rowF rfl 23 _ _ rfl w.heap.size #[.int .i64 0, .int .i64 0] rfl rfl 23 #[.int .i64 0, .int .i64 0] HW.out.1 info_ge rfl (by simp [Value.oneCell']) ?_
                 intro W9 hn9 hF9
                 have HF := Lib.hid (And.intro hn9 (fr_below HW.out.2.1 hF9 (Nat.le_refl _))); clear hn9 hF9))
            exact bodyPost_ret (v := .tuple #[gv GeS.zero, .int .i64 16]) (results_cell_tmp (p := 2) (t := 3) rfl _ _ w.heap.size _ _ (0, 0) _ rfl HF.out.1 Try.underlying23 rfl info_ge _ rfl) rfl ⟨rfl, HF.out.2⟩
        · obtain ⟨rfl, rfl⟩ := HRR.out.1 (fun h => ht (by rw [o3]; exact h.2.2.2.1))
          have h3 := H5.out.2.2.2.2.2.2 ht
          by_cases he : S2.tells = 0
          · have h4 := h3 he
            rw [he] at HC
            have h5 : decide ((0 : Int) < (S2.b.length : Nat)) = true := decide_eq_true (by omega)
            clear ho o1 o2 o3 hs ht h3 he hk
            go_wp2_with (first
              | (go_at_call 54; (with_reducible refine HC.out.1.mono ?_); rintro e w9 ⟨rfl, rfl⟩)
              | (go_at_call 55; (with_reducible refine HC.out.2.1.mono ?_); rintro e w9 ⟨rfl, rfl⟩)
              | (go_at_call 46; (with_reducible refine HC.out.2.2.mono ?_); rintro e w9 ⟨rfl, hb⟩; obtain ⟨r0, r1⟩ := cells2 (block_up HW.out.2.2 hb); have HW := Lib.hid (And.intro (block_up HW.out.1 hb) (And.intro (below_up HW.out.2.1 hb) (block_up HW.out.2.2 hb))); clear hb)
              | (refine wpList_store_rowF rfl 23 _ _ rfl w.heap.size #[.int .i64 0, .int .i64 0] rfl rfl 23 #[.int .i64 0, .int .i64 0] HW.out.1 info_ge rfl (by simp [Value.oneCell']) ?_
                 intro W9 hn9 hF9
                 have HF := Lib.hid (And.intro hn9 (fr_below HW.out.2.1 hF9 (Nat.le_refl _))); clear hn9 hF9))
            exact bodyPost_ret (v := .tuple #[gv GeS.zero, .int .i64 16]) (results_cell_tmp (p := 2) (t := 3) rfl _ _ w.heap.size _ _ (0, 0) _ rfl HF.out.1 Try.underlying23 rfl info_ge _ rfl) rfl ⟨rfl, HF.out.2⟩
          · have h5 : (S2.tells != 0) = true := by simpa using he
            have h6 : (S2.tells == 0) = false := by simpa using he
            clear ho o1 o2 o3 hs ht h3 he hk
            go_wp2_with (first
              | (go_at_call 54; (with_reducible refine HC.out.1.mono ?_); rintro e w9 ⟨rfl, rfl⟩)
              | (go_at_call 55; (with_reducible refine HC.out.2.1.mono ?_); rintro e w9 ⟨rfl, rfl⟩)
              | (go_at_call 46; (with_reducible refine HC.out.2.2.mono ?_); rintro e w9 ⟨rfl, hb⟩; obtain ⟨r0, r1⟩ := cells2 (block_up HW.out.2.2 hb); have HW := Lib.hid (And.intro (block_up HW.out.1 hb) (And.intro (below_up HW.out.2.1 hb) (block_up HW.out.2.2 hb))); clear hb)
              | (refine wpList_store_rowF rfl 23 _ _ rfl w.heap.size #[.int .i64 0, .int .i64 0] rfl rfl 23 #[.int .i64 0, .int .i64 0] HW.out.1 info_ge rfl (by simp [Value.oneCell']) ?_
                 intro W9 hn9 hF9
                 have HF := Lib.hid (And.intro hn9 (fr_below HW.out.2.1 hF9 (Nat.le_refl _))); clear hn9 hF9))
            exact bodyPost_ret (v := .tuple #[gv GeS.zero, .int .i64 16]) (results_cell_tmp (p := 2) (t := 3) rfl _ _ w.heap.size _ _ (0, 0) _ rfl HF.out.1 Try.underlying23 rfl info_ge _ rfl) rfl ⟨rfl, HF.out.2⟩
      · obtain ⟨rfl, rfl⟩ := HRR.out.1 (fun h => hs (by rw [o2]; exact h.2.2.1))
        simp only [decide_eq_false hs, Bool.not_false] at hne
        clear ho o1 o2 o3 hs hk
        go_wp2_with (first
          | (go_at_call 54; (with_reducible refine HC.out.1.mono ?_); rintro e w9 ⟨rfl, rfl⟩)
          | (go_at_call 55; (with_reducible refine HC.out.2.1.mono ?_); rintro e w9 ⟨rfl, rfl⟩)
          | (go_at_call 46; (with_reducible refine HC.out.2.2.mono ?_); rintro e w9 ⟨rfl, hb⟩; obtain ⟨r0, r1⟩ := cells2 (block_up HW.out.2.2 hb); have HW := Lib.hid (And.intro (block_up HW.out.1 hb) (And.intro (below_up HW.out.2.1 hb) (block_up HW.out.2.2 hb))); clear hb)
          | (refine wpList_store_rowF rfl 23 _ _ rfl w.heap.size #[.int .i64 0, .int .i64 0] rfl rfl 23 #[.int .i64 0, .int .i64 0] HW.out.1 info_ge rfl (by simp [Value.oneCell']) ?_
             intro W9 hn9 hF9
             have HF := Lib.hid (And.intro hn9 (fr_below HW.out.2.1 hF9 (Nat.le_refl _))); clear hn9 hF9))
        exact bodyPost_ret (v := .tuple #[gv GeS.zero, .int .i64 16]) (results_cell_tmp (p := 2) (t := 3) rfl _ _ w.heap.size _ _ (0, 0) _ rfl HF.out.1 Try.underlying23 rfl info_ge _ rfl) rfl ⟨rfl, HF.out.2⟩
    · obtain ⟨rfl, rfl⟩ := HRR.out.1 (fun h => hk (by rw [o1]; exact h.2.1))
      have k1 : (((K : Nat) : Int) != 1) = true := by rw [bne_iff_ne]; omega
      have k2 : (((K : Nat) : Int) == 1) = false := by rw [beq_eq_false_iff_ne]; omega
      clear ho o1 o2 o3 hk
      go_wp2_with (first
        | (go_at_call 54; (with_reducible refine HC.out.1.mono ?_); rintro e w9 ⟨rfl, rfl⟩)
        | (go_at_call 55; (with_reducible refine HC.out.2.1.mono ?_); rintro e w9 ⟨rfl, rfl⟩)
        | (go_at_call 46; (with_reducible refine HC.out.2.2.mono ?_); rintro e w9 ⟨rfl, hb⟩; obtain ⟨r0, r1⟩ := cells2 (block_up HW.out.2.2 hb); have HW := Lib.hid (And.intro (block_up HW.out.1 hb) (And.intro (below_up HW.out.2.1 hb) (block_up HW.out.2.2 hb))); clear hb)
        | (refine wpList_store_rowF rfl 23 _ _ rfl w.heap.size #[.int .i64 0, .int .i64 0] rfl rfl 23 #[.int .i64 0, .int .i64 0] HW.out.1 info_ge rfl (by simp [Value.oneCell']) ?_
           intro W9 hn9 hF9
           have HF := Lib.hid (And.intro hn9 (fr_below HW.out.2.1 hF9 (Nat.le_refl _))); clear hn9 hF9))
      exact bodyPost_ret (v := .tuple #[gv GeS.zero, .int .i64 16]) (results_cell_tmp (p := 2) (t := 3) rfl _ _ w.heap.size _ _ (0, 0) _ rfl HF.out.1 Try.underlying23 rfl info_ge _ rfl) rfl ⟨rfl, HF.out.2⟩
  · obtain ⟨o1, o2, o3, o4⟩ := HO.out.2 ho
    subst o4
    obtain ⟨rfl, rfl⟩ := HRR.out.1 (fun h => ho h.1)
    clear ho o1 o2 o3
    go_wp2_with (first
      | (go_at_call 54; (with_reducible refine HC.out.1.mono ?_); rintro e w9 ⟨rfl, rfl⟩)
      | (go_at_call 55; (with_reducible refine HC.out.2.1.mono ?_); rintro e w9 ⟨rfl, rfl⟩)
      | (go_at_call 46; (with_reducible refine HC.out.2.2.mono ?_); rintro e w9 ⟨rfl, hb⟩; obtain ⟨r0, r1⟩ := cells2 (block_up HW.out.2.2 hb); have HW := Lib.hid (And.intro (block_up HW.out.1 hb) (And.intro (below_up HW.out.2.1 hb) (block_up HW.out.2.2 hb))); clear hb)
      | (refine wpList_store_rowF rfl 23 _ _ rfl w.heap.size #[.int .i64 0, .int .i64 0] rfl rfl 23 #[.int .i64 0, .int .i64 0] HW.out.1 info_ge rfl (by simp [Value.oneCell']) ?_
         intro W9 hn9 hF9
         have HF := Lib.hid (And.intro hn9 (fr_below HW.out.2.1 hF9 (Nat.le_refl _))); clear hn9 hF9))
    exact bodyPost_ret (v := .tuple #[gv GeS.zero, .int .i64 16]) (results_cell_tmp (p := 2) (t := 3) rfl _ _ w.heap.size _ _ (0, 0) _ rfl HF.out.1 Try.underlying23 rfl info_ge _ rfl) rfl ⟨rfl, HF.out.2⟩
end Go.Proofs.Ytjhhknkhgilecaa.Su
