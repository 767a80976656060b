/- The walk over croftlaw12.SuperTells. -/
import Derived.Test.YtjhhknkhgilecaaS4
import Derived.BigQuiet
namespace Go.Proofs.Ytjhhknkhgilecaa.Su
open Go.RowKit Lt Fm
set_option linter.unusedVariables false
set_option linter.unusedSimpArgs false
theorem chk_casesI (a b : Int) : (GeS.chk ⟨a, b⟩ = 4 ∧ (a < 6 ∨ (6 ≤ a ∧ 32 < a) ∨ (6 ≤ a ∧ a ≤ 32 ∧ b < 4) ∨ (6 ≤ a ∧ a ≤ 32 ∧ 4 ≤ b ∧ 32 < b))) ∨ (GeS.chk ⟨a, b⟩ = 0 ∧ 6 ≤ a ∧ a ≤ 32 ∧ 4 ≤ b ∧ b ≤ 32) := by
  unfold GeS.chk
  simp only
  by_cases h : a < 6 ∨ 32 < a ∨ b < 4 ∨ 32 < b
  · rw [if_pos h]; exact .inl ⟨rfl, by omega⟩
  · rw [if_neg h]; exact .inr ⟨rfl, by omega⟩
set_option maxHeartbeats 8000000 in
set_option maxRecDepth 100000 in
theorem stells_walk (gs gz : Int) (vb : Value) (b : List UInt8) (w : World) (hvb : BRd w vb b) (hbl : b.length ≤ 140737488351232) :
    Calls Try.prog 3 #[gv ⟨gs, gz⟩, vb] w fun e w' => e = .returned (.bool true) ∧ Below w.heap.size w w' := by
  have HV := Lib.hid hvb
  obtain ⟨Ab, cb, rfl, _, _, _⟩ := hvb
  have hg := alloc_at (w := w) (.cells #[.int .i64 gs, .int .i64 gz] 23) rfl
  have hb0 := below_alloc1 w (.cells #[.int .i64 gs, .int .i64 gz] 23)
  have HG := Lib.hid (And.intro hg hb0); clear hg hb0
  go_enter Try.func3, Try.ntmps3
  go_wp2_with fail
  generalize (w.alloc _) = w0 at *
  refine (alive_ok _).mono ?_; rintro e w1 ⟨rfl, hb⟩
  obtain ⟨q0, q1⟩ := cells2 (block_up HG.out.1 hb)
  have H1 := Lib.hid hb; clear hb
  obtain ⟨B, hB⟩ : ∃ x, decide (GeS.chk ⟨gs, gz⟩ = 0) = x := ⟨_, rfl⟩
  have HB := Lib.hid hB; clear hB
  go_upto_region 3 with (fail)
  go_cut [5] (fun v5 wx => v5 = .bool B ∧ wx = w1)
  case first =>
    rcases chk_casesI gs gz with ⟨hc, h⟩ | ⟨hc, h⟩
    · obtain rfl : B = false := by rw [← HB.out, hc]; rfl
      clear hc
      rcases h with h | ⟨h1, h⟩ | ⟨h1, h2, h⟩ | ⟨h1, h2, h3, h⟩
      · have c1 : decide ((6 : Int) ≤ gs) = false := decide_eq_false (by omega)
        go_wp2
        go_meet
        case rel => exact ⟨rfl, rfl⟩
      · have c1 : decide ((6 : Int) ≤ gs) = true := decide_eq_true (by omega)
        have c2 : decide (gs ≤ 32) = false := decide_eq_false (by omega)
        go_wp2
        go_meet
        case rel => exact ⟨rfl, rfl⟩
      · have c1 : decide ((6 : Int) ≤ gs) = true := decide_eq_true (by omega)
        have c2 : decide (gs ≤ 32) = true := decide_eq_true (by omega)
        have c3 : decide ((4 : Int) ≤ gz) = false := decide_eq_false (by omega)
        go_wp2
        go_meet
        case rel => exact ⟨rfl, rfl⟩
      · have c1 : decide ((6 : Int) ≤ gs) = true := decide_eq_true (by omega)
        have c2 : decide (gs ≤ 32) = true := decide_eq_true (by omega)
        have c3 : decide ((4 : Int) ≤ gz) = true := decide_eq_true (by omega)
        have c4 : decide (gz ≤ 32) = false := decide_eq_false (by omega)
        go_wp2
        go_meet
        case rel => exact ⟨rfl, rfl⟩
    · obtain rfl : B = true := by rw [← HB.out, hc]; rfl
      clear hc
      obtain ⟨h1, h2, h3, h4⟩ := h
      have c1 : decide ((6 : Int) ≤ gs) = true := decide_eq_true (by omega)
      have c2 : decide (gs ≤ 32) = true := decide_eq_true (by omega)
      have c3 : decide ((4 : Int) ≤ gz) = true := decide_eq_true (by omega)
      have c4 : decide (gz ≤ 32) = true := decide_eq_true (by omega)
      go_wp2
      go_meet
      case rel => exact ⟨rfl, rfl⟩
  case rest =>
  obtain ⟨rfl, rfl⟩ := hcut
  have hput := sput_ok ⟨gs, gz⟩ wc
  obtain ⟨C, hC⟩ : ∃ c, GeS.chk ⟨gs, gz⟩ = c := ⟨_, rfl⟩
  rw [hC] at hput
  have HC := Lib.hid hC; clear hC
  have HP := Lib.hid hput; clear hput
  go_upto_if 44 with ((with_reducible refine HP.out.mono ?_); rintro e w2 ⟨x, rfl, hx, hb⟩; have H2 := Lib.hid (And.intro hx (below_up H1.out hb)); clear hx hb q0 q1)
  obtain ⟨q0, q1⟩ := cells2 (block_up HG.out.1 H2.out.2)
  go_cut [] (fun wx => Below w0.heap.size w0 wx)
  case first =>
    cases B with
    | false =>
      have hc : ¬ C = 0 := fun h => by have := HB.out; rw [HC.out, h] at this; cases this
      obtain rfl : C = 4 := by rw [← HC.out]; exact GeS.chk_four (by rw [HC.out]; exact hc)
      have hx := H2.out.1
      rw [if_neg (by decide)] at hx
      obtain ⟨A2, c2, rfl, _, _, _⟩ := hx
      clear hc
      go_wp2
      go_meet
      case rel => exact H2.out.2
    | true =>
      obtain rfl : C = 0 := by
        have h := HB.out
        rw [HC.out] at h
        exact of_decide_eq_true h
      have hx := H2.out.1
      rw [if_pos rfl] at hx
      obtain ⟨h1, h2, h3, h4⟩ := GeS.chk_zero HC.out
      simp only at h1 h2 h3 h4
      obtain ⟨S, rfl⟩ := Int.eq_ofNat_of_zero_le (by omega : 0 ≤ gs)
      obtain ⟨Z, rfl⟩ := Int.eq_ofNat_of_zero_le (by omega : 0 ≤ gz)
      obtain ⟨hso, hgo⟩ := head_back HC.out
      obtain ⟨hy1, hy2⟩ := s_yes hso
      rw [hgo] at hy1
      have hlit : ∀ W : World, BRd (W.alloc (.cells #[.int .u8 (S : Nat), .int .u8 (Z : Nat)] 5)) (.slice (some ⟨W.heap.size, 0, none⟩) 2 2) (gB ⟨(S : Nat), (Z : Nat)⟩) := fun W =>
        brd_lit (l := gB ⟨(S : Nat), (Z : Nat)⟩) (cs := #[.int .u8 (S : Nat), .int .u8 (Z : Nat)]) (alloc_at (w := W) (.cells #[.int .u8 (S : Nat), .int .u8 (Z : Nat)] 5) rfl) (by unfold gB bv; simp; omega) rfl 2 (Nat.le_refl _)
      have hl2 := hlit w2
      have hb2 := below_up H2.out.2 (below_alloc1 w2 (.cells #[.int .u8 (S : Nat), .int .u8 (Z : Nat)] 5))
      have hx2 := hx.below (below_alloc1 w2 (.cells #[.int .u8 (S : Nat), .int .u8 (Z : Nat)] 5))
      have hsec := sector_ok 1 StS.zero _ _ _ hl2
      rw [show secE 1 StS.zero (gB ⟨(S : Nat), (Z : Nat)⟩).length = 0 from (by show secE 1 StS.zero 2 = 0; decide), if_pos rfl] at hsec
      have hlen := secB_len 1 StS.zero (gB ⟨(S : Nat), (Z : Nat)⟩) (by show (2 : Nat) ≤ _; decide)
      generalize secB 1 StS.zero (gB ⟨(S : Nat), (Z : Nat)⟩) = SB at *
      obtain ⟨A2, c2, rfl, _, _, _⟩ := id hx
      have HX := Lib.hid (And.intro hx2 (And.intro hb2 (And.intro hsec (And.intro hy1 (And.intro hy2 hlen))))); clear hx hx2 hb2 hsec hy1 hy2 hlen hso hgo hlit hl2
      go_wp2_with fail
      generalize (w2.alloc _) = w3 at *
      refine HX.out.2.2.1.mono ?_; rintro e w4 ⟨y, rfl, hy, hb⟩
      obtain ⟨A4, c4, rfl, _, _, _⟩ := id hy
      have hrd := sread_ok _ _ w4 (HX.out.1.below hb) (by have := HX.out.2.2.2.2.2; omega)
      rw [HX.out.2.2.2.1, HX.out.2.2.2.2.1] at hrd
      have H4 := Lib.hid (And.intro (HX.out.1.below hb) (And.intro hy (And.intro (below_up HX.out.2.1 hb) hrd))); clear hy hb hrd q0 q1
      go_wp2_with fail
      (with_reducible refine H4.out.2.2.2.mono ?_); rintro e w5 ⟨rfl, hb⟩
      have hz := alloc_at (w := w5) (.cells #[.int .i64 (S : Nat), .int .i64 (Z : Nat)] 23) rfl
      have hba := below_up hb (below_alloc1 w5 (.cells #[.int .i64 (S : Nat), .int .i64 (Z : Nat)] 23))
      have hcx := conv_brd H4.out.1 hba
      have hcy := conv_brd H4.out.2.1 hba
      obtain ⟨r0, r1⟩ := cells2 hz
      obtain ⟨q0, q1⟩ := cells2 (block_up (block_up HG.out.1 H4.out.2.2.1) hba)
      have hne : ∀ W : World, (binOp .neq 23 (.agg #[.int .i64 (S : Nat), .int .i64 (Z : Nat)]) (.agg #[.int .i64 (S : Nat), .int .i64 (Z : Nat)])).run Try.prog W = .ok (.bool false) W := fun W => neqG_same ⟨(S : Nat), (Z : Nat)⟩ W
      have H5 := Lib.hid (below_up H4.out.2.2.1 hba); clear hz hba hb
      go_upto_region 10 with (fail)
      generalize (w5.alloc _) = w6 at *
      generalize bstr SB = sB at *
      have hss : (sB != sB) = false := by unfold bne; rw [(MapKept.bytes_beq _ _).2 rfl]; rfl
      go_wp2
      go_meet
      case rel => exact H5.out
  case rest =>
  have HD := Lib.hid hcut; clear hcut q0 q1 HP H2
  obtain ⟨RG, hRG⟩ : ∃ x, sG b = x := ⟨_, rfl⟩
  obtain ⟨RE, hRE⟩ : ∃ x, sE b = x := ⟨_, rfl⟩
  have hbadR : ¬ sOk b → RG = GeS.zero ∧ RE = 16 := fun h => ⟨hRG.symm.trans (s_no h).1, hRE.symm.trans (s_no h).2⟩
  have hokR : sOk b → RG = gOf (tOf b) ∧ RE = 0 := fun h => ⟨hRG.symm.trans (s_yes h).1, hRE.symm.trans (s_yes h).2⟩
  have HRR := Lib.hid (And.intro hbadR hokR); clear hbadR hokR
  have hrd := fun (W : World) (hb : Below w0.heap.size w0 W) => read_ok _ b W (HV.out.below (below_up HG.out.2 hb)) hbl
  have hsr := fun (W : World) (hb : Below w0.heap.size w0 W) => sread_ok _ b W (HV.out.below (below_up HG.out.2 hb)) hbl
  have ho1 := o_yes (b := b)
  have ho2 := o_no (b := b)
  obtain ⟨K, hK⟩ : ∃ n, oK b = n := ⟨_, rfl⟩
  obtain ⟨S, hS⟩ : ∃ n, oS b = n := ⟨_, rfl⟩
  obtain ⟨T, hT⟩ : ∃ n, oT b = n := ⟨_, rfl⟩
  obtain ⟨R, hR⟩ : ∃ n, decide (okR b) = n := ⟨_, rfl⟩
  simp only [hK, hS, hT, hR] at hrd
  simp only [hRG, hRE] at hsr
  simp only [hK, hS, hT] at ho1 ho2
  have HR := Lib.hid (And.intro hrd hsr)
  have HO := Lib.hid (And.intro ho1 (And.intro ho2 hR)); clear hrd hsr ho1 ho2 hR hK hS hT hRG hRE
  have HL := Lib.hid hbl; clear hbl
  go_wp2_with fail
  (with_reducible refine (HR.out.1 _ HD.out).mono ?_); rintro e w2 ⟨x, rfl, hx, hb⟩
  have hz := alloc_at (w := w2) (.cells #[.int .i64 S.ep, .int .i64 S.sq, .int .i64 S.pos] 32) rfl
  have ha := below_alloc1 w2 (.cells #[.int .i64 S.ep, .int .i64 S.sq, .int .i64 S.pos] 32)
  obtain ⟨Ax, cx, rfl, _, _, _⟩ := id hx
  have H3 := Lib.hid (And.intro (hx.below ha) (And.intro (below_up (below_up HD.out hb) ha) hz)); clear hx hb ha hz
  go_wp2_with fail
  generalize (w2.alloc _) = w3 at *
  (with_reducible refine (HR.out.2 _ H3.out.2.1).mono ?_); rintro e w4 ⟨rfl, hb⟩
  have hz := alloc_at (w := w4) (.cells #[.int .i64 RG.seg, .int .i64 RG.siz] 23) rfl
  have ha := below_alloc1 w4 (.cells #[.int .i64 RG.seg, .int .i64 RG.siz] 23)
  have hba := below_up hb ha
  have H5 := Lib.hid (And.intro (H3.out.1.below hba) (And.intro (below_up H3.out.2.1 hba) (And.intro (block_up H3.out.2.2 hba) hz))); clear hb ha hba hz
  go_upto_region 14 with (fail)
  generalize (w4.alloc _) = w5 at *
  obtain ⟨q0, q1, q2⟩ := cells3 H5.out.2.2.1
  obtain ⟨r0, r1⟩ := cells2 H5.out.2.2.2
  have hne : ∀ W : World, (binOp .eql 32 (.agg #[.int .i64 S.ep, .int .i64 S.sq, .int .i64 S.pos]) (.agg #[.int .i64 0, .int .i64 0, .int .i64 0])).run Try.prog W = .ok (.bool (decide (S = StS.zero))) W := fun W => eqlS_d S StS.zero W
  have hgz : ∀ W : World, (binOp .eql 23 (.agg #[.int .i64 0, .int .i64 0]) (.agg #[.int .i64 0, .int .i64 0])).run Try.prog W = .ok (.bool true) W := fun W => eqlG_same GeS.zero W
  have HE := Lib.hid (below_up HG.out.2 H5.out.2.1)
  by_cases ho : okR b
  · obtain ⟨o1, o2, o3, o4⟩ := HO.out.1 ho
    obtain rfl : R = true := by rw [← HO.out.2.2]; exact decide_eq_true ho
    by_cases hk : K = 1
    · have k1 : (((K : Nat) : Int) == 1) = true := by rw [beq_iff_eq]; omega
      by_cases hs : S = StS.zero
      · simp only [decide_eq_true hs] at hne
        by_cases h2 : T.length = 2
        · have k2 : (((T.length : Nat) : Int) == 2) = true := by rw [beq_iff_eq]; omega
          obtain ⟨g, o, rfl, hr, hgl⟩ := brd_cut H5.out.1 (by intro e; rw [e] at h2; cases h2)
          have d0 := rd_at hr (i := 0) (by omega)
          have d1 := rd_at hr (i := 1) (by omega)
          rw [Nat.add_zero] at d0
          have b1 : (0 : Int) < T.length := by omega
          have b2 : (1 : Int) < T.length := by omega
          have hcc := chk_cases (T.getD 0 0).toNat (T.getD 1 0).toNat
          have hx1 := (T.getD 0 0).toNat_lt
          have hx2 := (T.getD 1 0).toNat_lt
          have hgo : gOf (tOf b) = ⟨((T.getD 0 0).toNat : Nat), ((T.getD 1 0).toNat : Nat)⟩ := by rw [← o3]; rfl
          generalize (T.getD 0 0).toNat = N1 at *
          generalize (T.getD 1 0).toNat = N2 at *
          rcases hcc with ⟨hc, h⟩ | ⟨hc, h⟩
          · obtain ⟨rfl, rfl⟩ := HRR.out.1 (fun h => by have := h.2.2.2.2; rw [hgo, hc] at this; cases this)
            clear ho o1 o2 o3 o4 hk hs h2 hr hgl hc hgo hx1 hx2
            rcases h with h | ⟨h1, h⟩ | ⟨h1, h2, h⟩ | ⟨h1, h2, h3, h⟩
            · have c1 : decide ((6 : Int) ≤ (N1 : Nat)) = false := decide_eq_false (by omega)
              go_wp2
              go_ret
              exact ⟨ret_bool (by first | rfl | simp), HE.out⟩
            · have c1 : decide ((6 : Int) ≤ (N1 : Nat)) = true := decide_eq_true (by omega)
              have c2 : decide (((N1 : Nat) : Int) ≤ 32) = false := decide_eq_false (by omega)
              go_wp2
              go_ret
              exact ⟨ret_bool (by first | rfl | simp), HE.out⟩
            · have c1 : decide ((6 : Int) ≤ (N1 : Nat)) = true := decide_eq_true (by omega)
              have c2 : decide (((N1 : Nat) : Int) ≤ 32) = true := decide_eq_true (by omega)
              have c3 : decide ((4 : Int) ≤ (N2 : Nat)) = false := decide_eq_false (by omega)
              go_wp2
              go_ret
              exact ⟨ret_bool (by first | rfl | simp), HE.out⟩
            · have c1 : decide ((6 : Int) ≤ (N1 : Nat)) = true := decide_eq_true (by omega)
              have c2 : decide (((N1 : Nat) : Int) ≤ 32) = true := decide_eq_true (by omega)
              have c3 : decide ((4 : Int) ≤ (N2 : Nat)) = true := decide_eq_true (by omega)
              have c4 : decide (((N2 : Nat) : Int) ≤ 32) = false := decide_eq_false (by omega)
              go_wp2
              go_ret
              exact ⟨ret_bool (by first | rfl | simp), HE.out⟩
          · obtain ⟨e1, e2⟩ := HRR.out.2 ⟨ho, by rw [← o1]; exact hk, by rw [← o2]; exact hs, by rw [← o3]; exact h2, by rw [hgo]; exact hc⟩
            rw [hgo] at e1
            subst e1 e2
            obtain ⟨h1, h4, h5, h6⟩ := h
            have hgg : ∀ W : World, (binOp .eql 23 (.agg #[.int .i64 (N1 : Nat), .int .i64 (N2 : Nat)]) (.agg #[.int .i64 (N1 : Nat), .int .i64 (N2 : Nat)])).run Try.prog W = .ok (.bool true) W := fun W => eqlG_same ⟨(N1 : Nat), (N2 : Nat)⟩ W
            clear ho o1 o2 o3 o4 hk hs h2 hr hgl hc hgo
            have c1 : decide ((6 : Int) ≤ (N1 : Nat)) = true := decide_eq_true (by omega)
            have c2 : decide (((N1 : Nat) : Int) ≤ 32) = true := decide_eq_true (by omega)
            have c3 : decide ((4 : Int) ≤ (N2 : Nat)) = true := decide_eq_true (by omega)
            have c4 : decide (((N2 : Nat) : Int) ≤ 32) = true := decide_eq_true (by omega)
            go_upto_region 17 with (fail)
            go_quiet (fail)
            go_wp2
            go_ret
            exact ⟨ret_bool (by first | rfl | simp), below_up HE.out (below_drewN _)⟩
        · have k2 : (((T.length : Nat) : Int) == 2) = false := by rw [beq_eq_false_iff_ne]; omega
          obtain ⟨rfl, rfl⟩ := HRR.out.1 (fun h => h2 (by rw [o3]; exact h.2.2.2.1))
          clear ho o1 o2 o3 o4 hk hs h2
          go_wp2
          go_ret
          exact ⟨ret_bool (by first | rfl | simp), HE.out⟩
      · obtain ⟨rfl, rfl⟩ := HRR.out.1 (fun h => hs (by rw [o2]; exact h.2.2.1))
        simp only [decide_eq_false hs] at hne
        clear ho o1 o2 o3 o4 hk hs
        go_wp2
        go_ret
        exact ⟨ret_bool (by first | rfl | simp), HE.out⟩
    · have k1 : (((K : Nat) : Int) == 1) = false := by rw [beq_eq_false_iff_ne]; omega
      obtain ⟨rfl, rfl⟩ := HRR.out.1 (fun h => hk (by rw [o1]; exact h.2.1))
      clear ho o1 o2 o3 o4 hk
      go_wp2
      go_ret
      exact ⟨ret_bool (by first | rfl | simp), HE.out⟩
  · obtain ⟨o1, o2, o3, o4⟩ := HO.out.2.1 ho
    obtain rfl : R = false := by rw [← HO.out.2.2]; exact decide_eq_false ho
    obtain ⟨rfl, rfl⟩ := HRR.out.1 (fun h => ho h.1)
    clear ho o1 o2 o3 o4
    go_wp2
    go_ret
    exact ⟨ret_bool (by first | rfl | simp), HE.out⟩
end Go.Proofs.Ytjhhknkhgilecaa.Su
