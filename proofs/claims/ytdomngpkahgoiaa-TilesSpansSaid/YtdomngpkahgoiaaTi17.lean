/- The walk over croftlaw41.TilesSpans. -/
import Derived.Test.YtdomngpkahgoiaaTi16
import Derived.BigQuiet
import Derived.Deep.QuietTactic
namespace Go.Proofs.Ytdomngpkahgoiaa.Ti
open Go.RowKit Rg St Zw
set_option linter.unusedVariables false
set_option linter.unusedSimpArgs false
theorem s_at {W : World} {A : Option Addr} {n c : Nat} {S : List (Nat × Nat)} (h : SRd 2 sc W (.slice A n c) S) {k : Nat} (hk : k < S.length) :
    ∃ g o, A = some ⟨g, o, none⟩ ∧ (W.cell? ⟨g, o + k * 2, none⟩ = some (.int .u64 (S[k].1 : Nat)) ∧ W.cell? ⟨g, o + k * 2 + 1, none⟩ = some (.int .u64 (S[k].2 : Nat))) := by
  obtain ⟨g, o, e, _, ci⟩ := SRd.get h sc_len (by decide) hk
  refine ⟨g, o, e, ?_, ?_⟩
  · simpa [sc] using ci 0 (by decide)
  · simpa [sc] using ci 1 (by decide)
set_option maxHeartbeats 16000000 in
set_option maxRecDepth 100000 in
theorem spans_walk (v : Value) (l : List CeS) (x y : Nat) (w : World) (hv : CRow w v l) (hf : ∀ c ∈ l, c.fine) (hl : l.length ≤ 8796093022208) (hx : x < 4294967296) (hy : y < 4294967296) :
    Calls Try.prog 5 #[v, .int .u32 (x : Nat), .int .u32 (y : Nat)] w fun e w' => e = .returned (.bool true) ∧ Below w.heap.size w w' := by
  have HV := Lib.hid hv
  have HFl := Lib.hid hf
  have HXY := Lib.hid (And.intro hx hy)
  have HAl := Lib.hid (fun W => alive_ok W)
  obtain ⟨A, cap, rfl, hcap, _⟩ := hv
  have HSm := Lib.hid (fun (l0 : List CeS) h => any_same (l := l0) h hx hy)
  have HHa := Lib.hid (fun c h W => hasc_ok c x y W h hx hy)
  have HJ := Lib.hid (fun W => join_ok x y W hx hy)
  clear hf hx hy
  generalize Zm.joinN x y = z at *
  go_enter Try.func5, Try.ntmps5
  go_wp2_with fail
  (with_reducible refine (HAl.out _).mono ?_); rintro e w1 ⟨rfl, hb⟩
  have H1 := Lib.hid hb
  clear hb HAl
  have HB30 := Lib.hid (show ∀ p ∈ l.take 30, p.fine from fun p hp => HFl.out p (List.mem_of_mem_take hp))
  have ht30 : (l.take 30).length ≤ 30 := List.length_take_le _ _
  go_upto_if 21 with (fail)
  go_cut [0] from 19 to 23 (fun v0 wx => (∃ c, v0 = .slice A (l.take 30).length c ∧ CRow w (.slice A (l.take 30).length c) (l.take 30)) ∧ w1 = wx)
  case first =>
    by_cases h30 : 30 < l.length
    · have d1 : decide ((30 : Int) < l.length) = true := decide_eq_true (by omega)
      have e1 : (l.take 30).length = 30 := by rw [List.length_take]; omega
      have b1 : (30 : Int) ≤ cap := by omega
      have HS := Lib.hid (HV.out.take CeS.cells_len (k := 30) (by omega) cap (by omega))
      have HE := Lib.hid e1; clear e1 ht30
      go_wp2
      go_meet
      case rel => exact ⟨⟨cap, by rw [HE.out], by rw [HE.out]; exact HS.out⟩, rfl⟩
    · have d1 : decide ((30 : Int) < l.length) = false := decide_eq_false (by omega)
      have e1 : l.take 30 = l := List.take_of_length_le (by omega)
      have HE := Lib.hid e1; clear e1 ht30
      go_wp2
      go_meet
      case rel => exact ⟨⟨cap, by rw [HE.out], by rw [HE.out]; exact HV.out⟩, rfl⟩
  case rest =>
  obtain ⟨⟨c0, rfl, hp0⟩, hw⟩ := hcut
  subst hw
  obtain ⟨l0, hl0⟩ : ∃ l0, l.take 30 = l0 := ⟨_, rfl⟩
  rw [hl0] at ht30 HB30 hp0
  have HP0 := Lib.hid hp0
  rw [hl0]
  clear hp0 hl0 HV HFl hl hcap
  have HSp := Lib.hid (spans_ok _ l0 w1 (HP0.out.below H1.out) HB30.out (by omega))
  have HSame := Lib.hid (HSm.out l0 HB30.out)
  obtain ⟨a1, a2, _⟩ := spans_all HB30.out
  have HLe := Lib.hid a1
  have HPw := Lib.hid a2
  have HLt := Lib.hid (fun e h => span_lt (l := l0) e h)
  have hsl : (spansOf l0).length ≤ 30 := by
    have h1 := spanL_le ((ordL l0).map ivC)
    rw [List.length_map, ordL_len] at h1
    unfold spansOf; omega
  clear a1 a2 HSm
  generalize spansOf l0 = S at *
  go_wp2_with fail
  (with_reducible refine HSp.out.mono ?_); rintro e w2 ⟨v2, rfl, ho2, hb2⟩
  have H2 := Lib.hid (below_up H1.out hb2)
  have hrow := srd_own sc_len (by decide) ho2
  obtain ⟨As, cs, rfl, _, _, _, _⟩ := own_rd ho2
  have HS2 := Lib.hid hrow
  clear hb2 ho2 hrow HSp
  go_wp2_with fail
  (with_reducible refine (HJ.out _).mono ?_); rintro e w3 ⟨rfl, hw3⟩
  subst hw3
  go_wp2_with fail
  go_loopw [9, 11] (fun vb vi W => ∃ k : Nat, k ≤ l0.length ∧ vi = .int .i64 k ∧ vb = .bool (anyHas l0 x y k) ∧ Below w3.heap.size w3 W) (fun _ vi _ => l0.length - (intOf vi).toNat)
  case atStart => exact ⟨0, by omega, rfl, rfl, Below.refl _ _⟩
  case round =>
  obtain ⟨k, hk, rfl, rfl, hb⟩ := hrel
  have HB := Lib.hid hb
  clear hb
  by_cases hlt : k < l0.length
  · have d : decide ((k : Int) < l0.length) = true := decide_eq_true (by omega)
    have dn : decide (k < l0.length) = true := decide_eq_true hlt
    have bk : (k : Int) < l0.length := by omega
    have hs : anyHas l0 x y (k + 1) = (anyHas l0 x y k || l0[k].has x y) := any_snoc l0 _ k hlt
    have HHx := Lib.hid (fun W => HHa.out l0[k] (HB30.out _ (List.getElem_mem hlt)) W)
    obtain ⟨g, o, rfl, f0, f1, f2⟩ := c_at (HP0.out.below (below_up H2.out HB.out)) hlt
    generalize l0[k] = c at *
    generalize c.has x y = hc at *
    have HS := Lib.hid hs
    clear hs
    obtain ⟨b1, hb1⟩ : ∃ b, anyHas l0 x y (k + 1) = b := ⟨_, rfl⟩
    have HK1 := Lib.hid hb1
    rw [hb1] at HS
    clear hb1
    cases hb0 : anyHas l0 x y k with
    | true =>
      have hb1 : b1 = true := by rw [HS.out, hb0]; rfl
      subst hb1
      clear hb0 HS
      go_wp2
      exact ⟨⟨k + 1, by omega, by go_num, by rw [HK1.out], HB.out⟩, by simp [intOf]; omega⟩
    | false =>
      have hb1 : b1 = hc := by rw [HS.out, hb0]; rfl
      subst hb1
      clear hb0 HS
      go_wp2_with fail
      (with_reducible refine (HHx.out _).mono ?_); rintro e w4 ⟨rfl, hb4⟩
      have HB4 := Lib.hid (below_up HB.out hb4)
      clear hb4
      go_wp2
      exact ⟨⟨k + 1, by omega, by go_num, by rw [HK1.out], HB4.out⟩, by simp [intOf]; omega⟩
  · have hkl : k = l0.length := by omega
    subst hkl
    have d : decide ((l0.length : Int) < l0.length) = false := decide_eq_false (by omega)
    have dn : decide (l0.length < l0.length) = false := decide_eq_false (by omega)
    have H4 := Lib.hid (below_up H2.out HB.out)
    have HS4 := Lib.hid (HS2.out.below HB.out)
    rw [HSame.out]
    go_wp2_with fail
    generalize wr = w4 at *
    go_loopw [10, 12] (fun vb vi W => ∃ k : Nat, k ≤ S.length ∧ vi = .int .i64 k ∧ vb = .bool (anyIn S z k) ∧ Below w4.heap.size w4 W) (fun _ vi _ => S.length - (intOf vi).toNat)
    case atStart => exact ⟨0, by omega, rfl, rfl, Below.refl _ _⟩
    case round =>
    obtain ⟨k, hk, rfl, rfl, hb⟩ := hrel
    have HB5 := Lib.hid hb
    clear hb
    by_cases hlt : k < S.length
    · have d : decide ((k : Int) < S.length) = true := decide_eq_true (by omega)
      have dn : decide (k < S.length) = true := decide_eq_true hlt
      have bk : (k : Int) < S.length := by omega
      have hs : anyIn S z (k + 1) = (anyIn S z k || (decide (S[k].1 ≤ z) && decide (z ≤ S[k].2))) := any_snoc S _ k hlt
      have hrow5 := HS4.out.below HB5.out
      obtain ⟨g, o, rfl, f0, f1⟩ := s_at hrow5 hlt
      have hle := HLe.out _ (List.getElem_mem hlt)
      have HL1 := Lib.hid (HLt.out _ (List.getElem_mem hlt))
      have HPv : Hid (0 < k → wr.cell? ⟨g, o + (k - 1) * 2 + 1, none⟩ = some (.int .u64 (S[k - 1].2 : Nat)) ∧ S[k - 1].2 + 2 ≤ S[k].1) := Lib.hid (fun h0 => by
        obtain ⟨g1, o1, e1, _, f4⟩ := s_at hrow5 (k := k - 1) (by omega)
        cases e1
        exact ⟨f4, List.pairwise_iff_getElem.1 HPw.out (k - 1) k (by omega) hlt (by omega)⟩)
      clear hrow5
      obtain ⟨e1, he1⟩ : ∃ e, S[k].1 = e := ⟨_, rfl⟩
      obtain ⟨e2, he2⟩ : ∃ e, S[k].2 = e := ⟨_, rfl⟩
      obtain ⟨p2, hp2⟩ : ∃ e, S[k - 1].2 = e := ⟨_, rfl⟩
      rw [he1] at hs f0 hle HL1 HPv
      rw [he2] at hs f1 hle HL1
      rw [hp2] at HPv
      clear he1 he2 hp2
      obtain ⟨b1, hb1⟩ : ∃ b, anyIn S z (k + 1) = b := ⟨_, rfl⟩
      have HK1 := Lib.hid hb1
      rw [hb1] at hs
      clear hb1
      obtain ⟨b0, hb0⟩ : ∃ b, anyIn S z k = b := ⟨_, rfl⟩
      rw [hb0] at hs
      rw [hb0]
      have HS := Lib.hid hs
      clear hb0 hs
      go_upto_region 14 with (fail)
      go_cut [10] from 51 to 69 (fun v10 wx => v10 = .bool b1 ∧ wr = wx)
      case first =>
        cases b0 with
        | true =>
          have hb1 : b1 = true := by rw [HS.out]; rfl
          subst hb1
          go_wp2
          go_meet
          case rel => exact ⟨rfl, rfl⟩
        | false =>
          have HV1 : Hid (b1 = (decide (e1 ≤ z) && decide (z ≤ e2))) := Lib.hid HS.out
          clear HS
          by_cases c1 : e1 ≤ z
          · have k1 : decide (e1 ≤ z) = true := decide_eq_true c1
            have k2 : decide ((e1 : Int) ≤ z) = true := decide_eq_true (by omega)
            obtain ⟨q, hq⟩ : ∃ q, decide (z ≤ e2) = q := ⟨_, rfl⟩
            have k3 : decide ((z : Int) ≤ e2) = q := by rw [← hq, decide_eq_decide]; omega
            have hb1 : b1 = q := by rw [HV1.out, k1, hq]; rfl
            clear HV1
            subst hb1
            go_wp2
            go_meet
            case rel => exact ⟨rfl, rfl⟩
          · have k1 : decide (e1 ≤ z) = false := decide_eq_false c1
            have k2 : decide ((e1 : Int) ≤ z) = false := decide_eq_false (by omega)
            have hb1 : b1 = false := by rw [HV1.out, k1]; rfl
            clear HV1
            subst hb1
            go_wp2
            go_meet
            case rel => exact ⟨rfl, rfl⟩
      case rest =>
      obtain ⟨rfl, hw⟩ := hcut
      subst hw
      go_wp2_with fail
      have k1 : decide (e2 < e1) = false := decide_eq_false (by omega)
      have k2 : decide ((e2 : Int) < e1) = false := decide_eq_false (by omega)
      by_cases h0 : 0 < k
      · obtain ⟨f4, h4⟩ := HPv.out h0
        have k3 : decide ((0 : Int) < k) = true := decide_eq_true (by omega)
        have k4 : decide (0 < k) = true := decide_eq_true h0
        have k5 : decide ((e1 : Int) ≤ p2) = false := decide_eq_false (by omega)
        have k6 : decide (e1 ≤ p2) = false := decide_eq_false (by omega)
        have kw : IntKind.u64.wrap ((e1 : Int) - p2) = (e1 : Int) - p2 := by have := HL1.out; rw [IntKind.wrap_u64]; omega
        have k7 : decide ((e1 : Int) - p2 < 2) = false := decide_eq_false (by omega)
        have kw2 : IntKind.i64.wrap ((k : Int) - 1) = ((k - 1 : Nat) : Int) := by rw [IntWalk.i64_in _ (by omega)]; omega
        have bk1 : ((k - 1 : Nat) : Int) < S.length := by omega
        have bk2 : k - 1 < S.length := by omega
        generalize k - 1 = j at *
        clear HPv h0 h4
        go_quiet (fail)
        go_wp2
        exact ⟨⟨k + 1, by omega, by go_num, by rw [HK1.out], below_up HB5.out (below_drewN _)⟩, by simp [intOf]; omega⟩
      · obtain rfl : k = 0 := by omega
        have k3 : decide ((0 : Int) < (0 : Nat)) = false := by decide
        clear HPv h0
        rw [Nat.zero_mul, Nat.add_zero] at f0 f1
        go_quiet (fail)
        go_wp2
        exact ⟨⟨1, by omega, by go_num, by rw [HK1.out], below_up HB5.out (below_drewN _)⟩, by simp [intOf]; omega⟩
    · have hkl : k = S.length := by omega
      subst hkl
      have d : decide ((S.length : Int) < S.length) = false := decide_eq_false (by omega)
      have dn : decide (S.length < S.length) = false := decide_eq_false (by omega)
      have H6 := Lib.hid (below_up H4.out HB5.out)
      have HOr := Lib.hid (order_ok _ l0 wr (HP0.out.below H6.out) HB30.out (by omega))
      obtain ⟨O, hO, hol, hst, hfo⟩ : ∃ O, ordL l0 = O ∧ O.length = l0.length ∧ (∀ i (h : i + 1 < O.length), begC O[i] ≤ begC O[i + 1] ∧ (begC O[i] = begC O[i + 1] → O[i].l ≤ O[i + 1].l)) ∧ ∀ d ∈ O, d.fine := ⟨_, rfl, ordL_len l0, fun i h => ordL_step l0 i h, fun d hd => by
        obtain ⟨c, hc, rfl⟩ := ordL_mem.1 hd
        exact (fix_good (HB30.out c hc)).1⟩
      have HSt := Lib.hid hst
      have HFo := Lib.hid hfo
      rw [hO] at HOr
      have HOL := Lib.hid hol
      have hol1 : O.length ≤ 30 := by omega
      clear hO hst hfo hol
      have HJn := Lib.hid (fun (c : CeS) (h : c.fine) W => (join_ok c.x c.y W h.1 h.2.1 : Calls _ _ _ W _))
      go_wp2_with fail
      (with_reducible refine HOr.out.mono ?_); rintro e w6 ⟨v6, rfl, ho6, hb6⟩
      have HRo := Lib.hid (srd_own CeS.cells_len (by decide) ho6 : CRow w6 v6 O)
      have H7 := Lib.hid (below_up H6.out hb6)
      obtain ⟨Ao, co, rfl, _, _, _, _⟩ := own_rd ho6
      clear ho6 hb6 HOr
      go_wp2_with fail
      go_loopw [14] (fun vi W => ∃ k : Nat, 1 ≤ k ∧ k ≤ O.length + 1 ∧ vi = .int .i64 k ∧ Below w6.heap.size w6 W) (fun vi _ => O.length + 1 - (intOf vi).toNat)
      case atStart => exact ⟨1, by omega, by omega, rfl, Below.refl _ _⟩
      case round =>
      obtain ⟨k, hk1, hk, rfl, hb⟩ := hrel
      have HB6 := Lib.hid hb
      clear hb d dn
      by_cases hlt : k < O.length
      · have d : decide ((k : Int) < O.length) = true := decide_eq_true (by omega)
        have dn : decide (k < O.length) = true := decide_eq_true hlt
        have bk : (k : Int) < O.length := by omega
        obtain ⟨j, rfl⟩ : ∃ j, k = j + 1 := ⟨k - 1, by omega⟩
        have hst := HSt.out j hlt
        obtain ⟨g, o, rfl, x0, x1, x2⟩ := c_at (HRo.out.below HB6.out) (k := j) (by omega)
        obtain ⟨g', o', e', y0, y1, y2⟩ := c_at (HRo.out.below HB6.out) hlt
        cases e'
        have HJ1 := Lib.hid (fun W => HJn.out O[j] (HFo.out _ (List.getElem_mem _)) W)
        have HJ2 := Lib.hid (fun W => HJn.out O[j + 1] (HFo.out _ (List.getElem_mem _)) W)
        change Hid (∀ W, Calls _ _ #[.int .u32 (O[j].x : Nat), .int .u32 (O[j].y : Nat)] W fun e w' => e = .returned (.int .u64 (begC O[j] : Nat)) ∧ w' = W) at HJ1
        change Hid (∀ W, Calls _ _ #[.int .u32 (O[j + 1].x : Nat), .int .u32 (O[j + 1].y : Nat)] W fun e w' => e = .returned (.int .u64 (begC O[j + 1] : Nat)) ∧ w' = W) at HJ2
        obtain ⟨a, ha⟩ : ∃ a, begC O[j] = a := ⟨_, rfl⟩
        obtain ⟨b, hb⟩ : ∃ b, begC O[j + 1] = b := ⟨_, rfl⟩
        rw [ha] at HJ1 hst
        rw [hb] at HJ2 hst
        clear ha hb
        generalize O[j] = p at *
        generalize O[j + 1] = q at *
        have HD := Lib.hid (below_up HB6.out (below_drew1 (w := wr)))
        obtain ⟨K, hK⟩ : ∃ K, j + 1 = K := ⟨_, rfl⟩
        rw [hK] at d dn bk y0 y1 y2 hk hk1 hlt
        rw [hK]
        have kw : IntKind.i64.wrap ((K : Int) - 1) = (j : Int) := by rw [IntWalk.i64_in _ (by omega)]; omega
        have bj : (j : Int) < O.length := by omega
        have bj2 : j < O.length := by omega
        have hKp := hK
        have HKj := Lib.hid hK
        clear hK hKp
        go_upto_region 21 with (fail)
        go_cut [15, 16] from 122 to 145 (fun v15 v16 wx => v15 = .int .u64 (a : Nat) ∧ v16 = .int .u64 (b : Nat) ∧ wr.drew = wx)
        case first =>
          refine beginS (S := fun W => (W.cell? ⟨g, o + j * 3, none⟩ = some (.int .u32 (p.x : Nat)) ∧ W.cell? ⟨g, o + j * 3 + 1, none⟩ = some (.int .u32 (p.y : Nat)) ∧ W.cell? ⟨g, o + j * 3 + 2, none⟩ = some (.int .i64 p.l)) ∧ (W.cell? ⟨g, o + K * 3, none⟩ = some (.int .u32 (q.x : Nat)) ∧ W.cell? ⟨g, o + K * 3 + 1, none⟩ = some (.int .u32 (q.y : Nat)) ∧ W.cell? ⟨g, o + K * 3 + 2, none⟩ = some (.int .i64 q.l))) [] (by kernel_rfl) ⟨⟨x0, x1, x2⟩, ⟨y0, y1, y2⟩⟩ (fun hHeld0 => ?_)
          have HS0 := Lib.hid hHeld0
          clear x0 x1 x2 y0 y1 y2
          generalize (World.drew wr) = W0 at *
          refine takeF (i := 0) (v := ?_) rfl (by kernel_rfl) (fun _ _ _ h => h) (Or.inl ⟨by kernel_rfl, ?_⟩) (by assumption) ?_; rotate_left; (focus (intro w _; go_simp; (try with_reducible rfl); done)); (try simp only [Act.put, List.getElem_toArray, List.getElem_cons_succ, List.getElem_cons_zero, List.setIfInBounds_toArray, List.set_cons_zero, List.set_cons_succ])
          refine takeF (i := 1) (v := ?_) rfl (by kernel_rfl) (fun _ _ _ h => h) (Or.inl ⟨by kernel_rfl, ?_⟩) (by assumption) ?_; rotate_left; (focus (intro w _; go_simp; (try with_reducible rfl); done)); (try simp only [Act.put, List.getElem_toArray, List.getElem_cons_succ, List.getElem_cons_zero, List.setIfInBounds_toArray, List.set_cons_zero, List.set_cons_succ])
          refine takeF (i := 2) (v := ?_) rfl (by kernel_rfl) (fun _ _ _ h => h) (Or.inl ⟨by kernel_rfl, ?_⟩) (by assumption) ?_; rotate_left; (focus (intro w _; go_simp; (try with_reducible rfl); done)); (try simp only [Act.put, List.getElem_toArray, List.getElem_cons_succ, List.getElem_cons_zero, List.setIfInBounds_toArray, List.set_cons_zero, List.set_cons_succ])
          refine takeF (i := 3) (v := ?_) rfl (by kernel_rfl) (fun _ _ _ h => h) (Or.inl ⟨by kernel_rfl, ?_⟩) (by assumption) ?_; rotate_left; (focus (intro w _; go_simp; (try with_reducible rfl); done)); (try simp only [Act.put, List.getElem_toArray, List.getElem_cons_succ, List.getElem_cons_zero, List.setIfInBounds_toArray, List.set_cons_zero, List.set_cons_succ])
          refine takeF (i := 4) (v := ?_) rfl (by kernel_rfl) (fun _ _ _ h => h) (Or.inl ⟨by kernel_rfl, ?_⟩) (by assumption) ?_; rotate_left; (focus (intro w _; go_simp; (try with_reducible rfl); done)); (try simp only [Act.put, List.getElem_toArray, List.getElem_cons_succ, List.getElem_cons_zero, List.setIfInBounds_toArray, List.set_cons_zero, List.set_cons_succ])
          refine takeH (i := 5) (v := ?_) rfl (by kernel_rfl) (fun _ _ _ h => h) (Or.inl ⟨by kernel_rfl, ?_⟩) (by assumption) ?_; rotate_left; (focus (intro w hSw; (try dsimp only at hSw); go_simp; (try with_reducible rfl); done)); (try simp only [Act.put, List.getElem_toArray, List.getElem_cons_succ, List.getElem_cons_zero, List.setIfInBounds_toArray, List.set_cons_zero, List.set_cons_succ])
          refine takeF (i := 6) (v := ?_) rfl (by kernel_rfl) (fun _ _ _ h => h) (Or.inl ⟨by kernel_rfl, ?_⟩) (by assumption) ?_; rotate_left; (focus (intro w _; go_simp; (try with_reducible rfl); done)); (try simp only [Act.put, List.getElem_toArray, List.getElem_cons_succ, List.getElem_cons_zero, List.setIfInBounds_toArray, List.set_cons_zero, List.set_cons_succ])
          refine takeF (i := 7) (v := ?_) rfl (by kernel_rfl) (fun _ _ _ h => h) (Or.inl ⟨by kernel_rfl, ?_⟩) (by assumption) ?_; rotate_left; (focus (intro w _; go_simp; (try with_reducible rfl); done)); (try simp only [Act.put, List.getElem_toArray, List.getElem_cons_succ, List.getElem_cons_zero, List.setIfInBounds_toArray, List.set_cons_zero, List.set_cons_succ])
          refine takeF (i := 8) (v := ?_) rfl (by kernel_rfl) (fun _ _ _ h => h) (Or.inl ⟨by kernel_rfl, ?_⟩) (by assumption) ?_; rotate_left; (focus (intro w _; go_simp; (try with_reducible rfl); done)); (try simp only [Act.put, List.getElem_toArray, List.getElem_cons_succ, List.getElem_cons_zero, List.setIfInBounds_toArray, List.set_cons_zero, List.set_cons_succ])
          refine takeF (i := 9) (v := ?_) rfl (by kernel_rfl) (fun _ _ _ h => h) (Or.inl ⟨by kernel_rfl, ?_⟩) (by assumption) ?_; rotate_left; (focus (intro w _; go_simp; (try with_reducible rfl); done)); (try simp only [Act.put, List.getElem_toArray, List.getElem_cons_succ, List.getElem_cons_zero, List.setIfInBounds_toArray, List.set_cons_zero, List.set_cons_succ])
          refine takeF (i := 10) (v := ?_) rfl (by kernel_rfl) (fun _ _ _ h => h) (Or.inl ⟨by kernel_rfl, ?_⟩) (by assumption) ?_; rotate_left; (focus (intro w _; go_simp; (try with_reducible rfl); done)); (try simp only [Act.put, List.getElem_toArray, List.getElem_cons_succ, List.getElem_cons_zero, List.setIfInBounds_toArray, List.set_cons_zero, List.set_cons_succ])
          refine takeH (i := 11) (v := ?_) rfl (by kernel_rfl) (fun _ _ _ h => h) (Or.inl ⟨by kernel_rfl, ?_⟩) (by assumption) ?_; rotate_left; (focus (intro w hSw; (try dsimp only at hSw); go_simp; (try with_reducible rfl); done)); (try simp only [Act.put, List.getElem_toArray, List.getElem_cons_succ, List.getElem_cons_zero, List.setIfInBounds_toArray, List.set_cons_zero, List.set_cons_succ])
          refine takeF (i := 13) (v := ?_) rfl (by kernel_rfl) (fun _ _ _ h => h) (Or.inl ⟨by kernel_rfl, ?_⟩) (by assumption) ?_; rotate_left; (focus (intro w _; go_simp; (try with_reducible rfl); done)); (try simp only [Act.put, List.getElem_toArray, List.getElem_cons_succ, List.getElem_cons_zero, List.setIfInBounds_toArray, List.set_cons_zero, List.set_cons_succ])
          refine takeF (i := 14) (v := ?_) rfl (by kernel_rfl) (fun _ _ _ h => h) (Or.inl ⟨by kernel_rfl, ?_⟩) (by assumption) ?_; rotate_left; (focus (intro w _; go_simp; (try with_reducible rfl); done)); (try simp only [Act.put, List.getElem_toArray, List.getElem_cons_succ, List.getElem_cons_zero, List.setIfInBounds_toArray, List.set_cons_zero, List.set_cons_succ])
          refine takeF (i := 15) (v := ?_) rfl (by kernel_rfl) (fun _ _ _ h => h) (Or.inl ⟨by kernel_rfl, ?_⟩) (by assumption) ?_; rotate_left; (focus (intro w _; go_simp; (try with_reducible rfl); done)); (try simp only [Act.put, List.getElem_toArray, List.getElem_cons_succ, List.getElem_cons_zero, List.setIfInBounds_toArray, List.set_cons_zero, List.set_cons_succ])
          refine takeF (i := 16) (v := ?_) rfl (by kernel_rfl) (fun _ _ _ h => h) (Or.inl ⟨by kernel_rfl, ?_⟩) (by assumption) ?_; rotate_left; (focus (intro w _; go_simp; (try with_reducible rfl); done)); (try simp only [Act.put, List.getElem_toArray, List.getElem_cons_succ, List.getElem_cons_zero, List.setIfInBounds_toArray, List.set_cons_zero, List.set_cons_succ])
          refine takeH (i := 17) (v := ?_) rfl (by kernel_rfl) (fun _ _ _ h => h) (Or.inl ⟨by kernel_rfl, ?_⟩) (by assumption) ?_; rotate_left; (focus (intro w hSw; (try dsimp only at hSw); go_simp; (try with_reducible rfl); done)); (try simp only [Act.put, List.getElem_toArray, List.getElem_cons_succ, List.getElem_cons_zero, List.setIfInBounds_toArray, List.set_cons_zero, List.set_cons_succ])
          refine takeF (i := 18) (v := ?_) rfl (by kernel_rfl) (fun _ _ _ h => h) (Or.inl ⟨by kernel_rfl, ?_⟩) (by assumption) ?_; rotate_left; (focus (intro w _; go_simp; (try with_reducible rfl); done)); (try simp only [Act.put, List.getElem_toArray, List.getElem_cons_succ, List.getElem_cons_zero, List.setIfInBounds_toArray, List.set_cons_zero, List.set_cons_succ])
          refine takeF (i := 19) (v := ?_) rfl (by kernel_rfl) (fun _ _ _ h => h) (Or.inl ⟨by kernel_rfl, ?_⟩) (by assumption) ?_; rotate_left; (focus (intro w _; go_simp; (try with_reducible rfl); done)); (try simp only [Act.put, List.getElem_toArray, List.getElem_cons_succ, List.getElem_cons_zero, List.setIfInBounds_toArray, List.set_cons_zero, List.set_cons_succ])
          refine takeF (i := 20) (v := ?_) rfl (by kernel_rfl) (fun _ _ _ h => h) (Or.inl ⟨by kernel_rfl, ?_⟩) (by assumption) ?_; rotate_left; (focus (intro w _; go_simp; (try with_reducible rfl); done)); (try simp only [Act.put, List.getElem_toArray, List.getElem_cons_succ, List.getElem_cons_zero, List.setIfInBounds_toArray, List.set_cons_zero, List.set_cons_succ])
          refine takeF (i := 21) (v := ?_) rfl (by kernel_rfl) (fun _ _ _ h => h) (Or.inl ⟨by kernel_rfl, ?_⟩) (by assumption) ?_; rotate_left; (focus (intro w _; go_simp; (try with_reducible rfl); done)); (try simp only [Act.put, List.getElem_toArray, List.getElem_cons_succ, List.getElem_cons_zero, List.setIfInBounds_toArray, List.set_cons_zero, List.set_cons_succ])
          refine takeH (i := 22) (v := ?_) rfl (by kernel_rfl) (fun _ _ _ h => h) (Or.inl ⟨by kernel_rfl, ?_⟩) (by assumption) ?_; rotate_left; (focus (intro w hSw; (try dsimp only at hSw); go_simp; (try with_reducible rfl); done)); (try simp only [Act.put, List.getElem_toArray, List.getElem_cons_succ, List.getElem_cons_zero, List.setIfInBounds_toArray, List.set_cons_zero, List.set_cons_succ])
          clear hHeld0
          refine readyS (rs := [12]) (by kernel_rfl) (by simp) ?_
          refine ReadyS.consH rfl (fun K hK => ?_) ReadyS.nil
          (try simp only [List.getElem_toArray, List.getElem_cons_succ, List.getElem_cons_zero])
          go_simp
          (with_reducible refine (HJ1.out _).mono ?_); rintro e W2 ⟨rfl, hw⟩
          subst hw
          refine hK.out _ _ (HS0.out) (fun hHeld => ?_)
          clear hK K
          (try simp only [Act.put, List.getElem_toArray, List.getElem_cons_succ, List.getElem_cons_zero, List.setIfInBounds_toArray, List.set_cons_zero, List.set_cons_succ])
          clear hHeld
          refine readyS (rs := [23]) (by kernel_rfl) (by simp) ?_
          refine ReadyS.consH rfl (fun K hK => ?_) ReadyS.nil
          (try simp only [List.getElem_toArray, List.getElem_cons_succ, List.getElem_cons_zero])
          go_simp
          (with_reducible refine (HJ2.out _).mono ?_); rintro e W3 ⟨rfl, hw⟩
          subst hw
          refine hK.out _ _ (HS0.out) (fun hHeld => ?_)
          clear hK K
          (try simp only [Act.put, List.getElem_toArray, List.getElem_cons_succ, List.getElem_cons_zero, List.setIfInBounds_toArray, List.set_cons_zero, List.set_cons_succ])
          refine takeF (i := 24) (v := ?_) rfl (by kernel_rfl) (fun _ _ _ h => h) (Or.inl ⟨by kernel_rfl, ?_⟩) (by assumption) ?_; rotate_left; (focus (intro w _; go_simp; (try with_reducible rfl); done)); (try simp only [Act.put, List.getElem_toArray, List.getElem_cons_succ, List.getElem_cons_zero, List.setIfInBounds_toArray, List.set_cons_zero, List.set_cons_succ])
          refine takeF (i := 25) (v := ?_) rfl (by kernel_rfl) (fun _ _ _ h => h) (Or.inl ⟨by kernel_rfl, ?_⟩) (by assumption) ?_; rotate_left; (focus (intro w _; go_simp; (try with_reducible rfl); done)); (try simp only [Act.put, List.getElem_toArray, List.getElem_cons_succ, List.getElem_cons_zero, List.setIfInBounds_toArray, List.set_cons_zero, List.set_cons_succ])
          refine doneS (by kernel_rfl) ?_ _
          go_wp2
          go_meet
          case rel => exact ⟨rfl, rfl, rfl⟩
        case rest =>
        obtain ⟨rfl, rfl, hw⟩ := hcut
        subst hw
        go_wp2_with fail
        have k1 : decide (b < a) = false := decide_eq_false (by omega)
        have k2 : decide ((b : Int) < a) = false := decide_eq_false (by omega)
        by_cases hab : a = b
        · subst hab
          have hpq := hst.2 rfl
          have k3 : decide (q.l < p.l) = false := decide_eq_false (by omega)
          have k4 : ((a : Int) == a) = true := by rw [beq_iff_eq]
          have k5 : decide ((a : Int) = a) = true := decide_eq_true rfl
          clear hst
          go_quiet (fail)
          go_wp2
          exact ⟨⟨K + 1, by omega, by omega, by go_num, below_up HB6.out (below_drewN _)⟩, by simp [intOf]; omega⟩
        · have k4 : ((a : Int) == b) = false := by rw [beq_eq_false_iff_ne]; omega
          have k5 : decide ((a : Int) = b) = false := decide_eq_false (by omega)
          have k6 : decide (a = b) = false := decide_eq_false hab
          clear hst
          go_quiet (fail)
          go_wp2
          exact ⟨⟨K + 1, by omega, by omega, by go_num, below_up HB6.out (below_drewN _)⟩, by simp [intOf]; omega⟩
      · have d : decide ((k : Int) < O.length) = false := decide_eq_false (by omega)
        have dn : decide (k < O.length) = false := decide_eq_false hlt
        have H8 := Lib.hid (below_up H7.out HB6.out)
        have k1 : ((O.length : Int) == l0.length) = true := by rw [beq_iff_eq, HOL.out]
        have k2 : decide ((O.length : Int) = l0.length) = true := decide_eq_true (by rw [HOL.out])
        have k3 : decide (O.length = l0.length) = true := decide_eq_true HOL.out
        generalize anyIn S z S.length = b at *
        clear hlt
        cases b with
        | true =>
          go_wp2
          go_ret
          exact ⟨ret_bool (by first | rfl | simp), H8.out⟩
        | false =>
          go_wp2
          go_ret
          exact ⟨ret_bool (by first | rfl | simp), H8.out⟩
end Go.Proofs.Ytdomngpkahgoiaa.Ti
