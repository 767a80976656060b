/- The walk over croftref08.Put. -/
import Derived.Test.YthpnlgdcijmocaaNd6
namespace Go.Proofs.Ythpnlgdcijmocaa.Nd
open Go.RowKit Lt Pt Rg
set_option linter.unusedVariables false
set_option linter.unusedSimpArgs false
theorem bv_lt (k : Nat) (h : k < 256) : bv [UInt8.ofNat k] = [.int .u8 (k : Int)] := by
  have e := bv_of k
  rw [Nat.mod_eq_of_lt h, Int.emod_eq_of_lt (by omega) (by omega)] at e
  exact e
theorem bv_cons (a : UInt8) (l : List UInt8) : bv (a :: l) = bv [a] ++ bv l := rfl
theorem bv_lead (N M : Nat) (hN : N < 256) (hM : M < 256) : (#[Value.int .u8 1, .int .u8 (N : Int), .int .u8 (M : Int)] : Array Value).toList = bv [1, UInt8.ofNat N, UInt8.ofNat M] := by
  rw [bv_cons 1, bv_cons (UInt8.ofNat N), bv_lt N hN, bv_lt M hM]; rfl
theorem infoU : (Try.prog.info? 5).map (fun i => (i.zero, i.size, i.bytes)) = some (some (.int .u8 0), 1, 1) := by kernel_rfl
theorem brd_lit3 (w : World) (cs : Array Value) (l : List UInt8) (n : Nat) (hn : l.length = n) (h : cs.toList = bv l) (hm : n ≤ maxLen) : BRd (w.alloc (.cells cs 5)) (.slice (some ⟨w.heap.size, 0, none⟩) n n) l := by
  have hs : cs.size = n * 1 := by
    have := congrArg List.length h
    rw [bv_length, hn] at this
    simpa using this
  have o := own_new w w.heap.size 5 1 n cs (Nat.le_refl _) hm hs
  rw [h] at o
  exact brd_own o
theorem num2' (N : Nat) (w : World) (hN : N ≤ 9223372036854775807) :
    Calls Try.prog 82 #[.int .i64 N, .int .i64 2] w fun e w' => ∃ v, e = .returned v ∧ Below w.heap.size w w' ∧ BRd w' v (numB 2 N) :=
  (refnum_pos N 2 w hN (by decide)).mono fun e w' ⟨x, h1, h2, h3⟩ => ⟨x, h1, h2, brd_own h3⟩
set_option maxHeartbeats 8000000 in
set_option maxRecDepth 100000 in
theorem rput_ok (n : NdS) (w : World) (h : PRd w n.v n.pts) (hf : ∀ p ∈ n.pts, p.fine) (hm : May n) :
    Calls Try.prog 47 #[nv n] w fun e w' => ∃ v, e = .returned v ∧ BRd w' v (nodeB n) ∧ Below w.heap.size w w' := by
  have q1 := alloc_at (w := w) (.cells (ncells n) 49) rfl
  have qb := below_alloc1 w (.cells (ncells n) 49)
  have HB := Lib.hid qb
  have HP := Lib.hid (h.below qb)
  have HX := Lib.hid q1
  have HSz : Hid ((w.alloc (.cells (ncells n) 49)).heap.size = w.heap.size + 1) := Lib.hid (by unfold World.alloc; simp)
  obtain ⟨A, c, hv, _⟩ := h
  unfold May at hm
  unfold nodeB
  obtain ⟨lf, v, pts, next, ks, cs⟩ := n
  simp only at HB hv HP HX HSz hm hf ⊢
  subst hv
  have hn := (nd_all q1).1
  simp only at hn
  clear qb q1
  cases lf
  · simp only [Bool.false_eq_true, if_false] at hm ⊢
    have HQ := Lib.hid hm.2.2
    clear hm
    go_enter Try.func47, Try.ntmps47
    go_wp2_with fail
    generalize World.alloc w _ = w1 at *
    clear hn
    have HO1 : Hid ((w1.alloc (.cells #[.int .u8 0] 5)).ownsRow w1.heap.size 5 1 (.slice (some ⟨w1.heap.size, 0, none⟩) 1 1) 1 (bv ([0] ++ ksB ks 0))) := Lib.hid (own_new w1 w1.heap.size 5 1 1 #[.int .u8 0] (Nat.le_refl _) (by decide) rfl)
    have HB1 := Lib.hid (below_alloc1 w1 (.cells #[.int .u8 0] 5))
    go_loopw [5, 6] (fun vb vq W => ∃ q : Nat, vq = .int .i64 q ∧ q ≤ 4 ∧ W.ownsRow w1.heap.size 5 1 vb (1 + q) (bv ([0] ++ ksB ks q)) ∧ Below w1.heap.size w1 W) (fun _ vq _ => 4 - (intOf vq).toNat)
    case atStart => exact ⟨0, rfl, by omega, by rw [← HSz.out]; exact HO1.out, HB1.out⟩
    case round =>
    obtain ⟨q, rfl, hq, hO, hb⟩ := hrel
    obtain ⟨Av, cv, rfl, _⟩ := own_rd hO
    have HO2 := Lib.hid hO; have HB2 := Lib.hid hb
    clear hO hb
    by_cases hq4 : q < 4
    · have dq : decide ((q : Int) < 4) = true := decide_eq_true (by omega)
      have bq : (q : Int) < 4 := by omega
      have ck := (nd_cells (block_up HX.out HB2.out)).2.2.2.1 q hq4
      have hok := HQ.out q hq4
      have hks := ksB_succ ks q
      simp only at ck
      obtain ⟨k, hk⟩ : ∃ k : Nat, ks q = k := ⟨(ks q).toNat, by have := hok.1; omega⟩
      simp only [hk] at ck hok hks
      have hk255 : k < 256 := by have := hok.2.1; omega
      have bk : (k : Int) < 256 := by omega
      have HKs := Lib.hid hks
      have HV := Lib.hid (bv_lt k hk255)
      clear hks hok hk
      go_wp2_with (at_builtin; refine wpList_app rfl _ _ 78 rfl w1.heap.size 5 (.int .u8 0) 1 1 Try.underlying78 infoU rfl (by decide) (by decide) (.slice Av (1 + q) cv) (1 + q) (bv ([0] ++ ksB ks q)) rfl (some ⟨wr.heap.size, 0, none⟩) 1 1 (bv [UInt8.ofNat k]) rfl (own_below HO2.out (below_alloc1 _ _)) rfl (rd_new _ _ _ _ (by rw [HV.out])) (bv_one _) (by omega) (Nat.le_trans HB2.out.size (below_alloc1 _ _).size) ?_
                   intro A5 c5 w6 hown hgrow hat
                   have HB6 := Lib.hid (below_grown (below_up HB2.out (below_alloc1 wr (.cells #[.int .u8 (k : Int)] 5))) hgrow (fun k e => own_base HO2.out k e))
                   rw [← bv_append, List.append_assoc] at hown
                   have HO6 := Lib.hid hown
                   clear hown hgrow hat)
      exact ⟨⟨q + 1, by go_num, by omega, by rw [HKs.out, Int.toNat_natCast]; exact HO6.out, HB6.out⟩, by simp [intOf]; omega⟩
    · obtain rfl : q = 4 := by omega
      have HR2 : Hid (BRd wr (.slice Av (1 + 4) cv) ([0] ++ ksB ks 4 ++ csB cs 0)) := Lib.hid (by
        have := brd_own HO2.out
        simpa [csB] using this)
      rw [show ((4 : Nat) : Int) = 4 from rfl]
      go_wp2_with fail
      generalize hwb : wr = wb at *
      clear hwb
      go_loopw [5, 7] (fun vb vq W => ∃ q : Nat, vq = .int .i64 q ∧ q ≤ 4 ∧ BRd W vb ([0] ++ ksB ks 4 ++ csB cs q) ∧ Below w1.heap.size w1 W) (fun _ vq _ => 4 - (intOf vq).toNat)
      case atStart => exact ⟨0, rfl, by omega, HR2.out, HB2.out⟩
      case round =>
      obtain ⟨q, rfl, hq, hO, hb⟩ := hrel
      have HR3 := Lib.hid hO; have HB3 := Lib.hid hb
      clear hO hb
      by_cases hq4 : q < 4
      · have dq : decide ((q : Int) < 4) = true := decide_eq_true (by omega)
        have bq : (q : Int) < 4 := by omega
        have ck := (nd_cells (block_up HX.out HB3.out)).2.2.2.2 q hq4
        have hok := HQ.out q hq4
        have hks := csB_succ cs q
        have hkl := csB_len cs q
        simp only at ck
        obtain ⟨k, hk⟩ : ∃ k : Nat, cs q = k := ⟨(cs q).toNat, by have := hok.2.2.1; omega⟩
        simp only [hk] at ck hok hks
        have hk2 : k ≤ 65535 := by have := hok.2.2.2.1; omega
        have HKs := Lib.hid hks
        clear hks hok hk
        go_wp2_with fail
        (with_reducible refine (num2' k _ (by omega)).mono ?_); rintro e w4 ⟨v4, rfl, hb, hv4⟩
        have HR4 := Lib.hid (HR3.out.below hb)
        have HB4 := Lib.hid (below_up HB3.out hb)
        have HV4 := Lib.hid hv4
        clear hb hv4 ck
        go_wp2_with fail
        (with_reducible refine (cat' _ _ _ _ _ HR4.out HV4.out (by simp [ksB_len, numB_len]; omega)).mono ?_); rintro e w5 ⟨v5, rfl, hb, hv5⟩
        have HR5 := Lib.hid hv5
        have HB5 := Lib.hid (below_up HB4.out hb)
        clear hb hv5
        go_wp2
        exact ⟨⟨q + 1, by go_num, by omega, by rw [HKs.out, Int.toNat_natCast, ← List.append_assoc]; exact HR5.out, HB5.out⟩, by simp [intOf]; omega⟩
      · obtain rfl : q = 4 := by omega
        rw [show ((4 : Nat) : Int) = 4 from rfl]
        go_wp2
        go_ret
        exact ⟨_, rfl, HR3.out, below_up HB.out HB3.out⟩
  · simp only [if_true] at hm ⊢
    have hnx0 := hm.2.1
    have hnx1 := hm.2.2.1
    obtain ⟨nx, rfl⟩ := Int.eq_ofNat_of_zero_le hnx0
    have hp4 := hm.1.2
    have HChk := Lib.hid (pts_chk0 hm.1)
    have HFin := Lib.hid hf
    clear hm hf
    have bp4 : (pts.length : Int) ≤ 4 := by omega
    obtain ⟨_, f1, f2, _⟩ := nd_all HX.out
    simp only at f1 f2
    have HL := Lib.hid (bv_lead nx pts.length (by omega) (by omega))
    go_enter Try.func47, Try.ntmps47
    go_wp2_with fail
    generalize World.alloc w _ = w1 at *
    clear hn f1 f2
    have HR1 : Hid (BRd (w1.alloc (.cells #[.int .u8 1, .int .u8 (nx : Int), .int .u8 (pts.length : Int)] 5)) (.slice (some ⟨w1.heap.size, 0, none⟩) 3 3) ([1, UInt8.ofNat nx, UInt8.ofNat pts.length] ++ (pts.take 0).flatMap ptB)) := Lib.hid (brd_lit3 w1 _ _ 3 rfl HL.out (by decide))
    have HB1 := Lib.hid (below_alloc1 w1 (.cells #[.int .u8 1, .int .u8 (nx : Int), .int .u8 (pts.length : Int)] 5))
    go_loopw [3, 4] (fun vb vj W => ∃ j : Nat, vj = .int .i64 j ∧ j ≤ pts.length ∧ BRd W vb ([1, UInt8.ofNat nx, UInt8.ofNat pts.length] ++ (pts.take j).flatMap ptB) ∧ Below w1.heap.size w1 W) (fun _ vj _ => pts.length - (intOf vj).toNat)
    case atStart => exact ⟨0, rfl, by omega, by rw [← HSz.out]; exact HR1.out, HB1.out⟩
    case round =>
    obtain ⟨j, rfl, hj, hO, hb⟩ := hrel
    have HR2 := Lib.hid hO; have HB2 := Lib.hid hb
    clear hO hb
    have f1 := (nd_all (block_up HX.out HB2.out)).2.1
    simp only at f1
    by_cases hjl : j < pts.length
    · have dj : decide (j < pts.length) = true := decide_eq_true hjl
      have bj : (j : Int) < pts.length := by omega
      obtain ⟨g, o, rfl, c0, c1, c2, c3⟩ := pt_at (HP.out.below HB2.out) hjl
      have hst : pts.take (j + 1) = pts.take j ++ [pts[j]] := List.take_succ_eq_append_getElem hjl
      have hpf := HFin.out _ (List.getElem_mem hjl)
      have hpc := HChk.out _ (List.getElem_mem hjl)
      have hln := pts_len (l := pts.take j) (fun p hp => HChk.out p (List.mem_of_mem_take hp))
      have hl3 : (pts.take j).length ≤ 3 := by rw [List.length_take]; omega
      obtain ⟨p, hp⟩ : ∃ p, pts[j] = p := ⟨_, rfl⟩
      rw [hp] at c0 c1 c2 c3 hst hpf hpc
      have hd16 := (chk_zero hpc).2.2
      have hpl := ptB_len p
      have HSt := Lib.hid hst
      have HPc := Lib.hid (And.intro hpf hpc)
      clear hst hpf hpc hp
      go_wp2_with fail
      (with_reducible refine (refpoint_ok p _ HPc.out.1 HPc.out.2).mono ?_); rintro e w4 ⟨v4, rfl, hv4, hb⟩
      have HR4 := Lib.hid (HR2.out.below hb)
      have HB4 := Lib.hid (below_up HB2.out hb)
      have HV4 := Lib.hid hv4
      clear hb hv4 c0 c1 c2 c3 f1
      go_wp2_with fail
      (with_reducible refine (cat' _ _ _ _ _ HR4.out HV4.out (by rw [List.length_append]; simp only [List.length_cons, List.length_nil]; omega)).mono ?_); rintro e w5 ⟨v5, rfl, hb, hv5⟩
      have HR5 := Lib.hid hv5
      have HB5 := Lib.hid (below_up HB4.out hb)
      clear hb hv5
      go_wp2
      exact ⟨⟨j + 1, by go_num, by omega, by rw [HSt.out, List.flatMap_append, ← List.append_assoc]; simpa using HR5.out, HB5.out⟩, by simp [intOf]; omega⟩
    · obtain rfl : j = pts.length := by omega
      have dj : decide (pts.length < pts.length) = false := decide_eq_false (by omega)
      have hO := HR2.out
      rw [List.take_length] at hO
      have HR3 := Lib.hid hO
      clear hO
      go_wp2
      go_ret
      exact ⟨_, rfl, by rw [Int.toNat_natCast]; exact HR3.out, below_up HB.out HB2.out⟩
end Go.Proofs.Ythpnlgdcijmocaa.Nd
