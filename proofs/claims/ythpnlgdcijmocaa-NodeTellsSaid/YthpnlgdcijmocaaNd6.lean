/- The walk over node.Put. -/
import Derived.Test.YthpnlgdcijmocaaNd5
import Derived.Test.YthpnlgdcijmocaaPt6
namespace Go.Proofs.Ythpnlgdcijmocaa.Nd
open Go.RowKit Lt Pt Rg
set_option linter.unusedVariables false
set_option linter.unusedSimpArgs false
theorem nd_all {W : World} {g : Nat} {n : NdS} {f : Nat × Nat} (h : W.heap[g]? = some (.cells (ncells n) 49 f)) :
    W.cell? ⟨g, 0, none⟩ = some (.bool n.lf) ∧ W.cell? ⟨g, 1, none⟩ = some n.v ∧ W.cell? ⟨g, 2, none⟩ = some (.int .i64 n.next) ∧ W.cell? ⟨g, 3, none⟩ = some (.int .i64 (n.ks 0)) ∧ W.cell? ⟨g, 4, none⟩ = some (.int .i64 (n.ks 1)) ∧ W.cell? ⟨g, 5, none⟩ = some (.int .i64 (n.ks 2)) ∧ W.cell? ⟨g, 6, none⟩ = some (.int .i64 (n.ks 3)) ∧ W.cell? ⟨g, 7, none⟩ = some (.int .i64 (n.cs 0)) ∧ W.cell? ⟨g, 8, none⟩ = some (.int .i64 (n.cs 1)) ∧ W.cell? ⟨g, 9, none⟩ = some (.int .i64 (n.cs 2)) ∧ W.cell? ⟨g, 10, none⟩ = some (.int .i64 (n.cs 3)) := by
  refine ⟨?_, ?_, ?_, ?_, ?_, ?_, ?_, ?_, ?_, ?_, ?_⟩ <;> (rw [cell_block h]; rfl)
def ksB (f : Nat → Int) (q : Nat) : List UInt8 := (List.range q).map fun i => UInt8.ofNat (f i).toNat
def csB (f : Nat → Int) (q : Nat) : List UInt8 := (List.range q).flatMap fun i => numB 2 (f i).toNat
theorem ksB_succ (f : Nat → Int) (q : Nat) : ksB f (q + 1) = ksB f q ++ [UInt8.ofNat (f q).toNat] := by unfold ksB; rw [List.range_succ, List.map_append]; rfl
theorem csB_succ (f : Nat → Int) (q : Nat) : csB f (q + 1) = csB f q ++ numB 2 (f q).toNat := by unfold csB; rw [List.range_succ, List.flatMap_append]; simp
theorem ksB_len (f : Nat → Int) (q : Nat) : (ksB f q).length = q := by simp [ksB]
theorem csB_len (f : Nat → Int) : ∀ q, (csB f q).length = 2 * q
  | 0 => rfl
  | q + 1 => by rw [csB_succ, List.length_append, csB_len f q, numB_len]; omega
def nodeB (n : NdS) : List UInt8 := if n.lf = true then [1, UInt8.ofNat n.next.toNat, UInt8.ofNat n.pts.length] ++ n.pts.flatMap ptB else [0] ++ ksB n.ks 4 ++ csB n.cs 4
theorem pts_len {l : List PtS} (h : ∀ p ∈ l, p.chk = 0) : (l.flatMap ptB).length ≤ 29 * l.length := by
  induction l with
  | nil => simp
  | cons a t ih =>
    rw [List.flatMap_cons, List.length_append, List.length_cons]
    have h1 := ih (fun p hp => h p (List.mem_cons_of_mem _ hp))
    have h2 := ptB_len a
    have h3 := (chk_zero (h a List.mem_cons_self)).2.2
    omega
theorem pts_chk0 {l : List PtS} (h : PtsMay l) : ∀ p ∈ l, p.chk = 0 := fun p hp => by
  obtain ⟨i, hi, rfl⟩ := List.mem_iff_getElem.1 hp
  exact (h.1 i hi hi).1
set_option maxHeartbeats 4000000 in
set_option maxRecDepth 100000 in
theorem nput_bad (n : NdS) (w : World) (h : PRd w n.v n.pts) (hl : n.pts.length ≤ 140737488355328) (hm : mayB n = false) :
    Calls Try.prog 33 #[nv n] w fun e w' => e = .returned (.tuple #[.slice none 0 0, .int .i64 9]) ∧ Below w.heap.size w w' := by
  have q1 := alloc_at (w := w) (.cells (ncells n) 49) rfl
  have qb := below_alloc1 w (.cells (ncells n) 49)
  have hmy := may_ok n _ (h.below qb) hl
  rw [hm] at hmy
  have HM := Lib.hid hmy
  have HB := Lib.hid qb
  have hn := nd_all q1
  obtain ⟨A, c, hv, _⟩ := h
  clear q1 qb hmy
  obtain ⟨lf, v, pts, next, ks, cs⟩ := n
  simp only at HM HB hn hv
  subst hv
  go_enter Try.func33, Try.ntmps33
  go_wp2_with fail
  generalize World.alloc w _ = w1 at *
  (with_reducible refine HM.out.mono ?_); rintro e w2 ⟨rfl, hb⟩
  have H2 := Lib.hid (below_up HB.out hb)
  clear hb hn
  go_wp2
  go_ret2
  exact ⟨rfl, H2.out⟩
set_option maxHeartbeats 8000000 in
set_option maxRecDepth 100000 in
theorem nput_ok (n : NdS) (w : World) (h : PRd w n.v n.pts) (hf : ∀ p ∈ n.pts, p.fine) (hl : n.pts.length ≤ 140737488355328) (hm : mayB n = true) :
    Calls Try.prog 33 #[nv n] w fun e w' => ∃ v, e = .returned (.tuple #[v, .int .i64 0]) ∧ BRd w' v (nodeB n) ∧ Below w.heap.size w w' := by
  have q1 := alloc_at (w := w) (.cells (ncells n) 49) rfl
  have qb := below_alloc1 w (.cells (ncells n) 49)
  have hmy := may_ok n _ (h.below qb) hl
  have hMay := (mayB_iff n).1 hm
  rw [hm] at hmy
  have HM := Lib.hid hmy
  have HB := Lib.hid qb
  have HP := Lib.hid (h.below qb)
  have HX := Lib.hid q1
  have hn := nd_all q1
  obtain ⟨A, c, hv, _⟩ := h
  clear q1 qb hmy hm
  unfold May at hMay
  unfold nodeB
  obtain ⟨lf, v, pts, next, ks, cs⟩ := n
  simp only at HM HB hn hv HP HX hMay hf hl ⊢
  subst hv
  cases lf
  · simp only [Bool.false_eq_true, if_false] at hMay ⊢
    have HQ := Lib.hid hMay.2.2
    clear hMay
    go_enter Try.func33, Try.ntmps33
    go_wp2_with fail
    generalize World.alloc w _ = w1 at *
    (with_reducible refine HM.out.mono ?_); rintro e w2 ⟨rfl, hb⟩
    have HX2 := Lib.hid (block_up HX.out hb)
    have HB2 := Lib.hid (below_up HB.out hb)
    clear hb hn
    go_wp2_with fail
    (with_reducible refine (new_w 238 w2).mono ?_); rintro e w3 ⟨rfl, hO, hb⟩
    rw [outNew_ok 238 (by decide) (by decide)] at hO
    have HX3 := Lib.hid (block_up HX2.out hb)
    have HO3 := Lib.hid hO
    have f0 := (nd_all HX3.out).1
    clear hO hb
    go_wp2_with fail
    (with_reducible refine (HO3.out.num 0 1 (by decide) (by decide) (by decide) (by decide)).mono ?_); rintro e w4 ⟨rfl, hO, hK⟩
    rw [show (0 : Int) = ((0 : Nat) : Int) from rfl, outOk_byte 0 (by decide) (by simp)] at hO
    have HO4 : Hid (OW w2 w4 w2.heap.size (outOk 238 ([0] ++ ksB ks 0))) := Lib.hid (by simpa [ksB] using hO)
    have HX4 := Lib.hid (hK.2 _ _ _ _ HX3.out (by decide) (by decide))
    clear hO hK f0
    obtain ⟨_, _, _, k3, k4, k5, k6, _⟩ := nd_all HX4.out
    simp only at k3 k4 k5 k6
    go_wp2_with fail
    clear k3 k4 k5 k6
    go_loopw [47] (fun vq W => ∃ q : Nat, vq = .int .i64 q ∧ q ≤ 4 ∧ OW w2 W w2.heap.size (outOk 238 ([0] ++ ksB ks q)) ∧ W.heap[w.heap.size]? = some (.cells (ncells ⟨false, .slice A pts.length c, pts, next, ks, cs⟩) 49 (0, 0))) (fun vq _ => 4 - (intOf vq).toNat)
    case atStart => exact ⟨0, rfl, by omega, HO4.out, HX4.out⟩
    case round =>
    obtain ⟨q, rfl, hq, hO, hX⟩ := hrel
    have HO5 := Lib.hid hO; have HX5 := Lib.hid hX
    clear hO hX
    by_cases hq4 : q < 4
    · have dq : decide ((q : Int) < 4) = true := decide_eq_true (by omega)
      have hidx := idx4 ks q hq4
      have hok := HQ.out q hq4
      have hks := ksB_succ ks q
      have hkl := ksB_len ks q
      obtain ⟨k, hk⟩ : ∃ k : Nat, ks q = k := ⟨(ks q).toNat, by have := hok.1; omega⟩
      simp only [hk] at hidx hok hks
      have hk255 : k < 256 := by have := hok.2.1; omega
      have HKs := Lib.hid hks
      clear hks hok hk
      go_wp2_with fail
      (with_reducible refine (HO5.out.num k 1 (by omega) (by omega) (by decide) (by decide)).mono ?_); rintro e w6 ⟨rfl, hO, hK⟩
      rw [outOk_byte k hk255 (by simp [ksB_len]; omega)] at hO
      have HO6 : Hid (OW w2 w6 w2.heap.size (outOk 238 ([0] ++ ksB ks (q + 1)))) := Lib.hid (by rw [HKs.out, Int.toNat_natCast, ← List.append_assoc]; exact hO)
      have HX6 := Lib.hid (hK.2 _ _ _ _ HX5.out (by decide) (by decide))
      clear hO hK hidx
      go_wp2
      exact ⟨⟨q + 1, by go_num, by omega, HO6.out, HX6.out⟩, by simp [intOf]; omega⟩
    · obtain rfl : q = 4 := by omega
      obtain ⟨_, _, _, _, _, _, _, k3, k4, k5, k6⟩ := nd_all HX5.out
      simp only at k3 k4 k5 k6
      have HO6 : Hid (OW w2 wr w2.heap.size (outOk 238 ([0] ++ ksB ks 4 ++ csB cs 0))) := Lib.hid (by simpa [csB] using HO5.out)
      go_wp2_with fail
      clear k3 k4 k5 k6
      generalize hwb : wr = wb at *
      clear hwb
      go_loopw [56] (fun vq W => ∃ q : Nat, vq = .int .i64 q ∧ q ≤ 4 ∧ OW w2 W w2.heap.size (outOk 238 ([0] ++ ksB ks 4 ++ csB cs q)) ∧ W.heap[w.heap.size]? = some (.cells (ncells ⟨false, .slice A pts.length c, pts, next, ks, cs⟩) 49 (0, 0))) (fun vq _ => 4 - (intOf vq).toNat)
      case atStart => exact ⟨0, rfl, by omega, HO6.out, HX5.out⟩
      case round =>
      obtain ⟨q, rfl, hq, hO, hX⟩ := hrel
      have HO7 := Lib.hid hO; have HX7 := Lib.hid hX
      clear hO hX
      by_cases hq4 : q < 4
      · have dq : decide ((q : Int) < 4) = true := decide_eq_true (by omega)
        have hidx := idx4 cs q hq4
        have hok := HQ.out q hq4
        have hks := csB_succ cs q
        obtain ⟨k, hk⟩ : ∃ k : Nat, cs q = k := ⟨(cs q).toNat, by have := hok.2.2.1; omega⟩
        simp only [hk] at hidx hok hks
        have hk255 : k < 65536 := by have := hok.2.2.2.1; omega
        have HKs := Lib.hid hks
        clear hks hok hk
        go_wp2_with fail
        (with_reducible refine (HO7.out.num k 2 (by omega) (by omega) (by decide) (by decide)).mono ?_); rintro e w6 ⟨rfl, hO, hK⟩
        rw [outOk_num k 2 (by show k < 256 ^ 2; omega) (by simp [ksB_len, csB_len]; show _ + ((2 : Nat) : Int) ≤ _; omega)] at hO
        have HO8 : Hid (OW w2 w6 w2.heap.size (outOk 238 ([0] ++ ksB ks 4 ++ csB cs (q + 1)))) := Lib.hid (by rw [HKs.out, Int.toNat_natCast, ← List.append_assoc]; exact hO)
        have HX8 := Lib.hid (hK.2 _ _ _ _ HX7.out (by decide) (by decide))
        clear hO hK hidx
        go_wp2
        exact ⟨⟨q + 1, by go_num, by omega, HO8.out, HX8.out⟩, by simp [intOf]; omega⟩
      · obtain rfl : q = 4 := by omega
        go_wp2_with fail
        (with_reducible refine (HO7.out.done rfl).mono ?_); rintro e w8 ⟨v, l, rfl, rfl, hv, hb⟩
        have HV := Lib.hid hv
        have H8 := Lib.hid (below_up HB2.out (below_up HO7.out.bel hb))
        clear hv hb
        go_wp2
        go_ret2
        exact ⟨v, rfl, HV.out, H8.out⟩
  · simp only [if_true] at hMay ⊢
    have hnx0 := hMay.2.1
    have hnx1 := hMay.2.2.1
    obtain ⟨nx, rfl⟩ := Int.eq_ofNat_of_zero_le hnx0
    have hp4 := hMay.1.2
    have HChk := Lib.hid (pts_chk0 hMay.1)
    have HFin := Lib.hid hf
    clear hMay hf
    have bp4 : (pts.length : Int) ≤ 4 := by omega
    go_enter Try.func33, Try.ntmps33
    go_wp2_with fail
    generalize World.alloc w _ = w1 at *
    (with_reducible refine HM.out.mono ?_); rintro e w2 ⟨rfl, hb⟩
    have HX2 := Lib.hid (block_up HX.out hb)
    have HB2 := Lib.hid (below_up HB.out hb)
    have HP2 := Lib.hid (HP.out.below hb)
    clear hb hn
    go_wp2_with fail
    (with_reducible refine (new_w 238 w2).mono ?_); rintro e w3 ⟨rfl, hO, hb⟩
    rw [outNew_ok 238 (by decide) (by decide)] at hO
    have HX3 := Lib.hid (block_up HX2.out hb)
    have HO3 := Lib.hid hO
    have f0 := (nd_all HX3.out).1
    clear hO hb
    go_wp2_with fail
    (with_reducible refine (HO3.out.num 1 1 (by decide) (by decide) (by decide) (by decide)).mono ?_); rintro e w4 ⟨rfl, hO, hK⟩
    have e1 : (outOk 238 []).num 1 1 = outOk 238 ([] ++ [UInt8.ofNat 1]) := outOk_byte (R := 238) (b := []) 1 (by decide) (by simp)
    rw [e1] at hO
    clear e1
    have HO4 := Lib.hid hO
    have HX4 := Lib.hid (hK.2 _ _ _ _ HX3.out (by decide) (by decide))
    clear hO hK f0
    have f2 := (nd_all HX4.out).2.2.1
    simp only at f2
    go_wp2_with fail
    (with_reducible refine (HO4.out.num nx 1 (by omega) (by omega) (by decide) (by decide)).mono ?_); rintro e w5 ⟨rfl, hO, hK⟩
    rw [outOk_byte nx (by omega) (by simp)] at hO
    have HO5 := Lib.hid hO
    have HX5 := Lib.hid (hK.2 _ _ _ _ HX4.out (by decide) (by decide))
    clear hO hK f2
    have f1 := (nd_all HX5.out).2.1
    simp only at f1
    go_wp2_with fail
    (with_reducible refine (HO5.out.num pts.length 1 (by omega) (by omega) (by decide) (by decide)).mono ?_); rintro e w6 ⟨rfl, hO, hK⟩
    rw [outOk_byte pts.length (by omega) (by simp)] at hO
    have HO6 : Hid (OW w2 w6 w2.heap.size (outOk 238 ([1, UInt8.ofNat nx, UInt8.ofNat pts.length] ++ (pts.take 0).flatMap ptB))) := Lib.hid (by simpa using hO)
    have HX6 := Lib.hid (hK.2 _ _ _ _ HX5.out (by decide) (by decide))
    clear hO hK f1
    have f1 := (nd_all HX6.out).2.1
    simp only at f1
    go_wp2_with fail
    clear f1
    go_loopw [31] (fun vj W => ∃ j : Nat, vj = .int .i64 j ∧ j ≤ pts.length ∧ OW w2 W w2.heap.size (outOk 238 ([1, UInt8.ofNat nx, UInt8.ofNat pts.length] ++ (pts.take j).flatMap ptB))) (fun vj _ => pts.length - (intOf vj).toNat)
    case atStart => exact ⟨0, rfl, by omega, HO6.out⟩
    case round =>
    obtain ⟨j, rfl, hj, hO⟩ := hrel
    have HO7 := Lib.hid hO
    clear hO
    by_cases hjl : j < pts.length
    · have dj : decide (j < pts.length) = true := decide_eq_true hjl
      have bj : (j : Int) < pts.length := by omega
      obtain ⟨g, o, rfl, c0, c1, c2, c3⟩ := pt_at (HP2.out.below HO7.out.bel) hjl
      have hst : pts.take (j + 1) = pts.take j ++ [pts[j]] := List.take_succ_eq_append_getElem hjl
      have hpf := HFin.out _ (List.getElem_mem hjl)
      have hpc := HChk.out _ (List.getElem_mem hjl)
      have hln := pts_len (l := pts.take j) (fun p hp => HChk.out p (List.mem_of_mem_take hp))
      have hl3 : (pts.take j).length ≤ 3 := by rw [List.length_take]; omega
      obtain ⟨p, hp⟩ : ∃ p, pts[j] = p := ⟨_, rfl⟩
      rw [hp] at c0 c1 c2 c3 hst hpf hpc
      have hd16 := (chk_zero hpc).2.2
      have HSt := Lib.hid hst
      have HPc := Lib.hid (And.intro hpf hpc)
      clear hst hpf hpc hp
      have q1 := alloc_at (w := wr) (.cells #[.int .i64 p.id, .int .u32 (p.x : Nat), .int .u32 (p.y : Nat), .string p.d] 58) rfl
      have HOa := Lib.hid (HO7.out.up (below_alloc1 wr (.cells #[.int .i64 p.id, .int .u32 (p.x : Nat), .int .u32 (p.y : Nat), .string p.d] 58)))
      clear q1
      go_wp2_with fail
      (with_reducible refine (pput_ok HOa.out p HPc.out.1).mono ?_); rintro e w8 ⟨rfl, hO, hK⟩
      rw [putP_ok HPc.out.2 HPc.out.1 (by rw [List.length_append]; simp only [List.length_cons, List.length_nil]; omega)] at hO
      have HO8 : Hid (OW w2 w8 w2.heap.size (outOk 238 ([1, UInt8.ofNat nx, UInt8.ofNat pts.length] ++ (pts.take (j + 1)).flatMap ptB))) := Lib.hid (by rw [HSt.out, List.flatMap_append, ← List.append_assoc]; simpa using hO)
      clear hO hK c0 c1 c2 c3
      go_wp2
      exact ⟨⟨j + 1, by go_num, by omega, HO8.out⟩, by simp [intOf]; omega⟩
    · obtain rfl : j = pts.length := by omega
      have dj : decide (pts.length < pts.length) = false := decide_eq_false (by omega)
      have hO := HO7.out
      rw [List.take_length] at hO
      have HO8 := Lib.hid hO
      clear hO
      go_wp2_with fail
      (with_reducible refine (HO8.out.done rfl).mono ?_); rintro e w8 ⟨v, l, rfl, rfl, hv, hb⟩
      have HV := Lib.hid hv
      have H8 := Lib.hid (below_up HB2.out (below_up HO8.out.bel hb))
      clear hv hb
      go_wp2
      go_ret2
      exact ⟨v, rfl, by have := HV.out; rw [Int.toNat_natCast]; exact this, H8.out⟩
end Go.Proofs.Ythpnlgdcijmocaa.Nd
