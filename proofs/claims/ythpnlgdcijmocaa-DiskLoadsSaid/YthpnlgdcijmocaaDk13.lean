/- The walks over croftlaw14.full, croftlaw14.alive. -/
import Derived.Test.YthpnlgdcijmocaaDk12
import Derived.Test.YthpnlgdcijmocaaLaw
namespace Go.Proofs.Ythpnlgdcijmocaa.Dk
open Go.RowKit Rg Mp
set_option linter.unusedVariables false
set_option linter.unusedSimpArgs false
def fullB (n : Nat) : Oc := (List.range 256).map fun i => UInt8.ofNat ((n + i / 100) % 256)
theorem full_len (n : Nat) : (fullB n).length = 256 := by unfold fullB; rw [List.length_map, List.length_range]
/-- The row when i octets are laid. -/
def flR (n i : Nat) : List Value := (List.range 256).map fun j => if j < i then .int .u8 (((n + j / 100) % 256 : Nat) : Int) else .int .u8 0
theorem flR_len (n i : Nat) : (flR n i).length = 256 := by unfold flR; rw [List.length_map, List.length_range]
theorem flR_get (n i j : Nat) : (flR n i)[j]? = if j < 256 then some (if j < i then .int .u8 (((n + j / 100) % 256 : Nat) : Int) else .int .u8 0) else none := by
  unfold flR
  rw [List.getElem?_map]
  by_cases h : j < 256
  · rw [List.getElem?_range h, if_pos h]; rfl
  · rw [List.getElem?_eq_none (by rw [List.length_range]; omega), if_neg h]; rfl
theorem flR_zero (n : Nat) : flR n 0 = bv zero256 := by
  rw [bv_zero]
  apply List.ext_getElem?
  intro j
  rw [flR_get, List.getElem?_replicate]
  simp
theorem flR_set (n i : Nat) (hi : i < 256) : (flR n i).set i (.int .u8 (((n + i / 100) % 256 : Nat) : Int)) = flR n (i + 1) := by
  apply List.ext_getElem?
  intro j
  rw [List.getElem?_set, flR_len, flR_get, flR_get]
  by_cases h : i = j
  · subst h
    rw [if_pos rfl, if_pos hi, if_pos hi, if_pos (by omega)]
  · rw [if_neg h]
    by_cases h3 : j < i
    · rw [if_pos h3, if_pos (show j < i + 1 by omega)]
    · rw [if_neg h3, if_neg (show ¬ j < i + 1 by omega)]
theorem flR_all (n : Nat) : flR n 256 = bv (fullB n) := by
  apply List.ext_getElem?
  intro j
  unfold bv fullB
  rw [flR_get, List.getElem?_map, List.getElem?_map]
  by_cases h : j < 256
  · rw [List.getElem?_range h, if_pos h, if_pos h]
    simp
  · rw [List.getElem?_eq_none (by rw [List.length_range]; omega), if_neg h]; rfl
set_option maxHeartbeats 2000000 in
set_option maxRecDepth 100000 in
theorem full_ok (n : Nat) (hn : n < 256) (w : World) : Calls Try.prog 38 #[.int .u8 (n : Nat)] w fun e w' => ∃ v, e = .returned v ∧ SOwn w' w.heap.size v (fullB n) ∧ Below w.heap.size w w' := by
  obtain ⟨Z, hZ, hZs, hmk⟩ := made256
  have HZ := Lib.hid (And.intro hZ hZs)
  clear hZ hZs
  have hs0 := own_new w w.heap.size 5 1 256 Z (Nat.le_refl _) (by unfold maxLen; omega) (by rw [HZ.out.2])
  rw [HZ.out.1, ← flR_zero n] at hs0
  have H0 := Lib.hid (And.intro hs0 (below_alloc1 w (.cells Z 5)))
  clear hs0
  go_enter Try.func38, Try.ntmps38
  go_upto_region 2 with (fail)
  generalize (World.alloc w _) = w0 at *
  go_wp2_with fail
  go_loopw [4] (fun vi Wx => ∃ k : Nat, k ≤ 256 ∧ vi = .int .i64 k ∧ Wx.ownsRow w.heap.size 5 1 (.slice (some ⟨w.heap.size, 0, none⟩) 256 256) 256 (flR n k) ∧ Below w.heap.size w Wx) (fun vi _ => 256 - (intOf vi).toNat)
  case atStart => exact ⟨0, by omega, rfl, H0.out.1, H0.out.2⟩
  case round =>
  obtain ⟨k, hk, rfl, ho, hb⟩ := hrel
  by_cases hlt : k < 256
  · have dd : decide ((k : Int) < 256) = true := decide_eq_true (by omega)
    have dn : decide (k < 256) = true := decide_eq_true hlt
    have bk : (k : Int) < 256 := by omega
    have hst := (ho.stored k (.int .u8 (((n + k / 100) % 256 : Nat) : Int))).1
    rw [flR_set n k hlt] at hst
    have hb2 := hb.setCell (p := ⟨w.heap.size, k, none⟩) (Nat.le_refl _) (.int .u8 (((n + k / 100) % 256 : Nat) : Int))
    have HS := Lib.hid (And.intro hst hb2)
    have z0 := ho.cells (g := w.heap.size) rfl k (.int .u8 0) (by rw [flR_get, if_pos hlt, if_neg (Nat.lt_irrefl _)])
    rw [add_plain, Nat.zero_add] at z0
    obtain ⟨cs, hcs⟩ := own_typed ho w.heap.size rfl
    have fz := free_block hcs k
    have kd : ((k : Int) / 100) = ((k / 100 : Nat) : Int) := by omega
    have kt : Int.tdiv (k : Int) 100 = ((k / 100 : Nat) : Int) := by rw [Int.tdiv_eq_ediv_of_nonneg (by omega)]; omega
    obtain ⟨q, hq⟩ : ∃ q, k / 100 = q := ⟨_, rfl⟩
    have hq4 : q < 4 := by omega
    rw [hq] at kd kt HS
    rw [show (((n + q) % 256 : Nat) : Int) = ((n : Int) + q) % 256 by omega] at HS
    have kw1 : IntKind.u8.wrap (q : Int) = (q : Int) := by rw [IntKind.wrap_u8]; omega
    have kw2 : IntKind.u8.wrap ((n : Int) + q) = ((n : Int) + q) % 256 := by rw [IntKind.wrap_u8]
    clear hst hb2 hcs hb ho hq
    go_wp2
    exact ⟨⟨k + 1, by omega, by go_num, HS.out.1, HS.out.2⟩, by simp [intOf]; omega⟩
  · obtain rfl : k = 256 := by omega
    rw [show ((256 : Nat) : Int) = 256 from rfl]
    rw [flR_all] at ho
    have HR := Lib.hid (And.intro ho hb)
    clear ho hb
    go_wp2
    go_ret
    exact ⟨_, rfl, by unfold SOwn; rw [full_len]; exact HR.out.1, HR.out.2⟩
def oneB : Oc := 7 :: List.replicate 255 0
theorem one_len : oneB.length = 256 := by unfold oneB; rw [List.length_cons, List.length_replicate]
theorem bv_oneB : (bv zero256).set 0 (.int .u8 7) = bv oneB := by
  rw [bv_zero]
  unfold bv oneB
  rw [List.map_cons, List.map_replicate]
  rfl
/-- A disk of two sectors, written and cut off. -/
theorem alive_plain (b : Oc) (hb : b.length = 256) : wrE (new 2) 1 b = 0 ∧ wrD (new 2) 1 b = { new 2 with waits := [(1, b)] } ∧ power { new 2 with waits := [(1, b)] } [] = new 2 ∧ rdE (new 2) 1 = 0 ∧ rdV (new 2) 1 = zero256 := by
  have h1 : brkB (new 2) = false := rfl
  have h2 : brk (new 2) = new 2 := rfl
  have hl : (new 2).sure.length = 2 := rfl
  refine ⟨?_, ?_, rfl, ?_, ?_⟩
  · unfold wrE; rw [h1, hl, if_neg (by decide), if_neg (by decide), if_neg (by omega)]
  · unfold wrD; rw [h1, h2, hl, if_neg (by decide), if_neg (by decide), if_neg (by omega)]; rfl
  · unfold rdE; rw [h1, hl, if_neg (by decide), if_neg (by decide)]
  · unfold rdV; rw [h1, hl, if_neg (by decide), if_neg (by decide)]; rfl
set_option maxHeartbeats 2000000 in
set_option maxRecDepth 100000 in
theorem alive_ok (w : World) : Calls Try.prog 35 #[] w fun e w' => e = .returned (.bool true) ∧ Below w.heap.size w w' := by
  obtain ⟨Z, hZ, hZs, hmk⟩ := made256
  have HZ := Lib.hid (And.intro hZ hZs)
  have HNw := Lib.hid (fun W => dnew_ok 2 (by unfold i64; decide) W)
  obtain ⟨p1, p2, p3, p4, p5⟩ := alive_plain oneB one_len
  have HP := Lib.hid (And.intro p1 (And.intro p2 (And.intro p3 (And.intro p4 p5))))
  clear hZ hZs p1 p2 p3 p4 p5
  go_enter Try.func35, Try.ntmps35
  go_wp2_with fail
  (with_reducible refine (HNw.out _).mono ?_); rintro e w1 ⟨m, hm, g, vs, r, rfl, hd, hb⟩
  obtain rfl : m = 2 := by omega
  have hz2 : (Z.setIfInBounds 0 (.int .u8 7)).toList = bv oneB := by rw [Array.toList_setIfInBounds, HZ.out.1, bv_oneB]
  have hs0 := own_new w1 w1.heap.size 5 1 256 (Z.setIfInBounds 0 (.int .u8 7)) (Nat.le_refl _) (by unfold maxLen; omega) (by rw [Array.size_setIfInBounds, HZ.out.2])
  rw [hz2] at hs0
  have hq0 := alloc_at (w := w1) (.cells Z 5) rfl
  have z0 : (w1.alloc (.cells Z 5)).cell? ⟨w1.heap.size, 0, none⟩ = some (.int .u8 0) := by
    rw [cell_block hq0, ← Array.getElem?_toList, HZ.out.1, bv_zero, List.getElem?_replicate]; simp
  have fz := free_block hq0 0
  have hbl := below_alloc1 w1 (.cells (Z.setIfInBounds 0 (.int .u8 7)) 5)
  have hd2 := hd.up hbl
  have hso : SOwn (w1.alloc (.cells (Z.setIfInBounds 0 (.int .u8 7)) 5)) w1.heap.size (.slice (some ⟨w1.heap.size, 0, none⟩) 256 256) oneB := by
    have h1 := hs0
    unfold SOwn
    rw [one_len]
    exact h1
  have HW := Lib.hid (dwrite_ok hd2 (by decide) (by decide) (by intro x hx; cases hx) 1 (by unfold i64; decide) (stay_s hd2 hso) (by rw [one_len]; decide))
  rw [HP.out.1, HP.out.2.1, show ((0 : Nat) : Int) = 0 from rfl] at HW
  have H2 := Lib.hid (below_up hb hbl)
  have HD2 := Lib.hid hd2
  clear hs0 hz2 hq0 hbl hd hm hb hso hd2
  go_upto_region 4 with (fail)
  clear z0 fz hmk
  generalize (World.alloc w1 _) = w2 at *
  go_wp2_with fail
  (with_reducible refine HW.out.mono ?_); rintro e w3 ⟨rfl, hdt⟩
  have H3 := Lib.hid (H2.out.trans (hdt.bel HD2.out))
  obtain ⟨vw3, hd3, _, _⟩ := hdt
  have HPw := Lib.hid (dpower_ok hd3 (by decide) (vf := .slice none 0 0) (fs := []) (fun W' _ => ird_nil W') (by decide) (by intro x hx; cases hx))
  rw [HP.out.2.2.1] at HPw
  have HD3 := Lib.hid hd3
  clear hd3 HW
  go_wp2_with fail
  (with_reducible refine HPw.out.mono ?_); rintro e w4 ⟨rfl, hdt⟩
  have H4 := Lib.hid (H3.out.trans (hdt.bel HD3.out))
  obtain ⟨vw4, hd4, _, _⟩ := hdt
  have HRd := Lib.hid (dread_ok hd4 (by decide) 1 (by unfold i64; decide))
  rw [HP.out.2.2.2.1, HP.out.2.2.2.2, show ((0 : Nat) : Int) = 0 from rfl] at HRd
  have HD4 := Lib.hid hd4
  clear hd4 HPw
  go_wp2_with fail
  (with_reducible refine HRd.out.mono ?_); rintro e w5 ⟨v, rfl, ho, hdt⟩
  have H5 := Lib.hid (H4.out.trans (hdt.bel HD4.out))
  rw [zero_len] at ho
  obtain ⟨A, c, rfl, hc, _, hr, ha⟩ := own_rd ho
  obtain ⟨ad, rfl, hcell⟩ := hr.at_ (i := 0) (by rw [bv_length, zero_len]; decide)
  obtain ⟨gx, ox, sx⟩ := ad
  obtain ⟨e1, e2, _⟩ := ha _ rfl
  simp only at e1 e2
  subst e1 e2
  have hz : (bv zero256)[0]'(by rw [bv_length, zero_len]; decide) = .int .u8 0 := by
    have h1 : (bv zero256)[0]? = some (.int .u8 0) := by rw [bv_zero, List.getElem?_replicate]; simp
    rw [List.getElem?_eq_getElem (by rw [bv_length, zero_len]; decide)] at h1
    exact Option.some.inj h1
  rw [hz, add_plain, Nat.zero_add] at hcell
  clear hz hr ha hdt ho HRd
  go_wp2
  go_ret
  exact ⟨ret_bool (by first | rfl | simp), H5.out⟩
end Go.Proofs.Ythpnlgdcijmocaa.Dk
