/- The walk over BatchTells. -/
import Derived.Test.YtkjapmafipnmpaaBatch3
import Derived.Deep.RegionHeld3
namespace Go.Proofs.Ytkjapmafipnmpaa.Bt
open Go.RowKit Lt
set_option linter.unusedVariables false
set_option linter.unusedSimpArgs false
/-- An int's lowest octet. -/
def u8 (z : Int) : UInt8 := UInt8.ofNat (z % 256).toNat
theorem u8_val (z : Int) : ((u8 z).toNat : Int) = z % 256 := by
  have h1 := Int.emod_nonneg z (b := 256) (by decide)
  have h2 := Int.emod_lt_of_pos z (b := 256) (by decide)
  unfold u8
  have : (UInt8.ofNat (z % 256).toNat).toNat = (z % 256).toNat := by simp; omega
  rw [this]; omega
theorem u8_of {z : Int} (h0 : 0 ≤ z) (h1 : z < 256) : u8 z = UInt8.ofNat z.toNat := by unfold u8; rw [Int.emod_eq_of_lt h0 h1]
theorem bv_u8 (l : List Int) : bv (l.map u8) = l.map fun z => Value.int .u8 (z % 256) := by
  simp [bv, u8_val]
/-- What the law lays. -/
def entG (l : List EntS) : List UInt8 := l.flatMap fun e => [u8 e.kind, u8 e.id]
def sumG (next : Int) (last : Bool) (n : Nat) (l : List EntS) : List UInt8 := [u8 next, u8 (flagZ last), u8 n] ++ entG l
theorem entG_eq {l : List EntS} (h : ∀ e ∈ l, e.odd = false) : entG l = entB l := by
  induction l with
  | nil => rfl
  | cons e l ih =>
    obtain ⟨hk, i1, i2⟩ := EntS.odd_false (h e (by simp))
    unfold entG entB at *
    rw [List.flatMap_cons, List.flatMap_cons, ih (fun x hx => h x (by simp [hx])), u8_of (by omega) (by omega), u8_of (by omega) (by omega)]
theorem sumG_eq {next : Int} {last : Bool} {l : List EntS} (h : chkSum next l = 0) : sumG next last l.length l = sumB next last l := by
  obtain ⟨h1, h2, h3, h4⟩ := chk_zero h
  have hf := flagZ_bnd last
  unfold sumG sumB
  rw [entG_eq h4, u8_of h1 (by omega), u8_of hf.1 (by omega), u8_of (by omega) (by omega), Int.toNat_natCast]
theorem entG_succ (l : List EntS) (k : Nat) (h : k < l.length) : entG (l.take (k + 1)) = entG (l.take k) ++ [u8 l[k].kind, u8 l[k].id] := by
  unfold entG; rw [List.take_succ_eq_append_getElem h, List.flatMap_append]; simp
theorem sumG_succ (next : Int) (last : Bool) (n : Nat) (l : List EntS) (k : Nat) (h : k < l.length) : sumG next last n (l.take (k + 1)) = sumG next last n (l.take k) ++ [u8 l[k].kind, u8 l[k].id] := by
  unfold sumG; rw [entG_succ l k h, List.append_assoc]
theorem sumG_len (next : Int) (last : Bool) (n : Nat) (l : List EntS) : (sumG next last n l).length = 3 + 2 * l.length := by
  unfold sumG entG
  induction l with
  | nil => rfl
  | cons e l ih => simp only [List.flatMap_cons, List.length_append, List.length_cons, List.length_nil] at ih ⊢; omega
theorem below_dr {w W : World} {B : Nat} (h : Below B w W) : Below B w W.drew := h.trans ⟨rfl, rfl, rfl, Nat.le_refl _, fun _ _ => rfl⟩
set_option maxHeartbeats 8000000 in
set_option maxRecDepth 100000 in
theorem tells_walk (n1 n2 : Int) (b1 b2 : Bool) (v1 v2 : Value) (l1 l2 : List EntS) (w : World) (h1 : ERd w v1 l1) (h2 : ERd w v2 l2) (hl1 : l1.length ≤ 8796093022207) (hl2 : l2.length ≤ 8796093022207) (hfine : ∀ e ∈ l1, e.fine) :
    Calls Try.prog 8 #[.agg #[.int .i64 n1, .bool b1, v1], .agg #[.int .i64 n2, .bool b2, v2]] w fun e w' => e = .returned (.bool true) ∧ Below w.heap.size w w' := by
  have H := Lib.hid (And.intro h1 (And.intro h2 hfine)); clear hfine
  obtain ⟨A1, c1, rfl, _, _⟩ := h1
  obtain ⟨A2, c2, rfl, _, _⟩ := h2
  go_enter Try.func8, Try.ntmps8
  go_wp2_with fail
  have hg := alloc_old (alloc_at (w := w) (.cells #[.int .i64 n1, .bool b1, .slice A1 l1.length c1] 73) rfl) (.cells #[.int .i64 n2, .bool b2, .slice A2 l2.length c2] 73)
  have hg2 := alloc_at (w := w.alloc (.cells #[.int .i64 n1, .bool b1, .slice A1 l1.length c1] 73)) (n := w.heap.size + 1) (.cells #[.int .i64 n2, .bool b2, .slice A2 l2.length c2] 73) (by simp)
  have hbel := below_alloc (below_alloc1 w (.cells #[.int .i64 n1, .bool b1, .slice A1 l1.length c1] 73)) (.cells #[.int .i64 n2, .bool b2, .slice A2 l2.length c2] 73)
  generalize ((w.alloc _).alloc _) = w2 at *
  have HW := Lib.hid (And.intro hg (And.intro hg2 hbel)); clear hg hg2 hbel
  refine (alive_ok _).mono ?_; rintro e w3 ⟨rfl, hb⟩
  have hq := cells3 (block_up HW.out.1 hb)
  obtain ⟨q0, q1, q2⟩ := hq
  have H3 := Lib.hid hb; clear hb
  go_upto_if 17 with (go_at_call 37; refine (may_ok n1 b1 _ l1 _ (H.out.1.below (below_up HW.out.2.2 H3.out)) (by omega)).mono ?_; rintro e w4 ⟨rfl, hb⟩
                      have H4 := Lib.hid (below_up H3.out hb); clear hb
                      obtain ⟨q0, q1, q2⟩ := cells3 (block_up HW.out.1 H4.out))
  go_cut [6] (fun v6 wx => v6 = .int .u8 (flagZ b1) ∧ wx = w4)
  case first =>
    cases b1
    all_goals
      go_wp2
      go_meet
      case rel => exact ⟨rfl, rfl⟩
  case rest =>
  obtain ⟨rfl, hw⟩ := hcut
  replace hw := hw.symm; subst hw
  have hfl := flagZ_bnd b1
  have hsl := sumG_len n1 b1 l1.length
  go_wp2_with fail
  have hbs : (w4.alloc (.cells #[.int .u8 (n1 % 256), .int .u8 (flagZ b1), .int .u8 ((l1.length : Int) % 256)] 5)).ownsRow w2.heap.size 5 1 (.slice (some ⟨w4.heap.size, 0, none⟩) 3 3) 3 (bv (sumG n1 b1 l1.length (l1.take 0))) := by
    have := own_new w4 w2.heap.size 5 1 3 #[.int .u8 (n1 % 256), .int .u8 (flagZ b1), .int .u8 ((l1.length : Int) % 256)] H4.out.size (by decide) rfl
    have e : bv (sumG n1 b1 l1.length (l1.take 0)) = [.int .u8 (n1 % 256), .int .u8 (flagZ b1), .int .u8 ((l1.length : Int) % 256)] := by
      have := bv_u8 [n1, flagZ b1, l1.length]
      simp only [List.map_cons, List.map_nil] at this
      rw [List.take_zero]
      show bv ([u8 n1, u8 (flagZ b1), u8 l1.length] ++ []) = _
      rw [List.append_nil, this, Int.emod_eq_of_lt (a := flagZ b1) hfl.1 (by omega)]
    rw [e]
    exact this
  have hb5 := below_alloc H4.out (.cells #[.int .u8 (n1 % 256), .int .u8 (flagZ b1), .int .u8 ((l1.length : Int) % 256)] 5)
  go_loopw [7, 8, 9] (fun vb vn vi W => ∃ k : Nat, k ≤ l1.length ∧ vi = .int .i64 k ∧ vn = .int .i64 (wrt (l1.take k)) ∧ W.ownsRow w2.heap.size 5 1 vb (3 + 2 * k) (bv (sumG n1 b1 l1.length (l1.take k))) ∧ Below w2.heap.size w2 W) (fun _ _ vi _ => l1.length - (intOf vi).toNat)
  case atStart => exact ⟨0, by omega, rfl, rfl, hbs, hb5⟩
  clear hbs hb5 q0 q1 q2
  obtain ⟨k, hk, rfl, rfl, hown, hbel⟩ := hrel
  obtain ⟨A3, c3, rfl, _, _, _, _⟩ := own_rd hown
  obtain ⟨q0, q1, q2⟩ := cells3 (block_up HW.out.1 hbel)
  have HT := Lib.hid (And.intro hown (And.intro hbel (below_up HW.out.2.2 hbel))); clear hown hbel
  by_cases hlt : k < l1.length
  · have d : decide ((k : Int) < l1.length) = true := decide_eq_true (by omega)
    obtain ⟨g1, o1, rfl, hg1, k1⟩ := H.out.1.get EntS.cells_len (by decide) hlt
    have a0 := cell_up (k1 0 (by decide)) HT.out.2.2
    have a1 := cell_up (k1 1 (by decide)) HT.out.2.2
    have y0 := cell_up (k1 0 (by decide)) HW.out.2.2
    have y1 := cell_up (k1 1 (by decide)) HW.out.2.2
    have hs := sumG_succ n1 b1 l1.length l1 k hlt
    have hw1 := wrt_succ l1 k hlt
    have hwl := wrt_le (l1.take k)
    rw [List.length_take] at hwl
    clear k1
    generalize l1[k] = x at *
    simp only [Nat.add_zero, EntS.cells] at a0 a1 y0 y1
    have HS := Lib.hid (And.intro hs hw1); clear hs hw1
    have hmv : ∀ W : World, Below w2.heap.size w2 W →
        (W.cell? ⟨w.heap.size, 2, none⟩ = some (.slice (some ⟨g1, o1, none⟩) l1.length c1) ∧ W.cell? ⟨g1, o1 + k * 2, none⟩ = some (.int .i64 x.kind) ∧ W.cell? ⟨g1, o1 + k * 2 + 1, none⟩ = some (.int .i64 x.id) ∧ Below w2.heap.size w2 W) := fun W hb =>
      ⟨(cells3 (block_up HW.out.1 hb)).2.2, cell_up y0 hb, cell_up y1 hb, hb⟩
    have HM := Lib.hid hmv; clear hmv
    go_wp2_with fail
    clear q0 q1 q2 a0 a1 y0 y1
    have HOW : (wr.drew.alloc (.cells #[.int .u8 (x.kind % 256), .int .u8 (x.id % 256)] 5)).ownsRow w2.heap.size 5 1 (.slice A3 (3 + 2 * k) c3) (3 + 2 * k) (bv (sumG n1 b1 l1.length (l1.take k))) :=
      own_below (own_below HT.out.1 below_drew1) (below_alloc1 _ _)
    have HRD : Rd (wr.drew.alloc (.cells #[.int .u8 (x.kind % 256), .int .u8 (x.id % 256)] 5)) (some ⟨wr.heap.size, 0, none⟩) (bv [u8 x.kind, u8 x.id]) :=
      rd_new wr.drew _ _ _ (by have := bv_u8 [x.kind, x.id]; simpa using this.symm)
    have HA := Lib.hid (And.intro HOW (And.intro HRD (below_alloc (below_dr HT.out.2.1) (.cells #[.int .u8 (x.kind % 256), .int .u8 (x.id % 256)] 5)))); clear HOW HRD
    go_region_held3 (fun W => W.cell? ⟨w.heap.size, 2, none⟩ = some (.slice (some ⟨g1, o1, none⟩) l1.length c1) ∧ W.cell? ⟨g1, o1 + k * 2, none⟩ = some (.int .i64 x.kind) ∧ W.cell? ⟨g1, o1 + k * 2 + 1, none⟩ = some (.int .i64 x.id) ∧ Below w2.heap.size w2 W)
      (first
        | exact HM.out _ (below_dr HT.out.2.1)
        | exact HM.out _ HA.out.2.2
        | exact HM.out _ HB5.out.2)
      (first
        | (refine step_app rfl _ _ 40 rfl w2.heap.size 5 (.int .u8 0) 1 1 Try.underlying40 info_u8 rfl (by decide) (by decide) (.slice A3 (3 + 2 * k) c3) (3 + 2 * k) (bv (sumG n1 b1 l1.length (l1.take k))) rfl (some ⟨wr.heap.size, 0, none⟩) 2 2 (bv [u8 x.kind, u8 x.id]) rfl HA.out.1 rfl HA.out.2.1 (bv_one _) (by omega) HA.out.2.2.size ?_
           intro A5 c5 w5 hown hgrow hat
           rw [← bv_append, ← HS.out.1] at hown
           have hb5 := below_grown HA.out.2.2 hgrow (fun b e => own_base HA.out.1 b e)
           obtain ⟨q2, a0, a1, _⟩ := HM.out w5 hb5
           have HB5 := Lib.hid (And.intro hown hb5); clear hown hgrow hat hb5))
    by_cases hx : x.kind = 1
    · have e1 : (x.kind == 1) = true := by simpa using hx
      have hwn := HS.out.2
      rw [if_pos hx] at hwn
      have HWN := Lib.hid hwn; clear hwn hx
      go_wp2
      exact ⟨⟨k + 1, by omega, by simp, by rw [HWN.out]; simp, HB5.out.1, HB5.out.2⟩, by simp [intOf]; omega⟩
    · have e1 : (x.kind == 1) = false := by simpa using hx
      have hwn := HS.out.2
      rw [if_neg hx] at hwn
      have HWN := Lib.hid hwn; clear hwn hx
      go_wp2
      exact ⟨⟨k + 1, by omega, by simp, by rw [HWN.out]; simp, HB5.out.1, HB5.out.2⟩, by simp [intOf]; omega⟩
  · have hkl : k = l1.length := by omega
    subst hkl
    have d : decide ((l1.length : Int) < l1.length) = false := decide_eq_false (by omega)
    rw [List.take_length] at *
    have hmv : ∀ W : World, Below w2.heap.size w2 W →
        (W.cell? ⟨w.heap.size, 0, none⟩ = some (.int .i64 n1) ∧ W.cell? ⟨w.heap.size, 1, none⟩ = some (.bool b1) ∧ W.cell? ⟨w.heap.size, 2, none⟩ = some (.slice A1 l1.length c1) ∧
         W.cell? ⟨w.heap.size + 1, 0, none⟩ = some (.int .i64 n2) ∧ W.cell? ⟨w.heap.size + 1, 1, none⟩ = some (.bool b2) ∧ W.cell? ⟨w.heap.size + 1, 2, none⟩ = some (.slice A2 l2.length c2) ∧ Below w2.heap.size w2 W) := fun W hb =>
      ⟨(cells3 (block_up HW.out.1 hb)).1, (cells3 (block_up HW.out.1 hb)).2.1, (cells3 (block_up HW.out.1 hb)).2.2, (cells3 (block_up HW.out.2.1 hb)).1, (cells3 (block_up HW.out.2.1 hb)).2.1, (cells3 (block_up HW.out.2.1 hb)).2.2, hb⟩
    have hrd1 : ∀ W : World, Below w2.heap.size w2 W → ERd W (.slice A1 l1.length c1) l1 := fun W hb => H.out.1.below (below_up HW.out.2.2 hb)
    have hrd2 : ∀ W : World, Below w2.heap.size w2 W → ERd W (.slice A2 l2.length c2) l2 := fun W hb => H.out.2.1.below (below_up HW.out.2.2 hb)
    have hput := fun (W : World) (hb : Below w2.heap.size w2 W) => put_any n1 b1 (.slice A1 l1.length c1) l1 W (hrd1 W hb) (by omega) H.out.2.2
    have hchk := fun (W : World) (hb : Below w2.heap.size w2 W) => check_ok n1 b1 (.slice A1 l1.length c1) l1 W (hrd1 W hb) (by omega)
    have hwr := fun (W : World) (hb : Below w2.heap.size w2 W) => written_ok n1 b1 (.slice A1 l1.length c1) l1 W (hrd1 W hb) (by omega)
    have hsm := fun (W : World) (hb : Below w2.heap.size w2 W) => same_ok n1 n2 b1 b2 (.slice A1 l1.length c1) (.slice A2 l2.length c2) l1 l2 W (hrd1 W hb) (hrd2 W hb) (by omega) (by omega)
    have hls := fun (W : World) (hb : Below w2.heap.size w2 W) => lsame_ok n1 n2 b1 b2 (.slice A1 l1.length c1) (.slice A2 l2.length c2) l1 l2 W (hrd1 W hb) (hrd2 W hb) (by omega) (by omega)
    have HM := Lib.hid hmv; clear hmv hrd1 hrd2
    have hge : chkSum n1 l1 = 0 → sumG n1 b1 l1.length l1 = sumB n1 b1 l1 := sumG_eq
    generalize wrt l1 = nw at *
    generalize sameS n1 n2 b1 b2 l1 l2 = sb at *
    generalize chkSum n1 l1 = c at *
    by_cases hc : c = 0
    · subst hc
      simp only [if_true] at hput
      have HG := Lib.hid (hge rfl); clear hge
      have HC := Lib.hid (And.intro hput (And.intro hchk (And.intro hwr (And.intro hsm hls)))); clear hput hchk hwr hsm hls q0 q1 q2
      obtain ⟨q0, q1, q2, _⟩ := HM.out _ HT.out.2.1
      go_wp2_with (go_at_call 38; refine (HC.out.1 _ HT.out.2.1).mono ?_; rintro e w6 ⟨x, rfl, hx, hb⟩
                   have H6 := Lib.hid (And.intro (And.intro hx hb) (below_up HT.out.2.1 hb)); clear hx hb)
      clear q0 q1 q2
      have hm6 : ∀ W : World, Below w6.heap.size w6 W →
        (W.cell? ⟨w.heap.size, 0, none⟩ = some (.int .i64 n1) ∧ W.cell? ⟨w.heap.size, 1, none⟩ = some (.bool b1) ∧ W.cell? ⟨w.heap.size, 2, none⟩ = some (.slice A1 l1.length c1) ∧
         W.cell? ⟨w.heap.size + 1, 0, none⟩ = some (.int .i64 n2) ∧ W.cell? ⟨w.heap.size + 1, 1, none⟩ = some (.bool b2) ∧ W.cell? ⟨w.heap.size + 1, 2, none⟩ = some (.slice A2 l2.length c2) ∧ Below w6.heap.size w6 W) := fun W hb => by
        obtain ⟨m1, m2, m3, m4, m5, m6, _⟩ := HM.out W (below_up H6.out.2 hb)
        exact ⟨m1, m2, m3, m4, m5, m6, hb⟩
      have HM6 := Lib.hid hm6; clear hm6
      go_region_held3 (fun W => W.cell? ⟨w.heap.size, 0, none⟩ = some (.int .i64 n1) ∧ W.cell? ⟨w.heap.size, 1, none⟩ = some (.bool b1) ∧ W.cell? ⟨w.heap.size, 2, none⟩ = some (.slice A1 l1.length c1) ∧
         W.cell? ⟨w.heap.size + 1, 0, none⟩ = some (.int .i64 n2) ∧ W.cell? ⟨w.heap.size + 1, 1, none⟩ = some (.bool b2) ∧ W.cell? ⟨w.heap.size + 1, 2, none⟩ = some (.slice A2 l2.length c2) ∧ Below w6.heap.size w6 W)
        (first
          | exact HM6.out _ HB7.out
          | exact HM6.out _ below_drew1)
        (first
          | (go_at_call 39; refine (HC.out.2.1 _ (below_up H6.out.2 (by go_split_ands; assumption))).mono ?_; rintro e w7 ⟨rfl, hb⟩; have HB7 := Lib.hid (below_up (show Below w6.heap.size w6 _ from by (go_split_ands; assumption)) hb); clear hb)
          | (go_at_call 40; refine (HC.out.2.2.1 _ (below_up H6.out.2 (by go_split_ands; assumption))).mono ?_; rintro e w7 ⟨rfl, hb⟩; have HB7 := Lib.hid (below_up (show Below w6.heap.size w6 _ from by (go_split_ands; assumption)) hb); clear hb)
          | (go_at_call 41; refine (HC.out.2.2.2.1 _ (below_up H6.out.2 (by go_split_ands; assumption))).mono ?_; rintro e w7 ⟨rfl, hb⟩; have HB7 := Lib.hid (below_up (show Below w6.heap.size w6 _ from by (go_split_ands; assumption)) hb); clear hb)
          | (go_at_call 42; refine (HC.out.2.2.2.2 _ (below_up H6.out.2 (by go_split_ands; assumption))).mono ?_; rintro e w7 ⟨rfl, hb⟩; have HB7 := Lib.hid (below_up (show Below w6.heap.size w6 _ from by (go_split_ands; assumption)) hb); clear hb))
      all_goals
        have hb3 := brd_own HT.out.1
        rw [HG.out] at hb3
        have hcx := conv_rd (P := Try.prog) (H6.out.1.1.below HB7.out) 40 5 9 Try.underlying40 Try.underlying5 Try.underlying9
        have hcb := conv_rd (P := Try.prog) ((hb3.below H6.out.1.2).below HB7.out) 40 5 9 Try.underlying40 Try.underlying5 Try.underlying9
        clear hb3
        generalize bstr (sumB n1 b1 l1) = bs at *
        go_wp2
        go_ret
        exact ⟨ret_bool (by simp), below_up HW.out.2.2 (below_up H6.out.2 HB7.out)⟩
    · have e1 : (c != 0) = true := by simpa using hc
      have e2 : (c == 0) = false := by simpa using hc
      simp only [if_neg hc] at hput
      clear hc hge
      have HC := Lib.hid (And.intro hput (And.intro hchk (And.intro hwr (And.intro hsm hls)))); clear hput hchk hwr hsm hls q0 q1 q2
      obtain ⟨q0, q1, q2, _⟩ := HM.out _ HT.out.2.1
      go_wp2_with (go_at_call 38; refine (HC.out.1 _ HT.out.2.1).mono ?_; rintro e w6 ⟨x, rfl, hx, hb⟩
                   have H6 := Lib.hid (And.intro (And.intro hx hb) (below_up HT.out.2.1 hb)); clear hx hb)
      clear q0 q1 q2
      have hm6 : ∀ W : World, Below w6.heap.size w6 W →
        (W.cell? ⟨w.heap.size, 0, none⟩ = some (.int .i64 n1) ∧ W.cell? ⟨w.heap.size, 1, none⟩ = some (.bool b1) ∧ W.cell? ⟨w.heap.size, 2, none⟩ = some (.slice A1 l1.length c1) ∧
         W.cell? ⟨w.heap.size + 1, 0, none⟩ = some (.int .i64 n2) ∧ W.cell? ⟨w.heap.size + 1, 1, none⟩ = some (.bool b2) ∧ W.cell? ⟨w.heap.size + 1, 2, none⟩ = some (.slice A2 l2.length c2) ∧ Below w6.heap.size w6 W) := fun W hb => by
        obtain ⟨m1, m2, m3, m4, m5, m6, _⟩ := HM.out W (below_up H6.out.2 hb)
        exact ⟨m1, m2, m3, m4, m5, m6, hb⟩
      have HM6 := Lib.hid hm6; clear hm6
      go_region_held3 (fun W => W.cell? ⟨w.heap.size, 0, none⟩ = some (.int .i64 n1) ∧ W.cell? ⟨w.heap.size, 1, none⟩ = some (.bool b1) ∧ W.cell? ⟨w.heap.size, 2, none⟩ = some (.slice A1 l1.length c1) ∧
         W.cell? ⟨w.heap.size + 1, 0, none⟩ = some (.int .i64 n2) ∧ W.cell? ⟨w.heap.size + 1, 1, none⟩ = some (.bool b2) ∧ W.cell? ⟨w.heap.size + 1, 2, none⟩ = some (.slice A2 l2.length c2) ∧ Below w6.heap.size w6 W)
        (first
          | exact HM6.out _ HB7.out
          | exact HM6.out _ below_drew1)
        (first
          | (go_at_call 39; refine (HC.out.2.1 _ (below_up H6.out.2 (by go_split_ands; assumption))).mono ?_; rintro e w7 ⟨rfl, hb⟩; have HB7 := Lib.hid (below_up (show Below w6.heap.size w6 _ from by (go_split_ands; assumption)) hb); clear hb)
          | (go_at_call 40; refine (HC.out.2.2.1 _ (below_up H6.out.2 (by go_split_ands; assumption))).mono ?_; rintro e w7 ⟨rfl, hb⟩; have HB7 := Lib.hid (below_up (show Below w6.heap.size w6 _ from by (go_split_ands; assumption)) hb); clear hb)
          | (go_at_call 41; refine (HC.out.2.2.2.1 _ (below_up H6.out.2 (by go_split_ands; assumption))).mono ?_; rintro e w7 ⟨rfl, hb⟩; have HB7 := Lib.hid (below_up (show Below w6.heap.size w6 _ from by (go_split_ands; assumption)) hb); clear hb)
          | (go_at_call 42; refine (HC.out.2.2.2.2 _ (below_up H6.out.2 (by go_split_ands; assumption))).mono ?_; rintro e w7 ⟨rfl, hb⟩; have HB7 := Lib.hid (below_up (show Below w6.heap.size w6 _ from by (go_split_ands; assumption)) hb); clear hb))
      obtain ⟨A6, c6, rfl, _, _⟩ := H6.out.1.1
      all_goals
        go_wp2
        go_ret
        exact ⟨rfl, below_up HW.out.2.2 (below_up H6.out.2 HB7.out)⟩
end Go.Proofs.Ytkjapmafipnmpaa.Bt
