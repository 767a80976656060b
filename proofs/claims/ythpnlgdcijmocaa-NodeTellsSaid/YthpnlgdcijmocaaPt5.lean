/- The walk over croftref07.GetPoint. -/
import Derived.Test.YthpnlgdcijmocaaPt4
import Derived.Deep.RegionLaw
namespace Go.Proofs.Ythpnlgdcijmocaa.Pt
open Go.RowKit Lt
set_option linter.unusedVariables false
set_option linter.unusedSimpArgs false
/-- The point that octets hold, if they hold one. -/
def gptP (l : List UInt8) (n : Nat) : PtS := ⟨(getB (l.take 4) : Nat), getB ((l.take 8).drop 4), getB ((l.take 12).drop 8), bstr ((l.take (13 + n)).drop 13)⟩
def gpt (l : List UInt8) : PtS × Nat :=
  if l.length < 13 then (PtS.zero, 0) else
  if l.length < 13 + (l.getD 12 0).toNat then (PtS.zero, 0) else
  if (gptP l (l.getD 12 0).toNat).chk = 0 then (gptP l (l.getD 12 0).toNat, 13 + (l.getD 12 0).toNat) else (PtS.zero, 0)
theorem brd_sl {w : World} {g o : Nat} {l : List UInt8} (hr : Rd w (some ⟨g, o, none⟩) (bv l)) (k m C : Nat) (hk : k ≤ m) (hm : m ≤ l.length) (hC : m - k ≤ C) : BRd w (.slice (some ⟨g, o + k, none⟩) (m - k) C) ((l.take m).drop k) := by
  have hl : ((l.take m).drop k).length = m - k := by simp; omega
  have h2 : Rd w (some ⟨g, o, none⟩) (bv (l.take m)) := by rw [← bv_take]; exact hr.take m
  have h3 := rd_add h2 k
  rw [bv_drop] at h3
  refine ⟨some ⟨g, o + k, none⟩, C, by rw [hl], by rw [hl]; exact hC, ?_, fun ad h _ => by cases h; rfl⟩
  simpa [add_plain] using h3
theorem brd_end {w : World} {g o : Nat} {l : List UInt8} (hr : Rd w (some ⟨g, o, none⟩) (bv l)) (n : Nat) (hn : n = 0) : BRd w (.slice (some ⟨g, o, none⟩) n 0) ((l.take (13 + n)).drop 13) := by
  subst hn
  have e : ((l.take (13 + 0)).drop 13) = [] := List.drop_eq_nil_of_le (by simp; omega)
  rw [e]
  exact ⟨some ⟨g, o, none⟩, 0, rfl, Nat.le_refl _, Rd.nil _ _, fun ad h _ => by cases h; rfl⟩
theorem below_dr {w W : World} {B : Nat} (h : Below B w W) : Below B w W.drew := h.trans ⟨rfl, rfl, rfl, Nat.le_refl _, fun _ _ => rfl⟩
theorem step_store {P : Program} {ops : Array Oper} {o : Oper} {a : Act} {w : World} {K : Act → World → Prop} {Q : Exit → Act → World → Prop} {E : Prop} (hgd : o.guard = none) (ty : TypeId) (x y : Operand) (ho : o.op = .store ty x y)
    (g : Nat) (cells : Array Value) (hx : a.eval x = .pointer (some ⟨g, 0, none⟩)) (hy : a.eval y = .agg cells)
    (t : TypeId) (old : Array Value) (hg : w.heap[g]? = some (.cells old t (0, 0))) (hi : (P.info? ty).map (·.size) = some cells.size)
    (hold : old.size = cells.size) (h1 : cells.all (·.oneCell') = true)
    (h : ∀ W, W.heap[g]? = some (.cells cells t (0, 0)) → Fr (fun k => k = g) w W → K (a.put o.dst undef) W) : if Region.wanted o (yielded ops a.tmps) = true then Oper.wp P o a w K Q else E := by
  rw [if_pos (by simp [Region.wanted, hgd])]
  exact wp_store_row ty x y ho g cells hx hy t old hg hi hold h1 (h _ (by simp only [World.setRow, Array.getElem?_modify, hg]; simp)
    ⟨rfl, rfl, rfl, by simp [World.setRow], fun k _ hk => by simp only [World.setRow, Array.getElem?_modify]; rw [if_neg (fun e => hk e.symm)]⟩)
theorem set4 {w W : World} {g : Nat} {z0 z1 z2 z3 : Value} {t : TypeId} (a b c d : Value) (hz : W.heap[g]? = some (.cells #[z0, z1, z2, z3] t (0, 0))) (hb : Below w.heap.size w W) (hg : w.heap.size ≤ g) :
    ((((W.setCell ⟨g, 0, none⟩ a).setCell ⟨g, 1, none⟩ b).setCell ⟨g, 2, none⟩ c).setCell ⟨g, 3, none⟩ d).drew.heap[g]? = some (.cells #[a, b, c, d] t (0, 0)) ∧
    Below w.heap.size w ((((W.setCell ⟨g, 0, none⟩ a).setCell ⟨g, 1, none⟩ b).setCell ⟨g, 2, none⟩ c).setCell ⟨g, 3, none⟩ d) := by
  have h := blk_set (blk_set (blk_set (blk_set hz 0 a) 1 b) 2 c) 3 d
  refine ⟨h, ?_⟩
  have f : Fr (fun k => k = g) w W := Fr.of_below hb
  exact ((((f.set (p := ⟨g, 0, none⟩) (fun _ => rfl) a).set (p := ⟨g, 1, none⟩) (fun _ => rfl) b).set (p := ⟨g, 2, none⟩) (fun _ => rfl) c).set (p := ⟨g, 3, none⟩) (fun _ => rfl) d).toBelow (fun k h => by rw [h]; exact hg) (Nat.le_refl _)
theorem got4b_lt (l : List UInt8) (h : l.length ≤ 4) : getB l < 4294967296 := by
  have h1 := getB_lt l
  have h3 : 256 ^ l.length ≤ 256 ^ 4 := Nat.pow_le_pow_right (by omega) h
  omega
set_option maxHeartbeats 4000000 in
set_option maxRecDepth 100000 in
theorem getpoint_ok (v : Value) (l : List UInt8) (w : World) (hv : BRd w v l) (hl : l.length ≤ 140737488351232) :
    Calls Try.prog 84 #[v] w fun e w' => e = .returned (.tuple #[pv (gpt l).1, .int .i64 (gpt l).2]) ∧ Below w.heap.size w w' := by
  obtain ⟨G, hG⟩ : ∃ G, gpt l = G := ⟨_, rfl⟩
  rw [hG]
  obtain ⟨A, c, rfl, hc, hr, hA⟩ := hv
  have hz0 := alloc_at (w := w) (.cells #[.int .i64 0, .int .u32 0, .int .u32 0, .string ⟨#[]⟩] 58) rfl
  have hb0 := below_alloc1 w (.cells #[.int .i64 0, .int .u32 0, .int .u32 0, .string ⟨#[]⟩] 58)
  by_cases h13 : l.length < 13
  · have hg : G = (PtS.zero, 0) := by rw [← hG]; unfold gpt; rw [if_pos h13]
    subst hg
    have HZ := Lib.hid (And.intro hz0 hb0); clear hz0 hb0 hG hr hA
    go_enter Try.func84, Try.ntmps84
    go_wp2_with (first
      | (refine wpList_store_rowF rfl 58 _ _ rfl w.heap.size #[.int .i64 0, .int .u32 0, .int .u32 0, .string ⟨#[]⟩] rfl rfl 58 #[.int .i64 0, .int .u32 0, .int .u32 0, .string ⟨#[]⟩] HZ.out.1 info_pt rfl (by simp [Value.oneCell']) ?_
         intro W9 hn9 hF9
         have HF := Lib.hid (And.intro hn9 (Fr.toBelow (Fr.trans (Fr.of_below HZ.out.2) hF9 (fun k hk h => h)) (fun k h => Nat.le_of_eq h.symm) (Nat.le_refl _))); clear hn9 hF9))
    refine bodyPost_ret (v := .tuple #[.agg #[.int .i64 0, .int .u32 0, .int .u32 0, .string ⟨#[]⟩], .int .i64 0]) (results_cell_tmp (p := 2) (t := 3) rfl _ _ w.heap.size _ _ (0, 0) _ rfl HF.out.1 Try.underlying58 rfl info_pt _ rfl) rfl ⟨rfl, HF.out.2⟩
  · obtain ⟨ad, rfl, _⟩ := hr.at_ (i := 0) (by rw [bv_length]; omega)
    have hsp := hA ad rfl (by intro h; rw [h] at h13; simp at h13)
    obtain ⟨g, o, sp⟩ := ad
    simp only at hsp
    subst hsp
    have hq : w.cell? ⟨g, o + 12, none⟩ = some (.int .u8 ((l.getD 12 0).toNat : Nat)) := by
      obtain ⟨ad, e, h⟩ := hr.at_ (i := 12) (by rw [bv_length]; omega)
      cases e
      rw [add_plain] at h
      rw [h]
      simp [bv, List.getD]
      rw [List.getElem?_eq_getElem (by omega)]
      rfl
    have hgl : g < w.heap.size := hr.lt (by rw [bv_length]; omega)
    have hn8 := (l.getD 12 0).toNat_lt
    have hgpt : gpt l = if l.length < 13 + (l.getD 12 0).toNat then (PtS.zero, 0) else
      if (gptP l (l.getD 12 0).toNat).chk = 0 then (gptP l (l.getD 12 0).toNat, 13 + (l.getD 12 0).toNat) else (PtS.zero, 0) := by unfold gpt; rw [if_neg h13]
    rw [hG] at hgpt
    clear hG hA
    generalize (l.getD 12 0).toNat = n at *
    by_cases hn : l.length < 13 + n
    · rw [if_pos hn] at hgpt
      subst hgpt
      have hq0 := cell_up hq hb0
      have HZ := Lib.hid (And.intro hz0 hb0); clear hz0 hb0 hr hq
      go_enter Try.func84, Try.ntmps84
      go_wp2_with (first
        | (refine wpList_store_rowF rfl 58 _ _ rfl w.heap.size #[.int .i64 0, .int .u32 0, .int .u32 0, .string ⟨#[]⟩] rfl rfl 58 #[.int .i64 0, .int .u32 0, .int .u32 0, .string ⟨#[]⟩] HZ.out.1 info_pt rfl (by simp [Value.oneCell']) ?_
           intro W9 hn9 hF9
           have HF := Lib.hid (And.intro hn9 (Fr.toBelow (Fr.trans (Fr.of_below HZ.out.2) hF9 (fun k hk h => h)) (fun k h => Nat.le_of_eq h.symm) (Nat.le_refl _))); clear hn9 hF9))
      refine bodyPost_ret (v := .tuple #[.agg #[.int .i64 0, .int .u32 0, .int .u32 0, .string ⟨#[]⟩], .int .i64 0]) (results_cell_tmp (p := 2) (t := 3) rfl _ _ w.heap.size _ _ (0, 0) _ rfl HF.out.1 Try.underlying58 rfl info_pt _ rfl) rfl ⟨rfl, HF.out.2⟩
    · rw [if_neg hn] at hgpt
      by_cases hc13 : c = 13
      · subst hc13
        have hn0 : n = 0 := by omega
        subst hn0
        have hM : ∀ W, Below w.heap.size w W → BRd W (.slice (some ⟨g, o, none⟩) 4 13) (l.take 4) ∧ BRd W (.slice (some ⟨g, o + 4, none⟩) 4 (13 - 4)) ((l.take 8).drop 4) ∧ BRd W (.slice (some ⟨g, o + 8, none⟩) 4 (13 - 8)) ((l.take 12).drop 8) ∧ BRd W (.slice (some ⟨g, o, none⟩) 0 0) ((l.take (13 + 0)).drop 13) ∧ W.cell? ⟨g, o + 12, none⟩ = some (.int .u8 0) := fun W hb => by
          have hr := hr.below hb
          exact ⟨brd_sl hr 0 4 13 (by omega) (by omega) (by omega), brd_sl hr 4 8 _ (by omega) (by omega) (by omega), brd_sl hr 8 12 _ (by omega) (by omega) (by omega), brd_end hr 0 rfl, cell_up hq hb⟩
        have b1 := got4b_lt (l.take 4) (by simp; omega)
        have b2 := got4b_lt ((l.take 8).drop 4) (by simp; omega)
        have b3 := got4b_lt ((l.take 12).drop 8) (by simp; omega)
        have l1 : (l.take 4).length ≤ 7 := by simp; omega
        have l2 : ((l.take 8).drop 4).length ≤ 7 := by simp; omega
        have l3 : ((l.take 12).drop 8).length ≤ 7 := by simp; omega
        unfold gptP at hgpt
        generalize l.take 4 = B1 at *
        generalize (l.take 8).drop 4 = B2 at *
        generalize (l.take 12).drop 8 = B3 at *
        generalize (l.take (13 + 0)).drop 13 = B4 at *
        have hG1 := fun W hb => refget_ok _ B1 W (hM W hb).1 l1
        have hG2 := fun W hb => refget_ok _ B2 W (hM W hb).2.1 l2
        have hG3 := fun W hb => refget_ok _ B3 W (hM W hb).2.2.1 l3
        have hq' := fun W hb => (hM W hb).2.2.2.2
        have hcv := fun W hb => conv_rd (P := Try.prog) (hM W hb).2.2.2.1 78 5 9 Try.underlying78 Try.underlying5 Try.underlying9
        generalize getB B1 = N1 at *
        generalize getB B2 = N2 at *
        generalize getB B3 = N3 at *
        generalize bstr B4 = D at *
        have hq0 := cell_up hq hb0
        have kN2 : IntKind.u32.wrap (N2 : Int) = N2 := by rw [IntKind.wrap_u32]; omega
        have kN3 : IntKind.u32.wrap (N3 : Int) = N3 := by rw [IntKind.wrap_u32]; omega
        have HM := Lib.hid (And.intro hG1 (And.intro hG2 (And.intro hG3 (And.intro hq' hcv)))); clear hG1 hG2 hG3 hq' hcv hM hq
        have HZ := Lib.hid (And.intro hz0 hb0); clear hz0 hb0 hr
        have HP := Lib.hid hgpt; clear hgpt
        have kw0 : IntKind.i64.wrap (0 : Int) = 0 := by decide
        have kw : IntKind.i64.wrap (13 : Int) = 13 := by decide
        have kw1 : IntKind.i64.wrap (13 + 0 : Int) = 13 := by decide
        go_enter Try.func84, Try.ntmps84
        go_upto_region 3 with (fail)
        generalize (w.alloc _) = w2 at *
        go_region_held3 (fun W => W.cell? ⟨g, o + 12, none⟩ = some (.int .u8 0) ∧ (convert 78 9 (.slice (some ⟨g, o, none⟩) 0 0)).run Try.prog W = .ok (.string D) W ∧ Below w2.heap.size w2 W)
          (first
            | (refine (fun hq => ⟨HM.out.2.2.2.1 _ (below_up HZ.out.2 hq), HM.out.2.2.2.2 _ (below_up HZ.out.2 hq), hq⟩) ?_
               repeat (first | exact below_drew1 | exact below_alloc1 _ _ | refine below_dr ?_ | refine below_alloc ?_ _)))
          (first
            | (go_at_call 83; with_reducible refine (HM.out.1 _ (below_up HZ.out.2 (by go_split_ands; assumption))).mono ?_; rintro e w5 ⟨rfl, rfl⟩)
            | (go_at_call 83; with_reducible refine (HM.out.2.1 _ (below_up HZ.out.2 (by go_split_ands; assumption))).mono ?_; rintro e w5 ⟨rfl, rfl⟩)
            | (go_at_call 83; with_reducible refine (HM.out.2.2.1 _ (below_up HZ.out.2 (by go_split_ands; assumption))).mono ?_; rintro e w5 ⟨rfl, rfl⟩))
        all_goals
          have hx0 : ((w2.alloc (.cells #[.int .i64 (N1 : Nat), .int .u32 (N2 : Nat), .int .u32 (N3 : Nat), .string D] 58)).drew).heap[w2.heap.size]? = some (.cells #[.int .i64 (N1 : Nat), .int .u32 (N2 : Nat), .int .u32 (N3 : Nat), .string D] 58 (0, 0)) := alloc_at (w := w2) _ rfl
          have hbx : Below w2.heap.size w2 ((w2.alloc (.cells #[.int .i64 (N1 : Nat), .int .u32 (N2 : Nat), .int .u32 (N3 : Nat), .string D] 58)).drew) := below_dr (below_alloc1 _ _)
          try rw [kN2, kN3]
          generalize ((w2.alloc _).drew) = wx at *
          have hzx := block_up HZ.out.1 hbx
          obtain ⟨p0, p1, p2, p3⟩ := cells4 hx0
          have HX := Lib.hid (And.intro hx0 (And.intro hzx (below_up HZ.out.2 hbx))); clear hx0 hbx hzx
          have hG := HP.out
          clear HP
          by_cases hc : PtS.chk ⟨(N1 : Nat), N2, N3, D⟩ = 0
          · rw [if_pos hc] at hG
            have HC := Lib.hid (And.intro hG hc); clear hG hc
            go_upto_region 6 with (go_at_call 61; with_reducible refine (may_ok ⟨(N1 : Nat), N2, N3, D⟩ _).mono ?_; rintro e wm ⟨rfl, hb⟩; rw [decide_eq_true HC.out.2]
                                   obtain ⟨p0, p1, p2, p3⟩ := cells4 (block_up HX.out.1 hb)
                                   have HB := Lib.hid hb; clear hb)
            have q12 := HM.out.2.2.2.1 wm (below_up HX.out.2.2 HB.out)
            have hzm : wm.heap[w.heap.size]? = some (.cells #[.int .i64 0, .int .u32 0, .int .u32 0, .string ⟨#[]⟩] 58 (0, 0))                      := block_up HX.out.2.1 HB.out
            obtain ⟨z0, z1, z2, z3⟩ := cells4 hzm
            have f0 := free_block hzm 0
            have f1 := free_block hzm 1
            have f2 := free_block hzm 2
            have f3 := free_block hzm 3
            have hgne : ¬ g = w.heap.size := by omega
            have HZM := Lib.hid (And.intro hzm (below_up HX.out.2.2 HB.out)); clear hzm
            go_region
            all_goals
              go_wp2
              have hF := set4 (.int .i64 (N1 : Nat)) (.int .u32 (N2 : Nat)) (.int .u32 (N3 : Nat)) (.string D) HZM.out.1 HZM.out.2 (Nat.le_refl _)
              refine bodyPost_ret (v := .tuple #[.agg #[.int .i64 (N1 : Nat), .int .u32 (N2 : Nat), .int .u32 (N3 : Nat), .string D], .int .i64 (13 + 0)]) (results_cell_tmp (p := 2) (t := 3) rfl _ _ w.heap.size _ _ (0, 0) _ rfl hF.1 Try.underlying58 rfl info_pt _ rfl) rfl ⟨?_, below_dr hF.2⟩
              rw [HC.out.1]; rfl
          · rw [if_neg hc] at hG
            have HC := Lib.hid (And.intro hG hc); clear hG hc
            go_wp2_with (first
              | (go_at_call 61; with_reducible refine (may_ok ⟨(N1 : Nat), N2, N3, D⟩ _).mono ?_; rintro e wm ⟨rfl, hb⟩; rw [decide_eq_false HC.out.2]
                 have HB := Lib.hid (And.intro (block_up HX.out.2.1 hb) (below_up HX.out.2.2 hb)); clear hb)
              | (refine wpList_store_rowF rfl 58 _ _ rfl w.heap.size #[.int .i64 0, .int .u32 0, .int .u32 0, .string ⟨#[]⟩] rfl rfl 58 #[.int .i64 0, .int .u32 0, .int .u32 0, .string ⟨#[]⟩] HB.out.1 info_pt rfl (by simp [Value.oneCell']) ?_
                 intro W9 hn9 hF9
                 have HF := Lib.hid (And.intro hn9 (Fr.toBelow (Fr.trans (Fr.of_below HB.out.2) hF9 (fun k hk h => h)) (fun k h => Nat.le_of_eq h.symm) (Nat.le_refl _))); clear hn9 hF9))
            refine bodyPost_ret (v := .tuple #[.agg #[.int .i64 0, .int .u32 0, .int .u32 0, .string ⟨#[]⟩], .int .i64 0]) (results_cell_tmp (p := 2) (t := 3) rfl _ _ w.heap.size _ _ (0, 0) _ rfl HF.out.1 Try.underlying58 rfl info_pt _ rfl) rfl ⟨?_, HF.out.2⟩
            rw [HC.out.1]; rfl
      · have hM : ∀ W, Below w.heap.size w W → BRd W (.slice (some ⟨g, o, none⟩) 4 c) (l.take 4) ∧ BRd W (.slice (some ⟨g, o + 4, none⟩) 4 (c - 4)) ((l.take 8).drop 4) ∧ BRd W (.slice (some ⟨g, o + 8, none⟩) 4 (c - 8)) ((l.take 12).drop 8) ∧ BRd W (.slice (some ⟨g, o + 13, none⟩) n (c - 13)) ((l.take (13 + n)).drop 13) ∧ W.cell? ⟨g, o + 12, none⟩ = some (.int .u8 (n : Nat)) := fun W hb => by
          have hr := hr.below hb
          exact ⟨brd_sl hr 0 4 c (by omega) (by omega) (by omega), brd_sl hr 4 8 _ (by omega) (by omega) (by omega), brd_sl hr 8 12 _ (by omega) (by omega) (by omega), by have := brd_sl hr 13 (13 + n) (c - 13) (by omega) (by omega) (by omega); rwa [Nat.add_sub_cancel_left] at this, cell_up hq hb⟩
        have b1 := got4b_lt (l.take 4) (by simp; omega)
        have b2 := got4b_lt ((l.take 8).drop 4) (by simp; omega)
        have b3 := got4b_lt ((l.take 12).drop 8) (by simp; omega)
        have l1 : (l.take 4).length ≤ 7 := by simp; omega
        have l2 : ((l.take 8).drop 4).length ≤ 7 := by simp; omega
        have l3 : ((l.take 12).drop 8).length ≤ 7 := by simp; omega
        unfold gptP at hgpt
        generalize l.take 4 = B1 at *
        generalize (l.take 8).drop 4 = B2 at *
        generalize (l.take 12).drop 8 = B3 at *
        generalize (l.take (13 + n)).drop 13 = B4 at *
        have hG1 := fun W hb => refget_ok _ B1 W (hM W hb).1 l1
        have hG2 := fun W hb => refget_ok _ B2 W (hM W hb).2.1 l2
        have hG3 := fun W hb => refget_ok _ B3 W (hM W hb).2.2.1 l3
        have hq' := fun W hb => (hM W hb).2.2.2.2
        have hcv := fun W hb => conv_rd (P := Try.prog) (hM W hb).2.2.2.1 78 5 9 Try.underlying78 Try.underlying5 Try.underlying9
        generalize getB B1 = N1 at *
        generalize getB B2 = N2 at *
        generalize getB B3 = N3 at *
        generalize bstr B4 = D at *
        have hq0 := cell_up hq hb0
        have kN2 : IntKind.u32.wrap (N2 : Int) = N2 := by rw [IntKind.wrap_u32]; omega
        have kN3 : IntKind.u32.wrap (N3 : Int) = N3 := by rw [IntKind.wrap_u32]; omega
        have HM := Lib.hid (And.intro hG1 (And.intro hG2 (And.intro hG3 (And.intro hq' hcv)))); clear hG1 hG2 hG3 hq' hcv hM hq
        have HZ := Lib.hid (And.intro hz0 hb0); clear hz0 hb0 hr
        have HP := Lib.hid hgpt; clear hgpt
        have k4 : (4 : Int) ≤ c := by omega
        have k8 : (8 : Int) ≤ c := by omega
        have k12 : (12 : Int) ≤ c := by omega
        have k13 : (13 : Int) ≤ c := by omega
        have kn : (13 : Int) + n ≤ c := by omega
        have kd : (13 : Int) ≤ 13 + n := by omega
        have kz : (0 : Int) ≤ 13 + n := by omega
        have kw : IntKind.i64.wrap (13 + (n : Int)) = 13 + n := by rw [IntKind.wrap_i64]; omega
        have kw0 : IntKind.i64.wrap (n : Int) = n := by rw [IntKind.wrap_i64]; omega
        have ks1 : 13 + n - 13 = n := by omega
        have ks2 : ((13 : Int) + n - 13).toNat = n := by omega
        have ks3 : (13 + (n : Int)).toNat - 13 = n := by omega
        have kt : (13 + (n : Int)).toNat = 13 + n := by omega
        go_enter Try.func84, Try.ntmps84
        go_upto_region 3 with (fail)
        generalize (w.alloc _) = w2 at *
        go_region_held3 (fun W => W.cell? ⟨g, o + 12, none⟩ = some (.int .u8 (n : Nat)) ∧ (convert 78 9 (.slice (some ⟨g, o + 13, none⟩) n (c - 13))).run Try.prog W = .ok (.string D) W ∧ Below w2.heap.size w2 W)
          (first
            | (refine (fun hq => ⟨HM.out.2.2.2.1 _ (below_up HZ.out.2 hq), HM.out.2.2.2.2 _ (below_up HZ.out.2 hq), hq⟩) ?_
               repeat (first | exact below_drew1 | exact below_alloc1 _ _ | refine below_dr ?_ | refine below_alloc ?_ _)))
          (first
            | (go_at_call 83; with_reducible refine (HM.out.1 _ (below_up HZ.out.2 (by go_split_ands; assumption))).mono ?_; rintro e w5 ⟨rfl, rfl⟩)
            | (go_at_call 83; with_reducible refine (HM.out.2.1 _ (below_up HZ.out.2 (by go_split_ands; assumption))).mono ?_; rintro e w5 ⟨rfl, rfl⟩)
            | (go_at_call 83; with_reducible refine (HM.out.2.2.1 _ (below_up HZ.out.2 (by go_split_ands; assumption))).mono ?_; rintro e w5 ⟨rfl, rfl⟩))
        all_goals
          have hx0 : ((w2.alloc (.cells #[.int .i64 (N1 : Nat), .int .u32 (N2 : Nat), .int .u32 (N3 : Nat), .string D] 58)).drew).heap[w2.heap.size]? = some (.cells #[.int .i64 (N1 : Nat), .int .u32 (N2 : Nat), .int .u32 (N3 : Nat), .string D] 58 (0, 0)) := alloc_at (w := w2) _ rfl
          have hbx : Below w2.heap.size w2 ((w2.alloc (.cells #[.int .i64 (N1 : Nat), .int .u32 (N2 : Nat), .int .u32 (N3 : Nat), .string D] 58)).drew) := below_dr (below_alloc1 _ _)
          try rw [kN2, kN3]
          generalize ((w2.alloc _).drew) = wx at *
          have hzx := block_up HZ.out.1 hbx
          obtain ⟨p0, p1, p2, p3⟩ := cells4 hx0
          have HX := Lib.hid (And.intro hx0 (And.intro hzx (below_up HZ.out.2 hbx))); clear hx0 hbx hzx
          have hG := HP.out
          clear HP
          by_cases hc : PtS.chk ⟨(N1 : Nat), N2, N3, D⟩ = 0
          · rw [if_pos hc] at hG
            have HC := Lib.hid (And.intro hG hc); clear hG hc
            go_upto_region 6 with (go_at_call 61; with_reducible refine (may_ok ⟨(N1 : Nat), N2, N3, D⟩ _).mono ?_; rintro e wm ⟨rfl, hb⟩; rw [decide_eq_true HC.out.2]
                                   obtain ⟨p0, p1, p2, p3⟩ := cells4 (block_up HX.out.1 hb)
                                   have HB := Lib.hid hb; clear hb)
            have q12 := HM.out.2.2.2.1 wm (below_up HX.out.2.2 HB.out)
            have hzm : wm.heap[w.heap.size]? = some (.cells #[.int .i64 0, .int .u32 0, .int .u32 0, .string ⟨#[]⟩] 58 (0, 0))                      := block_up HX.out.2.1 HB.out
            obtain ⟨z0, z1, z2, z3⟩ := cells4 hzm
            have f0 := free_block hzm 0
            have f1 := free_block hzm 1
            have f2 := free_block hzm 2
            have f3 := free_block hzm 3
            have hgne : ¬ g = w.heap.size := by omega
            have HZM := Lib.hid (And.intro hzm (below_up HX.out.2.2 HB.out)); clear hzm
            go_region
            all_goals
              go_wp2
              have hF := set4 (.int .i64 (N1 : Nat)) (.int .u32 (N2 : Nat)) (.int .u32 (N3 : Nat)) (.string D) HZM.out.1 HZM.out.2 (Nat.le_refl _)
              refine bodyPost_ret (v := .tuple #[.agg #[.int .i64 (N1 : Nat), .int .u32 (N2 : Nat), .int .u32 (N3 : Nat), .string D], .int .i64 (13 + (n : Int))]) (results_cell_tmp (p := 2) (t := 3) rfl _ _ w.heap.size _ _ (0, 0) _ rfl hF.1 Try.underlying58 rfl info_pt _ rfl) rfl ⟨?_, below_dr hF.2⟩
              rw [HC.out.1]; rfl
          · rw [if_neg hc] at hG
            have HC := Lib.hid (And.intro hG hc); clear hG hc
            go_wp2_with (first
              | (go_at_call 61; with_reducible refine (may_ok ⟨(N1 : Nat), N2, N3, D⟩ _).mono ?_; rintro e wm ⟨rfl, hb⟩; rw [decide_eq_false HC.out.2]
                 have HB := Lib.hid (And.intro (block_up HX.out.2.1 hb) (below_up HX.out.2.2 hb)); clear hb)
              | (refine wpList_store_rowF rfl 58 _ _ rfl w.heap.size #[.int .i64 0, .int .u32 0, .int .u32 0, .string ⟨#[]⟩] rfl rfl 58 #[.int .i64 0, .int .u32 0, .int .u32 0, .string ⟨#[]⟩] HB.out.1 info_pt rfl (by simp [Value.oneCell']) ?_
                 intro W9 hn9 hF9
                 have HF := Lib.hid (And.intro hn9 (Fr.toBelow (Fr.trans (Fr.of_below HB.out.2) hF9 (fun k hk h => h)) (fun k h => Nat.le_of_eq h.symm) (Nat.le_refl _))); clear hn9 hF9))
            refine bodyPost_ret (v := .tuple #[.agg #[.int .i64 0, .int .u32 0, .int .u32 0, .string ⟨#[]⟩], .int .i64 0]) (results_cell_tmp (p := 2) (t := 3) rfl _ _ w.heap.size _ _ (0, 0) _ rfl HF.out.1 Try.underlying58 rfl info_pt _ rfl) rfl ⟨?_, HF.out.2⟩
            rw [HC.out.1]; rfl
end Go.Proofs.Ythpnlgdcijmocaa.Pt
