/- The walks over tree.Empty, outline.line (of an empty leaf), strings.Repeat (none), writer.write (of an empty leaf), outline.Lines of the empty tree, croftlaw37.alive. -/
import Derived.Test.YtjhhknkhgilecaaGv3
import Derived.Test.YtjhhknkhgilecaaN1
namespace Go.Proofs.Ytjhhknkhgilecaa.Ou
open Go.RowKit Lt Pt Rg Nd Gv Mp
set_option linter.unusedVariables false
set_option linter.unusedSimpArgs false
def leaf : NdS := ⟨true, .slice none 0 0, [], 0, fun _ => 0, fun _ => 0⟩
theorem leaf_may : mayB leaf = true := by
  rw [mayB_iff]
  unfold May
  rw [if_pos (show leaf.lf = true from rfl)]
  exact ⟨⟨ptsTo_zero _, by simp [leaf]⟩, by simp [leaf], by simp [leaf], fun _ _ => rfl, fun _ _ => rfl⟩
/-- The tree of nothing. -/
structure EmptyAt (W : World) (p b : Nat) (m : Int → Option NdS) (v : Value) : Prop where
  g : GvAt W p b 1 m
  one : m 1 = some { leaf with v := v }
  no : ∀ a, a ≠ 1 → m a = none
theorem EmptyAt.up {W W' : World} {p b : Nat} {m : Int → Option NdS} {v : Value} (h : EmptyAt W p b m v) (hb : Below W.heap.size W W') : EmptyAt W' p b m v := ⟨h.g.up hb, h.one, h.no⟩
set_option maxHeartbeats 1000000 in
theorem empty_ok (w : World) : Calls Try.prog 59 #[] w fun e w' => ∃ m v, e = .returned (.pointer (some ⟨w.heap.size + 1, 0, none⟩)) ∧ EmptyAt w' (w.heap.size + 1) w.heap.size m v ∧ Below w.heap.size w w' := by
  have HN := Lib.hid (fun W => Gv.new_ok W)
  go_enter Try.func59, Try.ntmps59
  go_wp2_with fail
  (with_reducible refine (HN.out _).mono ?_); rintro e w1 ⟨rfl, hq, hm, hb⟩
  have hg : GvAt w1 (w.heap.size + 1) w.heap.size 0 (fun _ => none) := ⟨hq, hm.congr (fun a _ => rfl), fun a x h => by cases h⟩
  have HP := Lib.hid (put_ok hg 1 leaf (srd_nil _ _ _) (by simp [leaf]) (by unfold putE; rw [leaf_may]; simp) (by decide))
  have HB := Lib.hid hb
  clear hq hm hb hg
  go_wp2_with fail
  (refine HP.out.mono ?_); rintro e w2 ⟨rfl, y, hg2, ho2, hf2⟩
  obtain ⟨v', rfl, ho⟩ := ho2
  have HE : Hid (EmptyAt w2 (w.heap.size + 1) w.heap.size (updN (fun _ => none) 1 (some { leaf with v := v' })) v' ∧ Below w.heap.size w w2) := Lib.hid ⟨⟨hg2, by unfold updN; rw [if_pos rfl], fun a ha => by unfold updN; rw [if_neg ha]⟩,
    ((Fr.of_below (S := fun k => w.heap.size ≤ k) HB.out).trans hf2 (fun k _ h => by rw [h]; exact Nat.le_refl _)).toBelow (fun _ h => h) (Nat.le_refl _)⟩
  clear hg2 ho hf2
  go_wp2
  go_ret
  exact ⟨_, _, rfl, HE.out⟩
set_option maxRecDepth 100000 in
theorem repeat0_ok (s : ByteArray) (w : World) : Calls Try.prog 119 #[.string s, .int .i64 0] w fun e w' => e = .returned (.string ⟨#[]⟩) ∧ w = w' := by
  go_enter Try.func119, Try.ntmps119
  go_wp2
  go_ret
  exact ⟨rfl, rfl⟩
set_option maxHeartbeats 2000000 in
set_option maxRecDepth 100000 in
theorem line_leaf (A : Option Addr) (c : Nat) (w : World) : Calls Try.prog 120 #[.agg #[.bool true, .slice A 0 c, .int .i64 0, .int .i64 0, .int .i64 0, .int .i64 0, .int .i64 0, .int .i64 0, .int .i64 0, .int .i64 0, .int .i64 0]] w fun e w' => e = .returned (.string ⟨#[108, 101, 97, 102]⟩) ∧ Below w.heap.size w w' := by
  have hb := Lib.hid (below_alloc1 w (.cells #[.bool true, .slice A 0 c, .int .i64 0, .int .i64 0, .int .i64 0, .int .i64 0, .int .i64 0, .int .i64 0, .int .i64 0, .int .i64 0, .int .i64 0] 159))
  go_enter Try.func120, Try.ntmps120
  go_wp2_with fail
  go_loopw [3, 16] (fun vs vi W => vs = .string ⟨#[108, 101, 97, 102]⟩ ∧ vi = .int .i64 0 ∧ W = w.alloc (.cells #[.bool true, .slice A 0 c, .int .i64 0, .int .i64 0, .int .i64 0, .int .i64 0, .int .i64 0, .int .i64 0, .int .i64 0, .int .i64 0, .int .i64 0] 159)) (fun _ _ _ => 0)
  case atStart => exact ⟨rfl, rfl, rfl⟩
  case round =>
  obtain ⟨rfl, rfl, rfl⟩ := hrel
  go_wp2
  go_ret
  exact ⟨rfl, hb.out⟩
/-- The one line of the empty tree is written. -/
def OutAtQ (q : Nat) (W w' : World) (bm : Nat) : Prop := ∃ G c, w'.cell? ⟨q, 2, none⟩ = some (.slice (some ⟨G, 0, none⟩) 1 c) ∧ w'.cell? ⟨G, 0, none⟩ = some (.string ⟨#[108, 101, 97, 102]⟩) ∧ Fr (fun k => k = q ∨ k = bm) W w'
/-- A node that is not there writes nothing. -/
theorem own_none {W : World} {b : Nat} {v : Value} {e : TypeId} {size : Nat} (h : W.ownsRow b e size v 0 []) : ∃ A c, v = .slice A 0 c := by
  obtain ⟨A, c, e, _⟩ := own_rd h
  exact ⟨A, c, e⟩
theorem get_none {W : World} {p b n : Nat} {m : Int → Option NdS} (h : GvAt W p b n m) (id : Int) (hi : i64 id) (hno : m id = none) :
    Calls Try.prog 118 #[.pointer (some ⟨p, 0, none⟩), .int .i64 id] W fun e w' => ∃ A c, e = .returned (.tuple #[(.agg #[.bool false, .slice A 0 c, .int .i64 0, .int .i64 0, .int .i64 0, .int .i64 0, .int .i64 0, .int .i64 0, .int .i64 0, .int .i64 0, .int .i64 0]), .bool false]) ∧ Below W.heap.size W w' := by
  refine (get_ok h id hi).mono ?_
  rintro e w' ⟨v', rfl, ho, hb⟩
  rw [hno] at ho ⊢
  obtain ⟨A, c, rfl⟩ := own_none ho
  exact ⟨A, c, rfl, hb⟩
theorem get_one {W : World} {p b : Nat} {m : Int → Option NdS} {v : Value} (h : EmptyAt W p b m v) :
    Calls Try.prog 118 #[.pointer (some ⟨p, 0, none⟩), .int .i64 1] W fun e w' => ∃ A c, e = .returned (.tuple #[(.agg #[.bool true, .slice A 0 c, .int .i64 0, .int .i64 0, .int .i64 0, .int .i64 0, .int .i64 0, .int .i64 0, .int .i64 0, .int .i64 0, .int .i64 0]), .bool true]) ∧ Below W.heap.size W w' := by
  refine (get_ok h.g 1 (by unfold i64; omega)).mono ?_
  rintro e w' ⟨v', rfl, ho, hb⟩
  rw [h.one] at ho ⊢
  obtain ⟨A, c, rfl⟩ := own_none ho
  exact ⟨A, c, rfl, hb⟩
set_option maxHeartbeats 2000000 in
set_option maxRecDepth 100000 in
theorem write_none {W : World} {q p b n : Nat} {m : Int → Option NdS} (hq : W.cell? ⟨q, 0, none⟩ = some (.pointer (some ⟨p, 0, none⟩))) (h : GvAt W p b n m) (id lvl : Int) (hi : i64 id) (hno : m id = none) :
    Calls Try.prog 92 #[.pointer (some ⟨q, 0, none⟩), .int .i64 id, .int .i64 lvl] W fun e w' => e = .returned (.tuple #[]) ∧ Below W.heap.size W w' := by
  have HG := Lib.hid (get_none h id hi hno)
  clear h hno hi
  go_enter Try.func92, Try.ntmps92
  go_wp2_with fail
  (with_reducible refine HG.out.mono ?_); rintro e w1 ⟨A, c, rfl, hb⟩
  have HB := Lib.hid (below_up hb (below_alloc1 w1 (.cells #[.bool false, .slice A 0 c, .int .i64 0, .int .i64 0, .int .i64 0, .int .i64 0, .int .i64 0, .int .i64 0, .int .i64 0, .int .i64 0, .int .i64 0] 159)))
  clear hb
  go_wp2
  (try simp only [Exit.inBlock, Exit.then])
  refine bodyPost_ret (results_none rfl _ _ _) rfl ?_
  exact ⟨rfl, HB.out⟩
set_option maxHeartbeats 4000000 in
set_option maxRecDepth 100000 in
theorem write_root {W : World} {q p b bm : Nat} {m : Int → Option NdS} {v : Value} (hq : W.heap[q]? = some (.cells #[.pointer (some ⟨p, 0, none⟩), .map (some bm), .slice none 0 0] 149 (0, 0))) (h : EmptyAt W p b m v) (hm : MAt Try.prog 3 W bm 0 (fun _ => none)) (hqb : q ≠ bm) (hbb : b ≠ bm) :
    Calls Try.prog 92 #[.pointer (some ⟨q, 0, none⟩), .int .i64 1, .int .i64 0] W fun e w' => e = .returned (.tuple #[]) ∧ OutAtQ q W w' bm := by
  have HG := Lib.hid (get_one h)
  have HQ := Lib.hid hq
  have HM := Lib.hid hm
  have HH := Lib.hid h
  have q0 := cell_block hq 0
  simp only [List.getElem?_toArray, List.getElem?_cons_zero] at q0
  clear h hm hq
  go_enter Try.func92, Try.ntmps92
  go_wp2_with fail
  (with_reducible refine HG.out.mono ?_); rintro e w1 ⟨A, c, rfl, hb⟩
  have hb1 := below_up hb (below_alloc1 w1 (.cells #[.bool true, .slice A 0 c, .int .i64 0, .int .i64 0, .int .i64 0, .int .i64 0, .int .i64 0, .int .i64 0, .int .i64 0, .int .i64 0, .int .i64 0] 159))
  have HB := Lib.hid hb1
  have HZ := Lib.hid hb.size
  have hq1 := block_up HQ.out hb1
  have HQ1 := Lib.hid hq1
  have HM1 := Lib.hid (HM.out.up hb1)
  have HN1 := Lib.hid (alloc_at (w := w1) (.cells #[.bool true, .slice A 0 c, .int .i64 0, .int .i64 0, .int .i64 0, .int .i64 0, .int .i64 0, .int .i64 0, .int .i64 0, .int .i64 0, .int .i64 0] 159) rfl)
  have c0 := cell_block hq1 0; have c1 := cell_block hq1 1; have c2 := cell_block hq1 2
  simp only [List.getElem?_toArray, List.getElem?_cons_zero, List.getElem?_cons_succ] at c0 c1 c2
  clear hb hb1 hq1 q0 HG
  have hlk := HM1.out.look1 (t := 147) (e := 4) keyI Try.underlying147 (z := .bool false) (by go_simp) (a := 1) (by unfold i64; omega)
  go_upto_region 2 with (fail)
  go_wp2_with (refine wpList_mapset rfl _ _ _ rfl HM1.out keyI Try.underlying147 (by decide) (c := 1) (by unfold i64; omega) (.bool true) rfl rfl rfl ?_)
  intro w2 hm2 hf2
  have hbm := HM1.out.lt
  obtain ⟨es, ck, hes⟩ := HM1.out.blk
  have HE2 := Lib.hid (show EmptyAt w2 p b m v from ⟨(HH.out.up HB.out).g.frm hbb hes hf2, HH.out.one, HH.out.no⟩)
  have HQ2 := Lib.hid (blk_fr HQ1.out hf2 hqb)
  have hwz : (w1.alloc (.cells #[.bool true, .slice A 0 c, .int .i64 0, .int .i64 0, .int .i64 0, .int .i64 0, .int .i64 0, .int .i64 0, .int .i64 0, .int .i64 0, .int .i64 0] 159)).heap.size = w1.heap.size + 1 := by unfold World.alloc; simp
  have hbm1 : bm < w1.heap.size := Nat.lt_of_lt_of_le HM.out.lt HZ.out
  have HN2 := Lib.hid (blk_fr HN1.out hf2 (by omega))
  have HF2 := Lib.hid ((Fr.of_below (S := fun k => k = q ∨ k = bm) HB.out).trans hf2 (fun k _ h => .inr h))
  generalize w1.heap.size = N at *
  clear hm2 hf2 hes hbm hwz hbm1 c0 c1 c2 hlk
  go_upto_region 3 with (fail)
  have HD0 := Lib.hid (below_drew1 (w := w2))
  have HSt : Hid (∀ W', Below w2.heap.size w2 W' → (W'.cell? ⟨q, 0, none⟩ = some (.pointer (some ⟨p, 0, none⟩)) ∧ W'.cell? ⟨q, 1, none⟩ = some (.map (some bm)) ∧ W'.cell? ⟨q, 2, none⟩ = some (.slice none 0 0)) ∧ (W'.cell? ⟨N, 0, none⟩ = some (.bool true) ∧ W'.cell? ⟨N, 1, none⟩ = some (.slice A 0 c) ∧ W'.cell? ⟨N, 2, none⟩ = some (.int .i64 0) ∧ W'.cell? ⟨N, 3, none⟩ = some (.int .i64 0) ∧ W'.cell? ⟨N, 4, none⟩ = some (.int .i64 0) ∧ W'.cell? ⟨N, 5, none⟩ = some (.int .i64 0) ∧ W'.cell? ⟨N, 6, none⟩ = some (.int .i64 0) ∧ W'.cell? ⟨N, 7, none⟩ = some (.int .i64 0) ∧ W'.cell? ⟨N, 8, none⟩ = some (.int .i64 0) ∧ W'.cell? ⟨N, 9, none⟩ = some (.int .i64 0) ∧ W'.cell? ⟨N, 10, none⟩ = some (.int .i64 0))) := Lib.hid (fun W' hb => ⟨cells3 (block_up HQ2.out hb), by
    have h := fun i => cell_block (block_up HN2.out hb) i
    exact ⟨h 0, h 1, h 2, h 3, h 4, h 5, h 6, h 7, h 8, h 9, h 10⟩⟩)
  refine beginS (S := fun W' => (W'.cell? ⟨q, 0, none⟩ = some (.pointer (some ⟨p, 0, none⟩)) ∧ W'.cell? ⟨q, 1, none⟩ = some (.map (some bm)) ∧ W'.cell? ⟨q, 2, none⟩ = some (.slice none 0 0)) ∧ (W'.cell? ⟨N, 0, none⟩ = some (.bool true) ∧ W'.cell? ⟨N, 1, none⟩ = some (.slice A 0 c) ∧ W'.cell? ⟨N, 2, none⟩ = some (.int .i64 0) ∧ W'.cell? ⟨N, 3, none⟩ = some (.int .i64 0) ∧ W'.cell? ⟨N, 4, none⟩ = some (.int .i64 0) ∧ W'.cell? ⟨N, 5, none⟩ = some (.int .i64 0) ∧ W'.cell? ⟨N, 6, none⟩ = some (.int .i64 0) ∧ W'.cell? ⟨N, 7, none⟩ = some (.int .i64 0) ∧ W'.cell? ⟨N, 8, none⟩ = some (.int .i64 0) ∧ W'.cell? ⟨N, 9, none⟩ = some (.int .i64 0) ∧ W'.cell? ⟨N, 10, none⟩ = some (.int .i64 0))) [14] (by kernel_rfl) (HSt.out _ HD0.out) (fun hHeld0 => ?_)
  generalize (World.drew w2) = W0 at *
  refine takeF (i := 0) (v := ?_) rfl (by kernel_rfl) (fun _ _ _ h => h) (Or.inl ⟨by kernel_rfl, ?_⟩) (by assumption) ?_; rotate_left; (focus (intro w _; go_simp; (try with_reducible rfl); done)); (try simp only [Act.put, List.getElem_toArray, List.getElem_cons_succ, List.getElem_cons_zero, List.setIfInBounds_toArray, List.set_cons_zero, List.set_cons_succ])
  refine takeF (i := 1) (v := ?_) rfl (by kernel_rfl) (fun _ _ _ h => h) (Or.inl ⟨by kernel_rfl, ?_⟩) (by assumption) ?_; rotate_left; (focus (intro w _; go_simp; (try with_reducible rfl); done)); (try simp only [Act.put, List.getElem_toArray, List.getElem_cons_succ, List.getElem_cons_zero, List.setIfInBounds_toArray, List.set_cons_zero, List.set_cons_succ])
  refine takeF (i := 2) (v := ?_) rfl (by kernel_rfl) (fun _ _ _ h => h) (Or.inl ⟨by kernel_rfl, ?_⟩) (by assumption) ?_; rotate_left; (focus (intro w _; go_simp; (try with_reducible rfl); done)); (try simp only [Act.put, List.getElem_toArray, List.getElem_cons_succ, List.getElem_cons_zero, List.setIfInBounds_toArray, List.set_cons_zero, List.set_cons_succ])
  refine takeF (i := 3) (v := ?_) rfl (by kernel_rfl) (fun _ _ _ h => h) (Or.inl ⟨by kernel_rfl, ?_⟩) (by assumption) ?_; rotate_left; (focus (intro w _; go_simp; (try with_reducible rfl); done)); (try simp only [Act.put, List.getElem_toArray, List.getElem_cons_succ, List.getElem_cons_zero, List.setIfInBounds_toArray, List.set_cons_zero, List.set_cons_succ])
  refine takeH (i := 4) (v := ?_) rfl (by kernel_rfl) (fun _ _ _ h => h) (Or.inl ⟨by kernel_rfl, ?_⟩) (by assumption) ?_; rotate_left; (focus (intro w hSw; (try dsimp only at hSw); go_simp; (try with_reducible rfl); done)); (try simp only [Act.put, List.getElem_toArray, List.getElem_cons_succ, List.getElem_cons_zero, List.setIfInBounds_toArray, List.set_cons_zero, List.set_cons_succ])
  refine takeF (i := 5) (v := ?_) rfl (by kernel_rfl) (fun _ _ _ h => h) (Or.inl ⟨by kernel_rfl, ?_⟩) (by assumption) ?_; rotate_left; (focus (intro w _; go_simp; (try with_reducible rfl); done)); (try simp only [Act.put, List.getElem_toArray, List.getElem_cons_succ, List.getElem_cons_zero, List.setIfInBounds_toArray, List.set_cons_zero, List.set_cons_succ])
  refine takeH (i := 7) (v := ?_) rfl (by kernel_rfl) (fun _ _ _ h => h) (Or.inl ⟨by kernel_rfl, ?_⟩) (by assumption) ?_; rotate_left; (focus (intro w hSw; (try dsimp only at hSw); go_simp; (try with_reducible rfl); done)); (try simp only [Act.put, List.getElem_toArray, List.getElem_cons_succ, List.getElem_cons_zero, List.setIfInBounds_toArray, List.set_cons_zero, List.set_cons_succ])
  clear hHeld0
  refine readyS (rs := [6]) (by kernel_rfl) (by simp) ?_
  refine ReadyS.consH rfl (fun K hK => ?_) ReadyS.nil
  (try simp only [List.getElem_toArray, List.getElem_cons_succ, List.getElem_cons_zero])
  go_simp
  (with_reducible refine (repeat0_ok _ _).mono ?_); rintro e W1 ⟨rfl, hw⟩
  subst hw
  refine hK.out _ _ (HSt.out _ HD0.out) (fun hHeld0 => ?_)
  clear hK K hHeld0
  (try simp only [Act.put, List.getElem_toArray, List.getElem_cons_succ, List.getElem_cons_zero, List.setIfInBounds_toArray, List.set_cons_zero, List.set_cons_succ])
  refine readyS (rs := [8]) (by kernel_rfl) (by simp) ?_
  refine ReadyS.consH rfl (fun K hK => ?_) ReadyS.nil
  (try simp only [List.getElem_toArray, List.getElem_cons_succ, List.getElem_cons_zero])
  go_simp
  (with_reducible refine (line_leaf A c _).mono ?_); rintro e W1 ⟨rfl, hb⟩
  have HD1 := Lib.hid (below_up HD0.out hb)
  clear hb
  refine hK.out _ _ (HSt.out _ HD1.out) (fun hHeld0 => ?_)
  clear hK K
  (try simp only [Act.put, List.getElem_toArray, List.getElem_cons_succ, List.getElem_cons_zero, List.setIfInBounds_toArray, List.set_cons_zero, List.set_cons_succ])
  refine takeF (i := 9) (v := ?_) rfl (by kernel_rfl) (fun _ _ _ h => h) (Or.inl ⟨by kernel_rfl, ?_⟩) (by assumption) ?_; rotate_left; (focus (intro w _; go_simp; (try with_reducible rfl); done)); (try simp only [Act.put, List.getElem_toArray, List.getElem_cons_succ, List.getElem_cons_zero, List.setIfInBounds_toArray, List.set_cons_zero, List.set_cons_succ])
  clear hHeld0
  rw [show ((⟨#[]⟩ : ByteArray) ++ ⟨#[108, 101, 97, 102]⟩) = ⟨#[108, 101, 97, 102]⟩ from by kernel_rfl]
  refine readyS (rs := [10]) (by kernel_rfl) (by simp) ?_
  refine ReadyS.consH rfl (fun K hK => ?_) ReadyS.nil
  (try simp only [List.getElem_toArray, List.getElem_cons_succ, List.getElem_cons_zero])
  go_simp
  have HD2 := Lib.hid (below_up HD1.out (below_alloc1 W1 (.cells #[.string ⟨#[108, 101, 97, 102]⟩] 9)))
  have HR2 := Lib.hid (rd_new W1 #[.string ⟨#[108, 101, 97, 102]⟩] 9 [.string ⟨#[108, 101, 97, 102]⟩] rfl)
  refine hK.out _ _ (HSt.out _ HD2.out) (fun hHeld0 => ?_)
  clear hK K hHeld0
  generalize hW2 : (World.alloc W1 _) = W2 at *
  generalize W1.heap.size = G1 at *
  clear hW2
  (try simp only [Act.put, List.getElem_toArray, List.getElem_cons_succ, List.getElem_cons_zero, List.setIfInBounds_toArray, List.set_cons_zero, List.set_cons_succ])
  refine readyS (rs := [11]) (by kernel_rfl) (by simp) ?_
  refine ReadyS.consH rfl (fun K hK => ?_) ReadyS.nil
  (try simp only [List.getElem_toArray, List.getElem_cons_succ, List.getElem_cons_zero])
  rw [if_pos (by kernel_rfl)]
  refine wp_app _ _ 90 (by rfl) w2.heap.size 9 (.string ⟨#[]⟩) 1 16 Try.underlying90 (by kernel_rfl) rfl (by decide) (by decide) (.slice none 0 0) 0 [] (by rfl) (some ⟨G1, 0, none⟩) 1 1 [.string ⟨#[108, 101, 97, 102]⟩] (by rfl) ⟨rfl, .inl ⟨rfl, rfl⟩⟩ rfl HR2.out (by simp [Value.oneCell']) (by decide) HD2.out.size ?_
  intro A3 c3 W3 hown hgrow hat
  have HD3 := Lib.hid (below_grown HD2.out hgrow (fun k e => by cases e))
  rw [List.nil_append] at hown
  rcases hown.2 with ⟨e, _⟩ | ⟨G, cG, cur, e, hbG, _⟩
  · simp at e
  injection e with e1 _ e3
  subst e1 e3
  have HO3 := Lib.hid hown
  have HGb := Lib.hid hbG
  clear hown hgrow hat hbG
  refine hK.out _ _ (HSt.out _ HD3.out) (fun hHeld0 => ?_)
  clear hK K HD2 HR2 HD1 HD0
  (try simp only [Act.put, List.getElem_toArray, List.getElem_cons_succ, List.getElem_cons_zero, List.setIfInBounds_toArray, List.set_cons_zero, List.set_cons_succ])
  refine takeF (i := 12) (v := ?_) rfl (by kernel_rfl) (fun _ _ _ h => h) (Or.inl ⟨by kernel_rfl, ?_⟩) (by assumption) ?_; rotate_left; (focus (intro w _; go_simp; (try with_reducible rfl); done)); (try simp only [Act.put, List.getElem_toArray, List.getElem_cons_succ, List.getElem_cons_zero, List.setIfInBounds_toArray, List.set_cons_zero, List.set_cons_succ])
  refine takeF (i := 13) (v := ?_) rfl (by kernel_rfl) (fun _ _ _ h => h) (Or.inl ⟨by kernel_rfl, ?_⟩) (by assumption) ?_; rotate_left; (focus (intro w _; go_simp; (try with_reducible rfl); done)); (try simp only [Act.put, List.getElem_toArray, List.getElem_cons_succ, List.getElem_cons_zero, List.setIfInBounds_toArray, List.set_cons_zero, List.set_cons_succ])
  have hq3 := block_up HQ2.out HD3.out
  obtain ⟨c0, c1, c2⟩ := cells3 hq3
  have fz := free_block hq3
  have HQ4 : Hid ((W3.setCell ⟨q, 2, none⟩ (.slice (some ⟨G, 0, none⟩) (0 + 1) c3)).heap[q]? = some (.cells #[.pointer (some ⟨p, 0, none⟩), .map (some bm), .slice (some ⟨G, 0, none⟩) (0 + 1) c3] 149 (0, 0))) := Lib.hid (by
    have := blk_set hq3 2 (.slice (some ⟨G, 0, none⟩) (0 + 1) c3)
    simpa using this)
  have hqlt : q < w2.heap.size := (Array.getElem?_eq_some_iff.1 HQ2.out).1
  have HO4 : Hid ((W3.setCell ⟨q, 2, none⟩ (.slice (some ⟨G, 0, none⟩) (0 + 1) c3)).cell? ⟨G, 0, none⟩ = some (.string ⟨#[108, 101, 97, 102]⟩)) := Lib.hid (by
    have h := HO3.out.cells (g := G) rfl 0 _ rfl
    have hG := HGb.out
    rw [World.cell?_setCell_other _ _ _ _ (fun e => by injection e with e1 e2 _; omega)]
    simpa [Addr.add] using h)
  have hN := (Array.getElem?_eq_some_iff.1 HN2.out).1
  have hnq : N ≠ q := fun e => by
    have h1 := HN2.out
    rw [e] at h1
    rw [HQ2.out] at h1
    simp at h1
  have HN4 := Lib.hid (blk_far (block_up HN2.out HD3.out) (p := ⟨q, 2, none⟩) hnq (.slice (some ⟨G, 0, none⟩) (0 + 1) c3))
  have HF4 := Lib.hid ((HF2.out.below HD3.out).set (p := ⟨q, 2, none⟩) (fun _ => .inl rfl) (.slice (some ⟨G, 0, none⟩) (0 + 1) c3))
  have HE4 : Hid (GvAt (W3.setCell ⟨q, 2, none⟩ (.slice (some ⟨G, 0, none⟩) (0 + 1) c3)) p b 1 m) := Lib.hid (by
    have h3 := HE2.out.g.up HD3.out
    have hf : Fr (fun k => k = q) W3 (W3.setCell ⟨q, 2, none⟩ (.slice (some ⟨G, 0, none⟩) (0 + 1) c3)) := (Fr.refl (fun k => k = q) W3).set (p := ⟨q, 2, none⟩) (fun _ => rfl) _
    have hpq : p ≠ q := fun e => by
      have h1 := h3.1
      rw [e, hq3] at h1
      simp at h1
    have hbq : b ≠ q := fun e => by
      obtain ⟨es, ck, hes⟩ := h3.2.1.blk
      rw [e, hq3] at hes
      simp at hes
    refine ⟨blk_fr h3.1 hf hpq, h3.2.1.fr hf hbq, fun a x hx => ⟨?_, (h3.2.2 a x hx).2⟩⟩
    have : a = 1 := by
      rcases Classical.em (a = 1) with h | h
      · exact h
      · rw [HE2.out.no a h] at hx; cases hx
    subst this
    rw [HE2.out.one] at hx
    cases hx
    have h4 := (h3.2.2 _ _ HE2.out.one).1
    obtain ⟨A5, c5, e5, hc5, _⟩ := h4
    exact ⟨A5, c5, e5, hc5, Rd.nil _ _⟩)
  clear hqlt hN hnq hq3 HO3 HN2 HQ2 HF2 HSt hHeld0
  refine readyS (rs := [14]) (by kernel_rfl) (by simp) ?_
  refine ReadyS.consP rfl (by kernel_rfl) (fun K hK => ?_) ReadyS.nil
  (try simp only [List.getElem_toArray, List.getElem_cons_succ, List.getElem_cons_zero])
  go_simp
  refine hK.out _ (W3.setCell ⟨q, 2, none⟩ (.slice (some ⟨G, 0, none⟩) (0 + 1) c3)) ?_
  clear hK K c0 c1 c2 fz
  generalize W3.setCell ⟨q, 2, none⟩ (.slice (some ⟨G, 0, none⟩) (0 + 1) c3) = W4 at *
  refine doneS (by kernel_rfl) ?_ _
  have hno : m 0 = none := HE2.out.no 0 (by decide)
  have HW : Hid (∀ W' (lvl : Int), Below W4.heap.size W4 W' → Calls Try.prog 92 #[.pointer (some ⟨q, 0, none⟩), .int .i64 0, .int .i64 lvl] W' fun e w' => e = .returned (.tuple #[]) ∧ Below W'.heap.size W' w') := Lib.hid (fun W' lvl hb => write_none (cells3 (block_up HQ4.out hb)).1 (HE4.out.up hb) 0 lvl (by unfold i64; omega) hno)
  clear hno
  have hn := fun i => cell_block HN4.out i
  have n2 := hn 2
  simp only [List.getElem?_toArray, List.getElem?_cons_zero, List.getElem?_cons_succ] at n2
  clear hn
  go_wp2_with fail
  (with_reducible refine (HW.out W4 0 (Below.refl _ _)).mono ?_); rintro e W5 ⟨rfl, hb5⟩
  have HD5 := Lib.hid hb5
  have hn := fun i => cell_block (block_up HN4.out hb5) i
  have n3 := hn 3; have n4 := hn 4; have n5 := hn 5; have n6 := hn 6
  simp only [List.getElem?_toArray, List.getElem?_cons_zero, List.getElem?_cons_succ] at n3 n4 n5 n6
  clear hn hb5 n2
  go_wp2_with fail
  go_loopw [59] (fun vi W' => ∃ k : Nat, vi = .int .i64 k ∧ k ≤ 4 ∧ Below W4.heap.size W4 W') (fun vi _ => 4 - (intOf vi).toNat)
  case atStart => exact ⟨0, rfl, by omega, HD5.out⟩
  case round =>
  obtain ⟨k, rfl, hk, hb⟩ := hrel
  have HB6 := Lib.hid hb
  clear hb n3 n4 n5 n6
  have HWr := Lib.hid (HW.out wr 1 HB6.out)
  rcases (by omega : k = 0 ∨ k = 1 ∨ k = 2 ∨ k = 3 ∨ k = 4) with rfl | rfl | rfl | rfl | rfl
  · have hix : ∀ W : World, (Instr.index 157 (.agg #[.int .i64 0, .int .i64 0, .int .i64 0, .int .i64 0]) (.int .i64 0)).run Try.prog W = .ok (.int .i64 0) W := fun _ => by as_aux_lemma => kernel_rfl
    rw [show ((0 : Nat) : Int) = 0 from rfl]
    go_wp2_with fail
    (with_reducible refine HWr.out.mono ?_); rintro e W7 ⟨rfl, hb7⟩
    have HB7 := Lib.hid (below_up HB6.out hb7)
    clear hb7
    go_wp2
    exact ⟨⟨1, by first | rfl | go_num, by omega, HB7.out⟩, by simp [intOf]⟩
  · have hix : ∀ W : World, (Instr.index 157 (.agg #[.int .i64 0, .int .i64 0, .int .i64 0, .int .i64 0]) (.int .i64 1)).run Try.prog W = .ok (.int .i64 0) W := fun _ => by as_aux_lemma => kernel_rfl
    rw [show ((1 : Nat) : Int) = 1 from rfl]
    go_wp2_with fail
    (with_reducible refine HWr.out.mono ?_); rintro e W7 ⟨rfl, hb7⟩
    have HB7 := Lib.hid (below_up HB6.out hb7)
    clear hb7
    go_wp2
    exact ⟨⟨2, by first | rfl | go_num, by omega, HB7.out⟩, by simp [intOf]⟩
  · have hix : ∀ W : World, (Instr.index 157 (.agg #[.int .i64 0, .int .i64 0, .int .i64 0, .int .i64 0]) (.int .i64 2)).run Try.prog W = .ok (.int .i64 0) W := fun _ => by as_aux_lemma => kernel_rfl
    rw [show ((2 : Nat) : Int) = 2 from rfl]
    go_wp2_with fail
    (with_reducible refine HWr.out.mono ?_); rintro e W7 ⟨rfl, hb7⟩
    have HB7 := Lib.hid (below_up HB6.out hb7)
    clear hb7
    go_wp2
    exact ⟨⟨3, by first | rfl | go_num, by omega, HB7.out⟩, by simp [intOf]⟩
  · have hix : ∀ W : World, (Instr.index 157 (.agg #[.int .i64 0, .int .i64 0, .int .i64 0, .int .i64 0]) (.int .i64 3)).run Try.prog W = .ok (.int .i64 0) W := fun _ => by as_aux_lemma => kernel_rfl
    rw [show ((3 : Nat) : Int) = 3 from rfl]
    go_wp2_with fail
    (with_reducible refine HWr.out.mono ?_); rintro e W7 ⟨rfl, hb7⟩
    have HB7 := Lib.hid (below_up HB6.out hb7)
    clear hb7
    go_wp2
    exact ⟨⟨4, by first | rfl | go_num, by omega, HB7.out⟩, by simp [intOf]⟩
  · have HEnd : Hid (OutAtQ q W wr bm) := Lib.hid ⟨G, c3, (cells3 (block_up HQ4.out HB6.out)).2.2, cell_up HO4.out HB6.out, HF4.out.below HB6.out⟩
    go_wp2
    go_end0
    exact ⟨rfl, HEnd.out⟩
end Go.Proofs.Ytjhhknkhgilecaa.Ou
