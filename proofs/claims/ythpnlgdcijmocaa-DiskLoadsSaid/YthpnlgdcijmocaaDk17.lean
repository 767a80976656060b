/- The walk over disk's Load. -/
import Derived.Test.YthpnlgdcijmocaaDk16
import Derived.Laws.CopyOwn
namespace Go.Proofs.Ythpnlgdcijmocaa.Dk
open Go.RowKit Rg Mp
set_option linter.unusedVariables false
set_option linter.unusedSimpArgs false
def pad (b : Oc) : Oc := b.take 256 ++ List.replicate (256 - b.length) 0
theorem pad_len (b : Oc) : (pad b).length = 256 := by
  unfold pad
  rw [List.length_append, List.length_take, List.length_replicate]
  omega
def ldN (d : DkS) (l : List Oc) : Nat → DkS
  | 0 => d
  | i + 1 => put (ldN d l i) i (pad (l.getD i [])) false
def loadD (d : DkS) (l : List Oc) : DkS := { ldN d l (min l.length d.sure.length) with waits := [] }
theorem ldN_len (d : DkS) (l : List Oc) : ∀ i, (ldN d l i).sure.length = d.sure.length
  | 0 => rfl
  | i + 1 => (put_len ..).trans (ldN_len d l i)
theorem ldN_olen (d : DkS) (l : List Oc) : ∀ i, (ldN d l i).odd.length = d.odd.length
  | 0 => rfl
  | i + 1 => by
    show (List.set _ _ _).length = _
    rw [List.length_set]
    exact ldN_olen d l i
theorem splice_pad (x : Oc) : splice (bv zero256) 0 ((bv x).take (Nat.min x.length 256)) = bv (pad x) := by
  have h1 : (bv x).take (Nat.min x.length 256) = bv (x.take 256) := by
    unfold bv
    rw [← List.map_take, show Nat.min x.length 256 = min x.length 256 from rfl, Nat.min_comm, ← List.take_take, List.take_length]
  rw [h1]
  unfold splice pad
  rw [List.take_zero, List.nil_append, Nat.zero_add]
  unfold bv
  rw [List.map_append]
  congr 1
  rw [List.length_map, List.length_take]
  unfold zero256
  rw [List.map_replicate, List.map_replicate, List.drop_replicate]
  congr 1
  omega
section
variable {L : Int → Prop} {W W' : World} {base N g r : Nat} {vs vw : Value} {d : DkS}
set_option maxHeartbeats 8000000 in
set_option maxRecDepth 100000 in
theorem dload_ok (h : DAt L W base N g vs vw r d) {vl : Value} {l : List Oc} (hl : ∀ W', Fr (DO g vs vw r) W W' → SlAt W' vl l) (hln : ∀ b ∈ l, b.length ≤ 140737488355328) (hll : l.length ≤ 140737488355328) :
    Calls Try.prog 44 #[.pointer (some ⟨g, 0, none⟩), vl] W fun e w' => e = .returned (.tuple #[]) ∧ DTo L base N g vs vw r (loadD d l) W w' := by
  have H0 := Lib.hid h
  have HL := Lib.hid hl
  have hmany := h.ok.many
  obtain ⟨Z, hZ, hZs, hmk⟩ := made256
  have HZ := Lib.hid (And.intro hZ hZs)
  clear hZ hZs
  obtain ⟨vf, lf, cl, hb, hq, h3, h4⟩ := h.ex
  obtain ⟨As, cs, rfl, _⟩ := h.s.slice
  obtain ⟨Al, cpl, rfl, _⟩ := hl W (Fr.refl _ _)
  obtain ⟨⟨c0, c1, _⟩, _⟩ := db_cells hb
  have HI := Lib.hid (is_ok c0)
  obtain ⟨m, hm⟩ : ∃ m, m = min l.length d.sure.length := ⟨_, rfl⟩
  have hml : m ≤ l.length := by omega
  have hms : m ≤ d.sure.length := by omega
  clear h hl hb hq h3 h4 c0
  go_enter Try.func44, Try.ntmps44
  go_wp2_with fail
  (with_reducible refine HI.out.mono ?_); rintro e w1 ⟨rfl, rfl⟩
  go_upto_region 1 with (fail)
  go_cut [16, 17] from 9 to 17 (fun v16 v17 wx => v16 = .int .i64 (m : Nat) ∧ v17 = .int .i64 0 ∧ W = wx)
  case first =>
    go_wp2
    all_goals go_meet
    all_goals exact ⟨congrArg (Value.int .i64) (by omega), rfl, rfl⟩
  case rest =>
  obtain ⟨rfl, rfl, hw⟩ := hcut
  subst hw
  clear c1
  have HM := Lib.hid hm
  clear hm
  go_wp2_with fail
  go_loopw [17] (fun vi Wx => ∃ k : Nat, k ≤ m ∧ vi = .int .i64 k ∧ DAt L Wx base N g (.slice As d.sure.length cs) vw r (ldN d l k) ∧ Fr (DO g (.slice As d.sure.length cs) vw r) W Wx) (fun vi _ => m - (intOf vi).toNat)
  case atStart => exact ⟨0, by omega, rfl, H0.out, Fr.refl _ _⟩
  case round =>
  obtain ⟨k, hk, rfl, hd, hf⟩ := hrel
  have HD := Lib.hid (And.intro hd hf)
  by_cases hlt : k < m
  · have dd : decide ((k : Int) < m) = true := decide_eq_true (by omega)
    have dn : decide (k < m) = true := decide_eq_true hlt
    have hkl : k < l.length := by omega
    have hks : k < d.sure.length := by omega
    have bk : (k : Int) < l.length := by omega
    have bs : (k : Int) < d.sure.length := by omega
    have hlen := ldN_len d l k
    obtain ⟨gb, ok, vf, lf, cl, hb, hq, h3, h4⟩ := id hd
    obtain ⟨gs, c', v0, e, z0, z1, hz2⟩ := hd.s.at_ (i := k) (by rw [hlen]; exact hks)
    injection e with e1 e2 e3
    subst e1 e3
    obtain ⟨A', cap', e, hel⟩ := HL.out wr hf
    cases e
    obtain ⟨ad, xv, rfl, hx, hbr⟩ := hel k hkl
    obtain ⟨Ax, cx, rfl, hcx, hrx, hsx⟩ := hbr
    obtain ⟨x, hxe⟩ : ∃ x, l[k] = x := ⟨_, rfl⟩
    have hxl := hln _ (List.getElem_mem hkl)
    rw [hxe] at hx hcx hrx hsx hxl
    have hgx : l.getD k [] = x := by rw [List.getD_eq_getElem?_getD, List.getElem?_eq_getElem hkl, ← hxe]; rfl
    have hZt : (bv zero256).toArray = Z := by rw [← HZ.out.1]
    have hba := below_alloc1 wr (.cells Z 5)
    have hat : (wr.alloc (.cells Z 5)).heap[wr.heap.size]? = some (.cells (bv zero256).toArray 5 (0, 0)) := by rw [hZt]; exact alloc_at _ rfl
    have hx2 := cell_up hx hba
    have hrx2 := hrx.below hba
    have HA := Lib.hid (And.intro hba (And.intro hat hrx2))
    have HX := Lib.hid (And.intro gb (And.intro ok (And.intro h3 h4)))
    have HQ := Lib.hid (And.intro hb hq)
    have HZc := Lib.hid (And.intro z0 z1)
    have HSp := Lib.hid (splice_pad x)
    have HOdd := Lib.hid (show k < (ldN d l k).odd.length by rw [ldN_olen, H0.out.ok.odd]; exact hks)
    have HPo := Lib.hid (put_ok ok (at_ := k) (by rw [hlen]; exact hks) (pad_len x) false)
    have HLe := Lib.hid hlen
    have HG := Lib.hid hgx
    have hsz1 : wr.heap.size ≠ gs := by
      have := World.block_lt_of_cell? wr _ z0
      simp only at this
      omega
    have hpos : 0 < ((bv x).take (Nat.min x.length 256)).length → (some ⟨wr.heap.size, 0, none⟩ : Option Addr) = some ⟨wr.heap.size, 0, none⟩ ∧ ∃ ad, Ax = some ad ∧ ∀ j v, ((bv x).take (Nat.min x.length 256))[j]? = some v → (wr.alloc (.cells Z 5)).cell? (ad.add j) = some v := fun h0 => by
      have h1 : 0 < (bv x).length := by rw [List.length_take] at h0; omega
      obtain ⟨ad', e, _⟩ := hrx2.at_ h1
      refine ⟨rfl, ad', e, fun j v hj => ?_⟩
      rw [List.getElem?_take] at hj
      split at hj
      · obtain ⟨hj1, hj2⟩ := List.getElem?_eq_some_iff.1 hj
        obtain ⟨ad2, e2, hc2⟩ := hrx2.at_ hj1
        rw [e] at e2
        injection e2 with e2
        subst e2
        rw [hc2, hj2]
      · cases hj
    have hone : ∀ v ∈ (bv x).take (Nat.min x.length 256), v.oneCell' = true := fun v hv => by
      obtain ⟨c, _, rfl⟩ := List.mem_map.1 (List.mem_of_mem_take hv)
      rfl
    have hcn : ((bv x).take (Nat.min x.length 256)).length = Nat.min x.length 256 := by rw [List.length_take, bv_length]; show min (min x.length 256) x.length = min x.length 256; omega
    have hcf : 0 + ((bv x).take (Nat.min x.length 256)).length ≤ (bv zero256).length := by rw [hcn, bv_length, zero_len, Nat.zero_add]; exact Nat.min_le_right _ _
    have HCp := Lib.hid (And.intro hpos (And.intro hone (And.intro hcn hcf)))
    clear hx hrx hrx2 hba hat hb hq gb ok h3 h4 z0 z1 hz2 hgx hd hf hZt hlen hsx hel hxl hxe hpos hone hcn hcf
    go_wp2_with (refine Go.wpList_copy_splice (o := ⟨some 26, _, _, _, _, _⟩) rfl _ _ 78 78 rfl 5 Try.underlying78 (by kernel_rfl) (some ⟨wr.heap.size, 0, none⟩) Ax 256 256 x.length cx rfl rfl wr.heap.size 0 (bv zero256) 5 HA.out.2.1 ((bv x).take (Nat.min x.length 256)) HCp.out.2.2.1 HCp.out.1 HCp.out.2.2.2 HCp.out.2.1 wr.heap.size wr HA.out.1 (Nat.le_refl _) ?_)
    intro w3 hG hB
    have hG2 := hG.out
    rw [HSp.out] at hG2
    have hrow : SOwn w3 base (.slice (some ⟨wr.heap.size, 0, none⟩) 256 256) (pad x) := ⟨by rw [bv_length, pad_len], .inr ⟨wr.heap.size, 256, _, by rw [pad_len], Nat.le_trans HD.out.1.hasbase (Nat.le_refl _), hG2, by rw [pad_len]; omega, by unfold maxLen; omega, by simp [bv_length, pad_len], by rw [Nat.mul_one, ← bv_length (pad x)]; exact List.take_length⟩⟩
    have hb3 := block_up HQ.out.1 hB
    have hq3 := HQ.out.2.up hB
    obtain ⟨⟨_, c1, _⟩, _⟩ := db_cells hb3
    have z0 := cell_up HZc.out.1 hB
    have z1 := (hB.frozen (p := ⟨gs, k, none⟩) (by have := World.block_lt_of_cell? wr _ HZc.out.1; exact this)).trans HZc.out.2
    have hb4 := blk_far hb3 (p := ⟨gs, k, none⟩) (fun e => DB.off_s hb3 hq3.s (by rw [e]; rfl)) (.slice (some ⟨wr.heap.size, 0, none⟩) 256 256)
    obtain ⟨⟨_, _, _, c3, _⟩, _⟩ := db_cells hb4
    have hq4 := hq3.set_s (i := k) rfl (by rw [HLe.out]; exact hks) hrow
    have hf4 := (HD.out.2.below hB).set (p := ⟨gs, k, none⟩) (fun _ => .inr (.inl rfl)) (.slice (some ⟨wr.heap.size, 0, none⟩) 256 256)
    have H4 := Lib.hid (And.intro hb4 (And.intro hq4 hf4))
    have hm4 := hq4.m
    have HM4 := Lib.hid hm4
    clear hG hG2 hrow hb3 hq3 hb4 hq4 hf4 hm4 hB
    go_wp2_with (refine wpList_mapdel (o := ⟨none, .call _, _, _, _, _⟩) rfl _ _ rfl HM4.out keyD mapD (c := (k : Nat)) ⟨by omega, by omega⟩ rfl rfl ?_)
    intro w5 hM hF
    have hp := H4.out.2.1.fr_m hF hM
    have hb5 := blk_fr H4.out.1 hF (fun e => DB.off_m H4.out.1 H4.out.2.1.m e.symm)
    have hfin : DAt L w5 base N g (.slice (some ⟨gs, 0, none⟩) d.sure.length cs) vw r (ldN d l (k + 1)) := by
      show DAt L w5 base N g _ vw r (put (ldN d l k) k (pad (l.getD k [])) false)
      rw [HG.out]
      exact ⟨HX.out.1, HPo.out, vf, lf, cl, hb5, hp.congr (oddF_del _ k (pad x) HOdd.out), HX.out.2.2.1, HX.out.2.2.2⟩
    have HFin := Lib.hid (And.intro hfin (H4.out.2.2.trans hF (fun k _ e => .inr (.inr (.inr e)))))
    clear hp hb5 hfin hM hF
    go_wp2
    exact ⟨⟨k + 1, by omega, by go_num, HFin.out.1, HFin.out.2⟩, by simp [intOf]; omega⟩
  · obtain rfl : k = m := by omega
    have dd : decide ((k : Int) < k) = false := decide_eq_false (by omega)
    have dn : decide (k < k) = false := decide_eq_false (by omega)
    obtain ⟨c2, c1, fz⟩ := hd.cell
    obtain ⟨hcl, hfc⟩ := hd.clear
    have HR : Hid (DTo L base N g (.slice As d.sure.length cs) vw r (loadD d l) W (wr.setCell ⟨g, 2, none⟩ (.slice none 0 0))) := Lib.hid ⟨.slice none 0 0, by unfold loadD; rw [← HM.out]; exact hcl, hf.trans hfc (fun k _ e => .inl e), fun k e => by cases e⟩
    clear hcl hfc hd hf
    go_wp2
    go_end0
    exact ⟨rfl, HR.out⟩
end
end Go.Proofs.Ythpnlgdcijmocaa.Dk
