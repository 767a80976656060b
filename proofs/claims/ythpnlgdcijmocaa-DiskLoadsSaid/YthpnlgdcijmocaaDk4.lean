/- The walk over disk's tear. -/
import Derived.Test.YthpnlgdcijmocaaDk3
namespace Go.Proofs.Ythpnlgdcijmocaa.Dk
open Go.RowKit Rg Mp
set_option linter.unusedVariables false
set_option linter.unusedSimpArgs false
theorem conv_b {w W : World} {v : Value} {l : List UInt8} (h : BRd w v l) (hb : Below w.heap.size w W) : (convert 78 9 v).run Try.prog W = .ok (.string (bstr l)) W :=
  conv_rd (P := Try.prog) (h.below hb) 78 5 9 Try.underlying78 Try.underlying5 Try.underlying9
theorem bstr_eq {a b : List UInt8} : (bstr a == bstr b) = decide (a = b) := by
  rw [Bool.eq_iff_iff, decide_eq_true_iff]
  constructor
  · intro h; exact bstr_inj ((MapKept.bytes_beq _ _).1 h)
  · rintro rfl; exact (MapKept.bytes_beq _ _).2 rfl
theorem bstr_eqL {a b : List UInt8} : ((bstr a).toList == (bstr b).toList) = decide (a = b) := by rw [← beq_toListBytes]; exact bstr_eq
/-- A part of what is read. -/
theorem brd_takeN {w : World} {A : Option Addr} {n c : Nat} {l : List UInt8} (h : BRd w (.slice A n c) l) {k : Nat} (hk : k ≤ l.length) (c' : Nat) (hc : k ≤ c') : BRd w (.slice A k c') (l.take k) := by
  obtain ⟨A', c0, e, h1, h2, h3⟩ := h
  cases e
  refine ⟨A, c', by rw [List.length_take, Nat.min_eq_left hk], by rw [List.length_take]; omega, ?_, fun ad e hne => h3 ad e (fun e0 => hne (by rw [e0]; simp))⟩
  have := h2.take k
  rwa [bv_take] at this
theorem brd_dropN {w : World} {g o n c : Nat} {l : List UInt8} (h : BRd w (.slice (some ⟨g, o, none⟩) n c) l) {k : Nat} (hk : k ≤ l.length) (c' : Nat) (hc : l.length - k ≤ c') : BRd w (.slice (some ⟨g, o + k, none⟩) (l.length - k) c') (l.drop k) := by
  obtain ⟨A', c0, e, h1, h2, h3⟩ := h
  cases e
  refine ⟨_, c', by rw [List.length_drop], by rw [List.length_drop]; omega, ?_, fun ad e hne => by cases e; rfl⟩
  have := rd_add h2 k
  rw [bv_drop] at this
  simp only [Option.map_some, add_plain] at this
  exact this
section
variable {L : Int → Prop} {W : World} {base N g r : Nat} {vs vw : Value} {d : DkS}
theorem sown_at {v : Value} {b : Oc} (h : SOwn W base v b) (h0 : 0 < b.length) : ∃ gb c, v = .slice (some ⟨gb, 0, none⟩) b.length c ∧ b.length ≤ c := by
  obtain ⟨A, c, rfl, hc, _, hr, ha⟩ := own_rd h
  obtain ⟨ad, rfl, _⟩ := hr.at_ (i := 0) (by rw [bv_length]; exact h0)
  obtain ⟨gb, o, sp⟩ := ad
  obtain ⟨e1, e2, _⟩ := ha _ rfl
  simp only at e1 e2
  subst e1 e2
  exact ⟨gb, c, rfl, hc⟩
set_option maxHeartbeats 4000000 in
set_option maxRecDepth 100000 in
theorem dtear_ok (h : DAt L W base N g vs vw r d) (hN : N ≤ 1099511627776) {i : Nat} (hi : i < d.sure.length) {v : Value} {b : Oc} (hv : SOwn W base v b) (hb256 : b.length = 256) {n : Nat} (hn : n ≤ 256) :
    Calls Try.prog 108 #[.pointer (some ⟨g, 0, none⟩), .agg #[.int .i64 (i : Nat), v], .int .i64 (n : Nat)] W fun e w' => e = .returned (.tuple #[]) ∧ DAt L w' base (N + 1) g vs vw r (tear d (i, b) n) ∧ Fr (DO g vs vw r) W w' := by
  have H0 := Lib.hid h
  have hok := h.ok
  have hget : d.sure.getD i [] = d.sure[i] := by rw [List.getD_eq_getElem?_getD, List.getElem?_eq_getElem hi]; rfl
  have hs256 : d.sure[i].length = 256 := hok.sec _ (List.getElem_mem hi)
  have htl := tearB_len hok (w := (i, b)) ⟨hi, hb256⟩ hn
  have hbase : base ≤ W.heap.size := by
    have := h.gb
    obtain ⟨_, _, _, _, _, hb, _⟩ := h
    have := (Array.getElem?_eq_some_iff.1 hb).1
    omega
  obtain ⟨gb, ok, vf, lf, cl, hb, hq, h3, h4⟩ := h
  obtain ⟨gs, c, v0, rfl, z0, z1, hv0⟩ := hq.s.at_ hi
  obtain ⟨ga, cc, e1, hcc⟩ := sown_at hv (by omega)
  obtain ⟨g0, c0, e2, hc0⟩ := sown_at hv0 (by omega)
  rw [hb256] at e1 hcc
  rw [hs256] at e2 hc0
  subst e1 e2
  have hBv := brd_own hv
  have hBv0 := brd_own hv0
  have hba := below_alloc1 W (.cells #[.int .i64 (i : Nat), .slice (some ⟨ga, 0, none⟩) 256 cc] 139)
  have hq1 := alloc_at (w := W) (.cells #[.int .i64 (i : Nat), .slice (some ⟨ga, 0, none⟩) 256 cc] 139) rfl
  have hd := below_up hba below_drew1
  have HZZ := Lib.hid (And.intro z0 z1)
  have HC := Lib.hid (And.intro (block_up hb hd) (And.intro (block_up hq1 below_drew1) (cell_up z0 hd)))
  have hi2 : i ≤ 4096 := by have := ok.many; omega
  have bi : (i : Int) < d.sure.length := by omega
  have bi2 : decide (i < d.sure.length) = true := decide_eq_true hi
  obtain ⟨A2, hA2⟩ : ∃ q : Option Addr, (if c0 = n then some ⟨g0, 0, none⟩ else some ⟨g0, n, none⟩) = q := ⟨_, rfl⟩
  have HT2 : Hid (∀ W', Below W.heap.size W W' → BRd W' (.slice A2 (256 - n) (c0 - n)) (d.sure[i].drop n)) := Lib.hid (fun W' hb => by
    subst hA2
    split
    · rename_i hcn
      have hn2 : n = 256 := by omega
      rw [hn2, List.drop_eq_nil_of_le (by omega), show 256 - 256 = 0 from rfl]
      exact ⟨_, c0 - 256, rfl, Nat.zero_le _, Rd.nil _ _, fun ad e hne => absurd rfl hne⟩
    · have := brd_dropN (hBv0.below hb) (k := n) (by omega) (c0 - n) (by omega)
      rw [hs256, Nat.zero_add] at this
      exact this)
  have HT1 : Hid (∀ W', Below W.heap.size W W' → BRd W' (.slice (some ⟨ga, 0, none⟩) n cc) (b.take n)) := Lib.hid (fun W' hb => by have := brd_takeN (hBv.below hb) (k := n) (by omega) cc (by omega); exact this)
  have htb : [b.take n, d.sure[i].drop n].flatten = tearB d (i, b) n := by unfold tearB; rw [hget]; simp
  obtain ⟨R, hR⟩ : ∃ R, tear d (i, b) n = R := ⟨_, rfl⟩
  have hRR : (tearB d (i, b) n = b → R = put d i b false) ∧ (tearB d (i, b) n ≠ b → tearB d (i, b) n = d.sure[i] → R = d) ∧ (tearB d (i, b) n ≠ b → tearB d (i, b) n ≠ d.sure[i] → R = put d i (tearB d (i, b) n) true) := by
    rw [← hR]; unfold tear; rw [hget]
    exact ⟨fun h => if_pos h, fun h h' => (if_neg h).trans (if_pos h'), fun h h' => (if_neg h).trans (if_neg h')⟩
  rw [hR]
  clear hR
  generalize tearB d (i, b) n = tb at *
  have HRR := Lib.hid hRR
  clear hRR
  have HTB := Lib.hid (And.intro htb htl)
  have HV := Lib.hid (And.intro hv hBv)
  have HV0 := Lib.hid (And.intro hBv0 hget)
  have HD := Lib.hid hd
  have HBs := Lib.hid hbase
  have HX := Lib.hid (And.intro gb (And.intro ok (And.intro hb (And.intro hq (And.intro h3 h4)))))
  have bn : (n : Int) ≤ 256 := by omega
  have bc : (n : Int) ≤ cc := by omega
  have bc0 : (n : Int) ≤ c0 := by omega
  clear hb hq hba hq1 hd hv hok z0 z1 ok gb h3 h4 hBv hBv0 htb htl hv0 hbase
  go_enter Try.func108, Try.ntmps108
  go_wp2_with fail
  obtain ⟨⟨_, c1, _, _, _⟩, _⟩ := db_cells HC.out.1
  obtain ⟨e0, e1⟩ := cells2d HC.out.2.1
  have z0 := HC.out.2.2
  refine beginS (S := fun W' => W'.cell? ⟨g, 1, none⟩ = some (.slice (some ⟨gs, 0, none⟩) d.sure.length c) ∧ (W'.cell? ⟨W.heap.size, 0, none⟩ = some (.int .i64 (i : Nat)) ∧ W'.cell? ⟨W.heap.size, 1, none⟩ = some (.slice (some ⟨ga, 0, none⟩) 256 cc)) ∧ W'.cell? ⟨gs, i, none⟩ = some (.slice (some ⟨g0, 0, none⟩) 256 c0)) [] (by kernel_rfl) ⟨c1, ⟨e0, e1⟩, z0⟩ (fun hHeld0 => ?_)
  generalize (World.drew _) = W0 at *
  clear c1 e0 e1 z0
  refine takeF (i := 0) (v := ?_) rfl (by kernel_rfl) (fun _ _ _ h => h) (Or.inl ⟨by kernel_rfl, ?_⟩) (by assumption) ?_; rotate_left; (focus (intro w _; go_simp; (try with_reducible rfl); done)); (try simp only [Act.put, List.getElem_toArray, List.getElem_cons_succ, List.getElem_cons_zero, List.setIfInBounds_toArray, List.set_cons_zero, List.set_cons_succ])
  refine takeH (i := 1) (v := ?_) rfl (by kernel_rfl) (fun _ _ _ h => h) (Or.inl ⟨by kernel_rfl, ?_⟩) (by assumption) ?_; rotate_left; (focus (intro w hSw; (try dsimp only at hSw); go_simp; (try with_reducible rfl); done)); (try simp only [Act.put, List.getElem_toArray, List.getElem_cons_succ, List.getElem_cons_zero, List.setIfInBounds_toArray, List.set_cons_zero, List.set_cons_succ])
  refine takeF (i := 2) (v := ?_) rfl (by kernel_rfl) (fun _ _ _ h => h) (Or.inl ⟨by kernel_rfl, ?_⟩) (by assumption) ?_; rotate_left; (focus (intro w _; go_simp; (try with_reducible rfl); done)); (try simp only [Act.put, List.getElem_toArray, List.getElem_cons_succ, List.getElem_cons_zero, List.setIfInBounds_toArray, List.set_cons_zero, List.set_cons_succ])
  refine takeF (i := 3) (v := ?_) rfl (by kernel_rfl) (fun _ _ _ h => h) (Or.inl ⟨by kernel_rfl, ?_⟩) (by assumption) ?_; rotate_left; (focus (intro w _; go_simp; (try with_reducible rfl); done)); (try simp only [Act.put, List.getElem_toArray, List.getElem_cons_succ, List.getElem_cons_zero, List.setIfInBounds_toArray, List.set_cons_zero, List.set_cons_succ])
  refine takeF (i := 4) (v := ?_) rfl (by kernel_rfl) (fun _ _ _ h => h) (Or.inl ⟨by kernel_rfl, ?_⟩) (by assumption) ?_; rotate_left; (focus (intro w _; go_simp; (try with_reducible rfl); done)); (try simp only [Act.put, List.getElem_toArray, List.getElem_cons_succ, List.getElem_cons_zero, List.setIfInBounds_toArray, List.set_cons_zero, List.set_cons_succ])
  refine takeF (i := 5) (v := ?_) rfl (by kernel_rfl) (fun _ _ _ h => h) (Or.inl ⟨by kernel_rfl, ?_⟩) (by assumption) ?_; rotate_left; (focus (intro w _; go_simp; (try with_reducible rfl); done)); (try simp only [Act.put, List.getElem_toArray, List.getElem_cons_succ, List.getElem_cons_zero, List.setIfInBounds_toArray, List.set_cons_zero, List.set_cons_succ])
  refine takeF (i := 6) (v := ?_) rfl (by kernel_rfl) (fun _ _ _ h => h) (Or.inl ⟨by kernel_rfl, ?_⟩) (by assumption) ?_; rotate_left; (focus (intro w _; go_simp; (try with_reducible rfl); done)); (try simp only [Act.put, List.getElem_toArray, List.getElem_cons_succ, List.getElem_cons_zero, List.setIfInBounds_toArray, List.set_cons_zero, List.set_cons_succ])
  refine takeH (i := 7) (v := ?_) rfl (by kernel_rfl) (fun _ _ _ h => h) (Or.inl ⟨by kernel_rfl, ?_⟩) (by assumption) ?_; rotate_left; (focus (intro w hSw; (try dsimp only at hSw); go_simp; (try with_reducible rfl); done)); (try simp only [Act.put, List.getElem_toArray, List.getElem_cons_succ, List.getElem_cons_zero, List.setIfInBounds_toArray, List.set_cons_zero, List.set_cons_succ])
  refine takeF (i := 8) (v := ?_) rfl (by kernel_rfl) (fun _ _ _ h => h) (Or.inl ⟨by kernel_rfl, ?_⟩) (by assumption) ?_; rotate_left; (focus (intro w _; go_simp; (try with_reducible rfl); done)); (try simp only [Act.put, List.getElem_toArray, List.getElem_cons_succ, List.getElem_cons_zero, List.setIfInBounds_toArray, List.set_cons_zero, List.set_cons_succ])
  refine takeH (i := 9) (v := ?_) rfl (by kernel_rfl) (fun _ _ _ h => h) (Or.inl ⟨by kernel_rfl, ?_⟩) (by assumption) ?_; rotate_left; (focus (intro w hSw; (try dsimp only at hSw); go_simp; (try with_reducible rfl); done)); (try simp only [Act.put, List.getElem_toArray, List.getElem_cons_succ, List.getElem_cons_zero, List.setIfInBounds_toArray, List.set_cons_zero, List.set_cons_succ])
  refine takeF (i := 10) (v := ?_) rfl (by kernel_rfl) (fun _ _ _ h => h) (Or.inl ⟨by kernel_rfl, ?_⟩) (by assumption) ?_; rotate_left; (focus (intro w _; go_simp; (try with_reducible rfl); done)); (try simp only [Act.put, List.getElem_toArray, List.getElem_cons_succ, List.getElem_cons_zero, List.setIfInBounds_toArray, List.set_cons_zero, List.set_cons_succ])
  refine takeH (i := 11) (v := ?_) rfl (by kernel_rfl) (fun _ _ _ h => h) (Or.inl ⟨by kernel_rfl, ?_⟩) (by assumption) ?_; rotate_left; (focus (intro w hSw; (try dsimp only at hSw); go_simp; (try with_reducible rfl); done)); (try simp only [Act.put, List.getElem_toArray, List.getElem_cons_succ, List.getElem_cons_zero, List.setIfInBounds_toArray, List.set_cons_zero, List.set_cons_succ])
  refine takeF (i := 12) (v := ?_) rfl (by kernel_rfl) (fun _ _ _ h => h) (Or.inl ⟨by kernel_rfl, ?_⟩) (by assumption) ?_; rotate_left; (focus (intro w _; go_simp; (try with_reducible rfl); done)); (try simp only [Act.put, List.getElem_toArray, List.getElem_cons_succ, List.getElem_cons_zero, List.setIfInBounds_toArray, List.set_cons_zero, List.set_cons_succ])
  refine takeF (i := 13) (v := ?_) rfl (by kernel_rfl) (fun _ _ _ h => h) (Or.inl ⟨by kernel_rfl, ?_⟩) (by assumption) ?_; rotate_left; (focus (intro w _; go_simp; (try with_reducible rfl); done)); (try simp only [Act.put, List.getElem_toArray, List.getElem_cons_succ, List.getElem_cons_zero, List.setIfInBounds_toArray, List.set_cons_zero, List.set_cons_succ])
  clear hHeld0
  refine readyS (rs := [14]) (by kernel_rfl) (by simp) ?_
  refine ReadyS.consH rfl (fun K hK => ?_) ReadyS.nil
  (try simp only [List.getElem_toArray, List.getElem_cons_succ, List.getElem_cons_zero])
  go_simp
  have hba := below_alloc1 W0 (.cells #[.slice (some ⟨ga, 0, none⟩) n cc, .slice A2 (256 - n) (c0 - n)] 78)
  have hat := alloc_at (w := W0) (.cells #[.slice (some ⟨ga, 0, none⟩) n cc, .slice A2 (256 - n) (c0 - n)] 78) rfl
  have hD1 := below_up HD.out hba
  have HSl : Hid (SlAt (W0.alloc (.cells #[.slice (some ⟨ga, 0, none⟩) n cc, .slice A2 (256 - n) (c0 - n)] 78)) (.slice (some ⟨W0.heap.size, 0, none⟩) 2 2) [b.take n, d.sure[i].drop n]) := Lib.hid ⟨_, 2, rfl, fun q hq => by
    match q, hq with
    | 0, _ => exact ⟨_, _, rfl, by rw [add_plain, cell_block hat]; rfl, HT1.out _ hD1⟩
    | 1, _ => exact ⟨_, _, rfl, by rw [add_plain, cell_block hat]; rfl, HT2.out _ hD1⟩⟩
  have HBa := Lib.hid hba
  clear hba hat hD1
  refine hK.out _ _ (⟨cell_block (block_up HC.out.1 HBa.out) 1, cells2d (block_up HC.out.2.1 HBa.out), cell_up HC.out.2.2 HBa.out⟩) (fun hHeld => ?_)
  clear hK K
  (try simp only [Act.put, List.getElem_toArray, List.getElem_cons_succ, List.getElem_cons_zero, List.setIfInBounds_toArray, List.set_cons_zero, List.set_cons_succ])
  clear hHeld
  have HCc := Lib.hid (concat_ok _ _ _ HSl.out (by unfold total; rw [HTB.out.1, HTB.out.2]; decide) (by simp))
  generalize (World.alloc W0 _) = W1 at *
  refine readyS (rs := [15]) (by kernel_rfl) (by simp) ?_
  refine ReadyS.consH rfl (fun K hK => ?_) ReadyS.nil
  (try simp only [List.getElem_toArray, List.getElem_cons_succ, List.getElem_cons_zero])
  go_simp
  (with_reducible refine HCc.out.mono ?_); rintro e W4 ⟨x, rfl, hb4, hx⟩
  rw [HTB.out.1] at hx
  have hw4 := below_up HD.out (below_up HBa.out hb4)
  have hx1 := own_lower hx (Nat.le_trans HBs.out (Nat.le_trans HD.out.size HBa.out.size))
  obtain ⟨gx, cx, e1, hcx⟩ := sown_at hx1 (by rw [HTB.out.2]; decide)
  rw [HTB.out.2] at e1 hcx
  subst e1
  have H4 := Lib.hid (And.intro (block_up HX.out.2.2.1 hw4) (And.intro (HX.out.2.2.2.1.up hw4) (And.intro (block_up HC.out.2.1 (below_up HBa.out hb4)) (And.intro (own_below HV.out.1 hw4) (And.intro hx1 hw4)))))
  have H04 := Lib.hid (below_up HBa.out hb4)
  clear hb4 hx hx1 hw4
  refine hK.out _ _ (⟨cell_block H4.out.1 1, cells2d H4.out.2.2.1, cell_up HC.out.2.2 H04.out⟩) (fun hHeld => ?_)
  clear hK K
  (try simp only [Act.put, List.getElem_toArray, List.getElem_cons_succ, List.getElem_cons_zero, List.setIfInBounds_toArray, List.set_cons_zero, List.set_cons_succ])
  refine takeF (i := 16) (v := ?_) rfl (by kernel_rfl) (fun _ _ _ h => h) (Or.inl ⟨by kernel_rfl, ?_⟩) (by assumption) ?_; rotate_left; (focus (intro w _; go_simp; (try with_reducible rfl); done)); (try simp only [Act.put, List.getElem_toArray, List.getElem_cons_succ, List.getElem_cons_zero, List.setIfInBounds_toArray, List.set_cons_zero, List.set_cons_succ])
  refine doneS (by kernel_rfl) ?_ _
  clear hHeld HBa HSl HCc HT1 HT2 hA2
  have hDA : DAt L W4 base N g (.slice (some ⟨gs, 0, none⟩) d.sure.length c) vw r d := ⟨HX.out.1, HX.out.2.1, vf, lf, cl, H4.out.1, H4.out.2.1, HX.out.2.2.2.2.1, HX.out.2.2.2.2.2⟩
  have HDA := Lib.hid hDA
  have HWh := Lib.hid (whole_ok hDA hi H4.out.2.2.2.1 hb256)
  have q1 := conv_b (brd_own H4.out.2.2.2.2.1) (Below.refl W4.heap.size W4)
  have q2 := conv_b (brd_own H4.out.2.2.2.1) (Below.refl W4.heap.size W4)
  obtain ⟨e0, e1⟩ := cells2d H4.out.2.2.1
  have HL := Lib.hid HTB.out.2
  clear hDA HTB
  by_cases c1 : tb = b
  · obtain rfl := HRR.out.1 c1
    have k1 : (bstr tb == bstr b) = true := by rw [bstr_eq]; exact decide_eq_true c1
    have k2 : ((bstr tb).toList == (bstr b).toList) = true := by rw [bstr_eqL]; exact decide_eq_true c1
    subst c1
    go_wp2_with fail
    (with_reducible refine HWh.out.mono ?_); rintro e W5 ⟨rfl, hd5, hf5⟩
    have HR := Lib.hid (And.intro hd5 hf5)
    clear hd5 hf5
    go_wp2
    go_end0
    exact ⟨rfl, HR.out.1.mono (Nat.le_succ _), (Fr.of_below (S := DO g (.slice (some ⟨gs, 0, none⟩) d.sure.length c) vw r) H4.out.2.2.2.2.2).trans HR.out.2 (fun k _ h => h)⟩
  · have HRR2 := Lib.hid (And.intro (HRR.out.2.1 c1) (HRR.out.2.2 c1))
    have k1 : (bstr tb == bstr b) = false := by rw [bstr_eq]; exact decide_eq_false c1
    have k2 : ((bstr tb).toList == (bstr b).toList) = false := by rw [bstr_eqL]; exact decide_eq_false c1
    clear c1
    go_upto_region 7 with (fail)
    have hd := below_drew1 (w := W4)
    have H5 := Lib.hid (And.intro (block_up H4.out.1 hd) (And.intro (H4.out.2.1.up hd) (And.intro (block_up H4.out.2.2.1 hd) (And.intro (own_below H4.out.2.2.2.2.1 hd) (below_up H4.out.2.2.2.2.2 hd)))))
    have z0 := cell_up (cell_up HC.out.2.2 H04.out) hd
    have q3 := conv_b HV0.out.1 H5.out.2.2.2.2
    clear q1 q2 e0 e1 HDA HWh
    obtain ⟨e0, e1⟩ := cells2d H5.out.2.2.1
    refine beginS (S := fun W' => W'.cell? ⟨g, 1, none⟩ = some (.slice (some ⟨gs, 0, none⟩) d.sure.length c) ∧ W'.cell? ⟨W.heap.size, 0, none⟩ = some (.int .i64 (i : Nat)) ∧ W'.cell? ⟨gs, i, none⟩ = some (.slice (some ⟨g0, 0, none⟩) 256 c0) ∧ (convert 78 9 (.slice (some ⟨g0, 0, none⟩) 256 c0)).run Try.prog W' = .ok (.string (bstr d.sure[i])) W') [] (by kernel_rfl) ⟨cell_block H5.out.1 1, e0, z0, q3⟩ (fun hHeld0 => ?_)
    generalize (World.drew W4) = W5 at *
    clear e0 e1 z0 q3 hd
    refine takeF (i := 0) (v := ?_) rfl (by kernel_rfl) (fun _ _ _ h => h) (Or.inl ⟨by kernel_rfl, ?_⟩) (by assumption) ?_; rotate_left; (focus (intro w _; go_simp; (try with_reducible rfl); done)); (try simp only [Act.put, List.getElem_toArray, List.getElem_cons_succ, List.getElem_cons_zero, List.setIfInBounds_toArray, List.set_cons_zero, List.set_cons_succ])
    refine takeF (i := 1) (v := ?_) rfl (by kernel_rfl) (fun _ _ _ h => h) (Or.inl ⟨by kernel_rfl, ?_⟩) (by assumption) ?_; rotate_left; (focus (intro w _; go_simp; (try with_reducible rfl); done)); (try simp only [Act.put, List.getElem_toArray, List.getElem_cons_succ, List.getElem_cons_zero, List.setIfInBounds_toArray, List.set_cons_zero, List.set_cons_succ])
    refine takeF (i := 2) (v := ?_) rfl (by kernel_rfl) (fun _ _ _ h => h) (Or.inl ⟨by kernel_rfl, ?_⟩) (by assumption) ?_; rotate_left; (focus (intro w _; go_simp; (try with_reducible rfl); done)); (try simp only [Act.put, List.getElem_toArray, List.getElem_cons_succ, List.getElem_cons_zero, List.setIfInBounds_toArray, List.set_cons_zero, List.set_cons_succ])
    refine takeH (i := 3) (v := ?_) rfl (by kernel_rfl) (fun _ _ _ h => h) (Or.inl ⟨by kernel_rfl, ?_⟩) (by assumption) ?_; rotate_left; (focus (intro w hSw; (try dsimp only at hSw); go_simp; (try with_reducible rfl); done)); (try simp only [Act.put, List.getElem_toArray, List.getElem_cons_succ, List.getElem_cons_zero, List.setIfInBounds_toArray, List.set_cons_zero, List.set_cons_succ])
    refine takeF (i := 4) (v := ?_) rfl (by kernel_rfl) (fun _ _ _ h => h) (Or.inl ⟨by kernel_rfl, ?_⟩) (by assumption) ?_; rotate_left; (focus (intro w _; go_simp; (try with_reducible rfl); done)); (try simp only [Act.put, List.getElem_toArray, List.getElem_cons_succ, List.getElem_cons_zero, List.setIfInBounds_toArray, List.set_cons_zero, List.set_cons_succ])
    refine takeH (i := 5) (v := ?_) rfl (by kernel_rfl) (fun _ _ _ h => h) (Or.inl ⟨by kernel_rfl, ?_⟩) (by assumption) ?_; rotate_left; (focus (intro w hSw; (try dsimp only at hSw); go_simp; (try with_reducible rfl); done)); (try simp only [Act.put, List.getElem_toArray, List.getElem_cons_succ, List.getElem_cons_zero, List.setIfInBounds_toArray, List.set_cons_zero, List.set_cons_succ])
    refine takeF (i := 6) (v := ?_) rfl (by kernel_rfl) (fun _ _ _ h => h) (Or.inl ⟨by kernel_rfl, ?_⟩) (by assumption) ?_; rotate_left; (focus (intro w _; go_simp; (try with_reducible rfl); done)); (try simp only [Act.put, List.getElem_toArray, List.getElem_cons_succ, List.getElem_cons_zero, List.setIfInBounds_toArray, List.set_cons_zero, List.set_cons_succ])
    refine takeH (i := 7) (v := ?_) rfl (by kernel_rfl) (fun _ _ _ h => h) (Or.inl ⟨by kernel_rfl, ?_⟩) (by assumption) ?_; rotate_left; (focus (intro w hSw; (try dsimp only at hSw); go_simp; (try with_reducible rfl); done)); (try simp only [Act.put, List.getElem_toArray, List.getElem_cons_succ, List.getElem_cons_zero, List.setIfInBounds_toArray, List.set_cons_zero, List.set_cons_succ])
    refine takeH (i := 8) (v := ?_) rfl (by kernel_rfl) (fun _ _ _ h => h) (Or.inl ⟨by kernel_rfl, ?_⟩) (by assumption) ?_; rotate_left; (focus (intro w hSw; (try dsimp only at hSw); go_simp; (try with_reducible rfl); done)); (try simp only [Act.put, List.getElem_toArray, List.getElem_cons_succ, List.getElem_cons_zero, List.setIfInBounds_toArray, List.set_cons_zero, List.set_cons_succ])
    refine takeF (i := 9) (v := ?_) rfl (by kernel_rfl) (fun _ _ _ h => h) (Or.inl ⟨by kernel_rfl, ?_⟩) (by assumption) ?_; rotate_left; (focus (intro w _; go_simp; (try with_reducible rfl); done)); (try simp only [Act.put, List.getElem_toArray, List.getElem_cons_succ, List.getElem_cons_zero, List.setIfInBounds_toArray, List.set_cons_zero, List.set_cons_succ])
    refine takeF (i := 10) (v := ?_) rfl (by kernel_rfl) (fun _ _ _ h => h) (Or.inl ⟨by kernel_rfl, ?_⟩) (by assumption) ?_; rotate_left; (focus (intro w _; go_simp; (try with_reducible rfl); done)); (try simp only [Act.put, List.getElem_toArray, List.getElem_cons_succ, List.getElem_cons_zero, List.setIfInBounds_toArray, List.set_cons_zero, List.set_cons_succ])
    refine doneS (by kernel_rfl) ?_ _
    have HH := Lib.hid hHeld0
    clear hHeld0
    have hbeq : ((bstr tb).toList == (bstr d.sure[i]).toList) = decide (tb = d.sure[i]) := bstr_eqL
    by_cases c2 : tb = d.sure[i]
    · rw [hbeq, decide_eq_true c2]
      obtain rfl := HRR2.out.1 c2
      have HRes : Hid (DAt L W5 base (N + 1) g (.slice (some ⟨gs, 0, none⟩) R.sure.length c) vw r R ∧ Fr (DO g (.slice (some ⟨gs, 0, none⟩) R.sure.length c) vw r) W W5) := Lib.hid ⟨(show DAt L W5 base N g (.slice (some ⟨gs, 0, none⟩) R.sure.length c) vw r R from ⟨HX.out.1, HX.out.2.1, vf, lf, cl, H5.out.1, H5.out.2.1, HX.out.2.2.2.2.1, HX.out.2.2.2.2.2⟩).mono (Nat.le_succ _), Fr.of_below H5.out.2.2.2.2⟩
      clear hbeq c2 k1 k2
      go_wp2
      go_end0
      exact ⟨rfl, HRes.out⟩
    · rw [hbeq, decide_eq_false c2]
      have HR3 := Lib.hid (HRR2.out.2 c2)
      clear hbeq c2 k1 k2
      go_wp2_with fail
      have hd := below_drew1 (w := W5)
      have hfz := (hd.frozen (p := ⟨gs, i, none⟩) (by have := World.block_lt_of_cell? W5 _ HH.out.2.2.1; exact this))
      have hfz2 : W5.frozen? ⟨gs, i, none⟩ = false := (H5.out.2.2.2.2.frozen (p := ⟨gs, i, none⟩) (by have := World.block_lt_of_cell? W _ HZZ.out.1; exact this)).trans HZZ.out.2
      have H6 := Lib.hid (And.intro (block_up H5.out.1 hd) (And.intro (H5.out.2.1.up hd) (And.intro (block_up H5.out.2.2.1 hd) (And.intro (own_below H5.out.2.2.2.1 hd) (And.intro (below_up H5.out.2.2.2.2 hd) (And.intro (cell_up HH.out.2.2.1 hd) (hfz.trans hfz2)))))))
      clear hfz hfz2
      obtain ⟨e0, e1⟩ := cells2d H6.out.2.2.1
      refine beginS (S := fun W' => W'.cell? ⟨g, 1, none⟩ = some (.slice (some ⟨gs, 0, none⟩) d.sure.length c) ∧ W'.cell? ⟨W.heap.size, 0, none⟩ = some (.int .i64 (i : Nat))) [8] (by kernel_rfl) ⟨cell_block H6.out.1 1, e0⟩ (fun hHeld0 => ?_)
      generalize (World.drew W5) = W6 at *
      clear e0 e1 hd
      refine takeF (i := 0) (v := ?_) rfl (by kernel_rfl) (fun _ _ _ h => h) (Or.inl ⟨by kernel_rfl, ?_⟩) (by assumption) ?_; rotate_left; (focus (intro w _; go_simp; (try with_reducible rfl); done)); (try simp only [Act.put, List.getElem_toArray, List.getElem_cons_succ, List.getElem_cons_zero, List.setIfInBounds_toArray, List.set_cons_zero, List.set_cons_succ])
      refine takeF (i := 1) (v := ?_) rfl (by kernel_rfl) (fun _ _ _ h => h) (Or.inl ⟨by kernel_rfl, ?_⟩) (by assumption) ?_; rotate_left; (focus (intro w _; go_simp; (try with_reducible rfl); done)); (try simp only [Act.put, List.getElem_toArray, List.getElem_cons_succ, List.getElem_cons_zero, List.setIfInBounds_toArray, List.set_cons_zero, List.set_cons_succ])
      refine takeF (i := 2) (v := ?_) rfl (by kernel_rfl) (fun _ _ _ h => h) (Or.inl ⟨by kernel_rfl, ?_⟩) (by assumption) ?_; rotate_left; (focus (intro w _; go_simp; (try with_reducible rfl); done)); (try simp only [Act.put, List.getElem_toArray, List.getElem_cons_succ, List.getElem_cons_zero, List.setIfInBounds_toArray, List.set_cons_zero, List.set_cons_succ])
      refine takeH (i := 3) (v := ?_) rfl (by kernel_rfl) (fun _ _ _ h => h) (Or.inl ⟨by kernel_rfl, ?_⟩) (by assumption) ?_; rotate_left; (focus (intro w hSw; (try dsimp only at hSw); go_simp; (try with_reducible rfl); done)); (try simp only [Act.put, List.getElem_toArray, List.getElem_cons_succ, List.getElem_cons_zero, List.setIfInBounds_toArray, List.set_cons_zero, List.set_cons_succ])
      refine takeF (i := 4) (v := ?_) rfl (by kernel_rfl) (fun _ _ _ h => h) (Or.inl ⟨by kernel_rfl, ?_⟩) (by assumption) ?_; rotate_left; (focus (intro w _; go_simp; (try with_reducible rfl); done)); (try simp only [Act.put, List.getElem_toArray, List.getElem_cons_succ, List.getElem_cons_zero, List.setIfInBounds_toArray, List.set_cons_zero, List.set_cons_succ])
      refine takeH (i := 5) (v := ?_) rfl (by kernel_rfl) (fun _ _ _ h => h) (Or.inl ⟨by kernel_rfl, ?_⟩) (by assumption) ?_; rotate_left; (focus (intro w hSw; (try dsimp only at hSw); go_simp; (try with_reducible rfl); done)); (try simp only [Act.put, List.getElem_toArray, List.getElem_cons_succ, List.getElem_cons_zero, List.setIfInBounds_toArray, List.set_cons_zero, List.set_cons_succ])
      refine takeF (i := 6) (v := ?_) rfl (by kernel_rfl) (fun _ _ _ h => h) (Or.inl ⟨by kernel_rfl, ?_⟩) (by assumption) ?_; rotate_left; (focus (intro w _; go_simp; (try with_reducible rfl); done)); (try simp only [Act.put, List.getElem_toArray, List.getElem_cons_succ, List.getElem_cons_zero, List.setIfInBounds_toArray, List.set_cons_zero, List.set_cons_succ])
      refine takeF (i := 7) (v := ?_) rfl (by kernel_rfl) (fun _ _ _ h => h) (Or.inl ⟨by kernel_rfl, ?_⟩) (by assumption) ?_; rotate_left; (focus (intro w _; go_simp; (try with_reducible rfl); done)); (try simp only [Act.put, List.getElem_toArray, List.getElem_cons_succ, List.getElem_cons_zero, List.setIfInBounds_toArray, List.set_cons_zero, List.set_cons_succ])
      clear hHeld0
      have z0 := H6.out.2.2.2.2.2.1
      have z1 := H6.out.2.2.2.2.2.2
      refine readyS (rs := [8]) (by kernel_rfl) (by simp) ?_
      refine ReadyS.consP rfl (by kernel_rfl) (fun K hK => ?_) ReadyS.nil
      (try simp only [List.getElem_toArray, List.getElem_cons_succ, List.getElem_cons_zero])
      go_simp
      have hne : gs ≠ W.heap.size := by have := World.block_lt_of_cell? W _ HZZ.out.1; simp only at this; omega
      have hb7 : DB (W6.setCell ⟨gs, i, none⟩ (.slice (some ⟨gx, 0, none⟩) 256 cx)) g (.slice (some ⟨gs, 0, none⟩) d.sure.length c) vw r _ _ lf vf _ cl := blk_far H6.out.1 (fun e => DB.off_s H6.out.1 H6.out.2.1.s (by rw [e]; rfl)) _
      have hs6 : SOwn W6 base (.slice (some ⟨gx, 0, none⟩) 256 cx) tb := H6.out.2.2.2.1
      have HB7 := Lib.hid (And.intro hb7 (And.intro (H6.out.2.1.set_s rfl hi hs6) (And.intro (blk_far H6.out.2.2.1 (fun e => hne e.symm) (.slice (some ⟨gx, 0, none⟩) 256 cx) : (W6.setCell ⟨gs, i, none⟩ (.slice (some ⟨gx, 0, none⟩) 256 cx)).heap[W.heap.size]? = _) ((Fr.of_below (S := DO g (.slice (some ⟨gs, 0, none⟩) d.sure.length c) vw r) H6.out.2.2.2.2.1).set (p := ⟨gs, i, none⟩) (fun _ => .inr (.inl rfl)) (.slice (some ⟨gx, 0, none⟩) 256 cx)))))
      clear hb7 z0 z1 hs6 hne
      generalize (World.setCell W6 _ _) = W7 at *
      refine hK.out _ _ ?_
      clear hK K
      (try simp only [Act.put, List.getElem_toArray, List.getElem_cons_succ, List.getElem_cons_zero, List.setIfInBounds_toArray, List.set_cons_zero, List.set_cons_succ])
      refine doneS (by kernel_rfl) ?_ _
      go_wp2_with fail
      have hd := below_drew1 (w := W7)
      have HB8 := Lib.hid (And.intro (block_up HB7.out.1 hd) (And.intro (HB7.out.2.1.up hd) (HB7.out.2.2.2.below hd)))
      obtain ⟨e0, e1⟩ := cells2d (block_up HB7.out.2.2.1 hd)
      refine beginS (S := fun W' => W'.cell? ⟨g, 3, none⟩ = some (.map (some r)) ∧ W'.cell? ⟨W.heap.size, 0, none⟩ = some (.int .i64 (i : Nat))) [6] (by kernel_rfl) ⟨cell_block HB8.out.1 3, e0⟩ (fun hHeld0 => ?_)
      generalize (World.drew W7) = W8 at *
      clear e0 e1 hd
      refine takeF (i := 0) (v := ?_) rfl (by kernel_rfl) (fun _ _ _ h => h) (Or.inl ⟨by kernel_rfl, ?_⟩) (by assumption) ?_; rotate_left; (focus (intro w _; go_simp; (try with_reducible rfl); done)); (try simp only [Act.put, List.getElem_toArray, List.getElem_cons_succ, List.getElem_cons_zero, List.setIfInBounds_toArray, List.set_cons_zero, List.set_cons_succ])
      refine takeF (i := 1) (v := ?_) rfl (by kernel_rfl) (fun _ _ _ h => h) (Or.inl ⟨by kernel_rfl, ?_⟩) (by assumption) ?_; rotate_left; (focus (intro w _; go_simp; (try with_reducible rfl); done)); (try simp only [Act.put, List.getElem_toArray, List.getElem_cons_succ, List.getElem_cons_zero, List.setIfInBounds_toArray, List.set_cons_zero, List.set_cons_succ])
      refine takeF (i := 2) (v := ?_) rfl (by kernel_rfl) (fun _ _ _ h => h) (Or.inl ⟨by kernel_rfl, ?_⟩) (by assumption) ?_; rotate_left; (focus (intro w _; go_simp; (try with_reducible rfl); done)); (try simp only [Act.put, List.getElem_toArray, List.getElem_cons_succ, List.getElem_cons_zero, List.setIfInBounds_toArray, List.set_cons_zero, List.set_cons_succ])
      refine takeH (i := 3) (v := ?_) rfl (by kernel_rfl) (fun _ _ _ h => h) (Or.inl ⟨by kernel_rfl, ?_⟩) (by assumption) ?_; rotate_left; (focus (intro w hSw; (try dsimp only at hSw); go_simp; (try with_reducible rfl); done)); (try simp only [Act.put, List.getElem_toArray, List.getElem_cons_succ, List.getElem_cons_zero, List.setIfInBounds_toArray, List.set_cons_zero, List.set_cons_succ])
      refine takeF (i := 4) (v := ?_) rfl (by kernel_rfl) (fun _ _ _ h => h) (Or.inl ⟨by kernel_rfl, ?_⟩) (by assumption) ?_; rotate_left; (focus (intro w _; go_simp; (try with_reducible rfl); done)); (try simp only [Act.put, List.getElem_toArray, List.getElem_cons_succ, List.getElem_cons_zero, List.setIfInBounds_toArray, List.set_cons_zero, List.set_cons_succ])
      refine takeH (i := 5) (v := ?_) rfl (by kernel_rfl) (fun _ _ _ h => h) (Or.inl ⟨by kernel_rfl, ?_⟩) (by assumption) ?_; rotate_left; (focus (intro w hSw; (try dsimp only at hSw); go_simp; (try with_reducible rfl); done)); (try simp only [Act.put, List.getElem_toArray, List.getElem_cons_succ, List.getElem_cons_zero, List.setIfInBounds_toArray, List.set_cons_zero, List.set_cons_succ])
      clear hHeld0
      refine readyS (rs := [6]) (by kernel_rfl) (by simp) ?_
      refine ReadyS.consP rfl (by kernel_rfl) (fun K hK => ?_) ReadyS.nil
      (try simp only [List.getElem_toArray, List.getElem_cons_succ, List.getElem_cons_zero])
      rw [if_pos (by kernel_rfl)]
      refine wp_mapset _ _ _ (by rfl) HB8.out.2.1.m keyD mapD (by unfold maxLen; omega) (c := (i : Nat)) ⟨by omega, by omega⟩ (.bool true) (by rfl) (by rfl) (by rfl) ?_
      intro W9 hM hF
      have HM := Lib.hid hM
      have HF := Lib.hid hF
      clear hM hF
      refine hK.out _ _ ?_
      clear hK K
      (try simp only [Act.put, List.getElem_toArray, List.getElem_cons_succ, List.getElem_cons_zero, List.setIfInBounds_toArray, List.set_cons_zero, List.set_cons_succ])
      refine doneS (by kernel_rfl) ?_ _
      go_wp2
      go_end0
      have hp := HB8.out.2.1.fr_m HF.out HM.out
      have hb9 : DB W9 g (.slice (some ⟨gs, 0, none⟩) d.sure.length c) vw r _ _ lf vf _ cl := blk_fr HB8.out.1 HF.out (fun e => DB.off_m HB8.out.1 HB8.out.2.1.m e.symm)
      have hR := HR3.out
      have hodd : i < d.odd.length := by rw [HX.out.2.1.odd]; exact hi
      have hokR : Ok (put d i tb true) := put_ok HX.out.2.1 hi HL.out true
      subst hR
      exact ⟨rfl, ⟨HX.out.1, hokR, vf, lf, cl, hb9, hp.congr (oddF_put d i tb hodd), HX.out.2.2.2.2.1, HX.out.2.2.2.2.2⟩, HB8.out.2.2.trans HF.out (fun k _ e => .inr (.inr (.inr e)))⟩
end
end Go.Proofs.Ythpnlgdcijmocaa.Dk
