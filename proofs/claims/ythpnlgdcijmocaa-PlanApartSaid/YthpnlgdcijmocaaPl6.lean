/- The walk over plan.Parts. -/
import Derived.Test.YthpnlgdcijmocaaPl5
namespace Go.Proofs.Ythpnlgdcijmocaa.Pl
open Go.RowKit Rg
set_option linter.unusedVariables false
set_option linter.unusedSimpArgs false
theorem results_parts {P : Program} {fn : Func} {t1 p t2 t3 : Tmp} {ty : TypeId} (h : fn.results = #[.tmp t1, .cell p ty, .tmp t2, .tmp t3]) (tmps : Array Value) (w : World) (g : Nat) (t0 : TypeId) (cs : Array Value) (fr : Nat × Nat) (d : TypeDesc)
    (hp : tmps.getD p undef = .pointer (some ⟨g, 0, none⟩)) (hg : w.heap[g]? = some (.cells cs t0 fr))
    (hu : P.underlying ty = some d) (hd : (match d with | .struct _ | .array _ _ => true | _ => false) = true) (hi : (P.info? ty).map (·.size) = some cs.size) (v1 v2 v3 : Value) (h1 : tmps.getD t1 undef = v1) (h2 : tmps.getD t2 undef = v2) (h3 : tmps.getD t3 undef = v3) :
    (results fn tmps).run P w = .ok (.tuple #[v1, .agg cs, v2, v3]) w := by
  subst h1 h2 h3
  have hp' : tmps[p]?.getD undef = .pointer (some ⟨g, 0, none⟩) := by simpa using hp
  simp [results, h, hp', asAddr, run_loadVar_row w g t0 ty cs fr d hg hu hd hi]
theorem infoP_plc : (Try.prog.info? 28).map (·.size) = some 3 := by kernel_rfl
theorem infoP_plc3 (a b c : Value) : (Try.prog.info? 28).map (·.size) = some (#[a, b, c] : Array Value).size := infoP_plc
theorem chk1 (e : EntS) : chkSum 0 [e] = if e.odd = true then 12 else 0 := by
  unfold chkSum
  rw [if_neg (by decide), if_neg (by simp)]
  simp
theorem oddB_f {g : GeS} {p : PlcS} {f : List Int} (h : oddB g p f = false) : g.chk = 0 ∧ 0 ≤ p.off ∧ p.off ≤ g.siz ∧ (0 ≤ p.seg ∧ p.seg < g.seg) ∧ (0 ≤ p.next ∧ p.next < g.seg) ∧ ∀ x ∈ f, 0 ≤ x ∧ x < g.seg := by
  unfold oddB at h
  simp only [Bool.or_eq_false_iff, Bool.not_eq_false', beq_iff_eq, decide_eq_false_iff_not] at h
  obtain ⟨⟨⟨⟨⟨h1, h2⟩, h3⟩, h4⟩, h5⟩, h6⟩ := h
  refine ⟨h1, by omega, by omega, outB_f.1 h2, outB_f.1 h3, fun x hx => ?_⟩
  exact outB_f.1 (by simpa using (List.any_eq_false.1 h6 x hx))
/-- What plan.Parts tells. -/
def PartsE (B : Nat) (g : GeS) (p : PlcS) (free : List Int) (l : List EntS) (e : Ending) (w' : World) : Prop :=
  (∃ E, e = .returned (.tuple #[.slice none 0 0, plv PlcS.zero, .slice none 0 0, .int .i64 E]) ∧ ((oddB g p free = true ∧ E = 4) ∨ (oddB g p free = false ∧ l.any EntS.odd = true ∧ E = 12) ∨ (oddB g p free = false ∧ l.any EntS.odd = false ∧ allL g l.length p free l = none ∧ E = 10))) ∨
  (oddB g p free = false ∧ l.any EntS.odd = false ∧ ∃ (ds : List PartD) (p' : PlcS) (f' : List Int) (vf vo : Value) (ps : List PartS), allL g l.length p free l = some (ds, p', f') ∧ e = .returned (.tuple #[vo, plv p', vf, .int .i64 0]) ∧ IRd w' vf f' ∧ w'.ownsRow B 37 6 vo ps.length (ps.flatMap PartS.cells) ∧ ps.map PartS.d = ds ∧ (∀ x ∈ ps, w'.ownsRow B 39 2 x.v x.es.length (x.es.flatMap EntS.cells)))
theorem cells3p {W : World} {g : Nat} {a b c : Value} {t : TypeId} {f : Nat × Nat} (h : W.heap[g]? = some (.cells #[a, b, c] t f)) : W.cell? ⟨g, 0, none⟩ = some a ∧ W.cell? ⟨g, 1, none⟩ = some b ∧ W.cell? ⟨g, 2, none⟩ = some c := by
  refine ⟨?_, ?_, ?_⟩ <;> (rw [cell_block h]; rfl)
theorem cells2p {W : World} {g : Nat} {a b : Value} {t : TypeId} {f : Nat × Nat} (h : W.heap[g]? = some (.cells #[a, b] t f)) : W.cell? ⟨g, 0, none⟩ = some a ∧ W.cell? ⟨g, 1, none⟩ = some b := by
  refine ⟨?_, ?_⟩ <;> (rw [cell_block h]; rfl)
set_option maxHeartbeats 8000000 in
set_option maxRecDepth 100000 in
theorem parts_ok (g : GeS) (p : PlcS) (vf : Value) (free : List Int) (vl : Value) (l : List EntS) (w : World) (hi : IRd w vf free) (hfl : free.length ≤ 17592186044416) (hv : ERd w vl l) (hl : l.length ≤ 100000000) :
    Calls Try.prog 16 #[gv g, plv p, vf, vl] w fun e w' => PartsE w.heap.size g p free l e w' ∧ Below w.heap.size w w' := by
  obtain ⟨wA, hwA⟩ : ∃ W, ((w.alloc (.cells #[.int .i64 g.seg, .int .i64 g.siz] 25)).alloc (.cells #[.int .i64 p.seg, .int .i64 p.off, .int .i64 p.next] 28)).alloc (.cells #[.int .i64 0, .int .i64 0, .int .i64 0] 28) = W := ⟨_, rfl⟩
  have s1 : (w.alloc (.cells #[.int .i64 g.seg, .int .i64 g.siz] 25)).heap.size = w.heap.size + 1 := by unfold World.alloc; simp
  have s2 : ((w.alloc (.cells #[.int .i64 g.seg, .int .i64 g.siz] 25)).alloc (.cells #[.int .i64 p.seg, .int .i64 p.off, .int .i64 p.next] 28)).heap.size = w.heap.size + 1 + 1 := by unfold World.alloc; simp
  have HG : Hid (wA.heap[w.heap.size]? = some (.cells #[.int .i64 g.seg, .int .i64 g.siz] 25 (0, 0))) := Lib.hid (by rw [← hwA]; exact alloc_old (alloc_old (alloc_at (w := w) _ rfl) _) _)
  have HP : Hid (wA.heap[w.heap.size + 1]? = some (.cells #[.int .i64 p.seg, .int .i64 p.off, .int .i64 p.next] 28 (0, 0))) := Lib.hid (by rw [← hwA]; exact alloc_old (alloc_at _ s1.symm) _)
  have HZ : Hid (wA.heap[w.heap.size + 1 + 1]? = some (.cells #[.int .i64 0, .int .i64 0, .int .i64 0] 28 (0, 0))) := Lib.hid (by rw [← hwA]; exact alloc_at _ s2.symm)
  have HSz : Hid (w.heap.size + 1 + 1 < wA.heap.size) := Lib.hid (by rw [← hwA]; unfold World.alloc; simp)
  have HA : Hid (Below w.heap.size w wA) := Lib.hid (by rw [← hwA]; exact below_alloc (below_alloc (below_alloc1 w _) _) _)
  have HI := Lib.hid hi
  have HV := Lib.hid hv
  obtain ⟨Al, cl, rfl, _, _⟩ := hv
  obtain ⟨Af, cf, rfl, _, _⟩ := hi
  clear s1 s2
  go_enter Try.func16, Try.ntmps16
  go_upto_region 1 with (fail)
  clear hwA
  have HQ : Hid (∀ W', Below wA.heap.size wA W' → (W'.cell? ⟨w.heap.size, 0, none⟩ = some (.int .i64 g.seg) ∧ W'.cell? ⟨w.heap.size, 1, none⟩ = some (.int .i64 g.siz)) ∧ (W'.cell? ⟨w.heap.size + 1, 0, none⟩ = some (.int .i64 p.seg) ∧ W'.cell? ⟨w.heap.size + 1, 1, none⟩ = some (.int .i64 p.off) ∧ W'.cell? ⟨w.heap.size + 1, 2, none⟩ = some (.int .i64 p.next))) := Lib.hid (fun W' hb => ⟨cells2p (block_up HG.out hb), cells3p (block_up HP.out hb)⟩)
  have HD := Lib.hid (below_drew1 (w := wA))
  refine beginS (S := fun W' => (W'.cell? ⟨w.heap.size, 0, none⟩ = some (.int .i64 g.seg) ∧ W'.cell? ⟨w.heap.size, 1, none⟩ = some (.int .i64 g.siz)) ∧ (W'.cell? ⟨w.heap.size + 1, 0, none⟩ = some (.int .i64 p.seg) ∧ W'.cell? ⟨w.heap.size + 1, 1, none⟩ = some (.int .i64 p.off) ∧ W'.cell? ⟨w.heap.size + 1, 2, none⟩ = some (.int .i64 p.next))) [] (by kernel_rfl) (HQ.out _ HD.out) (fun hHeld0 => ?_)
  generalize (World.drew wA) = W0 at *
  refine takeH (i := 0) (v := ?_) rfl (by kernel_rfl) (fun _ _ _ h => h) (Or.inl ⟨by kernel_rfl, ?_⟩) (by assumption) ?_; rotate_left; (focus (intro w hSw; (try dsimp only at hSw); go_simp; (try with_reducible rfl); done)); (try simp only [Act.put, List.getElem_toArray, List.getElem_cons_succ, List.getElem_cons_zero, List.setIfInBounds_toArray, List.set_cons_zero, List.set_cons_succ])
  refine takeH (i := 1) (v := ?_) rfl (by kernel_rfl) (fun _ _ _ h => h) (Or.inl ⟨by kernel_rfl, ?_⟩) (by assumption) ?_; rotate_left; (focus (intro w hSw; (try dsimp only at hSw); go_simp; (try with_reducible rfl); done)); (try simp only [Act.put, List.getElem_toArray, List.getElem_cons_succ, List.getElem_cons_zero, List.setIfInBounds_toArray, List.set_cons_zero, List.set_cons_succ])
  refine takeF (i := 2) (v := ?_) rfl (by kernel_rfl) (fun _ _ _ h => h) (Or.inl ⟨by kernel_rfl, ?_⟩) (by assumption) ?_; rotate_left; (focus (intro w _; go_simp; (try with_reducible rfl); done)); (try simp only [Act.put, List.getElem_toArray, List.getElem_cons_succ, List.getElem_cons_zero, List.setIfInBounds_toArray, List.set_cons_zero, List.set_cons_succ])
  clear hHeld0
  refine readyS (rs := [3]) (by kernel_rfl) (by simp) ?_
  refine ReadyS.consH rfl (fun K hK => ?_) ReadyS.nil
  (try simp only [List.getElem_toArray, List.getElem_cons_succ, List.getElem_cons_zero])
  go_simp
  (with_reducible refine (iclone_ok _ free W0 (HI.out.below (below_up HA.out HD.out)) hfl).mono ?_); rintro e W1 ⟨v1, rfl, hi1, hg1, hb1⟩
  have HI1 := Lib.hid hi1
  have hW0 : w.heap.size + 1 + 1 < W0.heap.size := by have h1 := HD.out.size; have h2 := HSz.out; omega
  have HG1 := Lib.hid hg1
  clear hg1
  obtain ⟨Ac, cc, rfl, _, _⟩ := id hi1
  have HD1 := Lib.hid (below_up HD.out hb1)
  clear hi1 hb1
  refine hK.out _ _ (HQ.out _ HD1.out) (fun hHeld => ?_)
  clear hK K
  (try simp only [Act.put, List.getElem_toArray, List.getElem_cons_succ, List.getElem_cons_zero, List.setIfInBounds_toArray, List.set_cons_zero, List.set_cons_succ])
  refine takeF (i := 4) (v := ?_) rfl (by kernel_rfl) (fun _ _ _ h => h) (Or.inl ⟨by kernel_rfl, ?_⟩) (by assumption) ?_; rotate_left; (focus (intro w _; go_simp; (try with_reducible rfl); done)); (try simp only [Act.put, List.getElem_toArray, List.getElem_cons_succ, List.getElem_cons_zero, List.setIfInBounds_toArray, List.set_cons_zero, List.set_cons_succ])
  clear hHeld
  refine readyS (rs := [5]) (by kernel_rfl) (by simp) ?_
  refine ReadyS.consH rfl (fun K hK => ?_) ReadyS.nil
  (try simp only [List.getElem_toArray, List.getElem_cons_succ, List.getElem_cons_zero])
  go_simp
  have hbx := below_alloc1 W1 (.cells (pcs g p (.slice Ac free.length cc)) 122)
  have HX2 := Lib.hid (alloc_at (w := W1) (.cells (pcs g p (.slice Ac free.length cc)) 122) rfl)
  have HD2 := Lib.hid (below_up HD1.out hbx)
  have HW1 := Lib.hid hbx
  clear hbx
  refine hK.out _ _ (HQ.out _ HD2.out) (fun hHeld => ?_)
  clear hK K
  (try simp only [Act.put, List.getElem_toArray, List.getElem_cons_succ, List.getElem_cons_zero, List.setIfInBounds_toArray, List.set_cons_zero, List.set_cons_succ])
  refine takeF (i := 6) (v := ?_) rfl (by kernel_rfl) (fun _ _ _ h => h) (Or.inl ⟨by kernel_rfl, ?_⟩) (by assumption) ?_; rotate_left; (focus (intro w _; go_simp; (try with_reducible rfl); done)); (try simp only [Act.put, List.getElem_toArray, List.getElem_cons_succ, List.getElem_cons_zero, List.setIfInBounds_toArray, List.set_cons_zero, List.set_cons_succ])
  clear hHeld
  refine doneS (by kernel_rfl) ?_ _
  generalize hqe : W1.heap.size = q at *
  generalize World.alloc W1 _ = W2 at *
  have hqw : w.heap.size + 1 + 1 < q := by have h1 := HD1.out.size; have h2 := HSz.out; omega
  have HZ2 := Lib.hid (block_up HZ.out HD2.out)
  have HA1 := Lib.hid (below_up HA.out HD1.out)
  have HA2 := Lib.hid (below_up HA.out HD2.out)
  have HV1 := Lib.hid (HV.out.below HA1.out)
  clear HD HD1 HD2 HQ HG HP HZ HA
  have HOd := Lib.hid (podd_ok HX2.out (HI1.out.below (hqe.symm ▸ HW1.out)) (by omega))
  go_wp2_with fail
  (with_reducible refine HOd.out.mono ?_); rintro e W3 ⟨rfl, hb3⟩
  have HX3 := Lib.hid (block_up HX2.out hb3)
  have HZ3 := Lib.hid (block_up HZ2.out hb3)
  have HA3 := Lib.hid (below_up HA2.out hb3)
  have HW3 : Hid (Below W1.heap.size W1 W3) := Lib.hid (below_up (hqe.symm ▸ HW1.out) hb3)
  clear hb3 HX2 HZ2 HA2 HW1 HOd
  by_cases hOB : oddB g p free = true
  · rw [hOB]
    have HOB := Lib.hid hOB
    clear hOB
    obtain ⟨z0, z1, z2⟩ := cells3p HZ3.out
    have f0 := free_block HZ3.out 0
    have f1 := free_block HZ3.out 1
    have f2 := free_block HZ3.out 2
    go_wp2
    have hg8 := blk_set (blk_set (blk_set HZ3.out 0 (.int .i64 0)) 1 (.int .i64 0)) 2 (.int .i64 0)
    have hgt : ∀ j, (⟨w.heap.size + 1 + 1, j, none⟩ : Addr).block < w.heap.size → w.heap.size ≤ (⟨w.heap.size + 1 + 1, j, none⟩ : Addr).block := fun j _ => by show w.heap.size ≤ w.heap.size + 1 + 1; omega
    have hf8 := (((Fr.of_below (S := fun k => w.heap.size ≤ k) HA3.out).set (p := ⟨w.heap.size + 1 + 1, 0, none⟩) (hgt 0) (.int .i64 0)).set (p := ⟨w.heap.size + 1 + 1, 1, none⟩) (hgt 1) (.int .i64 0)).set (p := ⟨w.heap.size + 1 + 1, 2, none⟩) (hgt 2) (.int .i64 0)
    refine bodyPost_ret (v := .tuple #[.slice none 0 0, plv PlcS.zero, .slice none 0 0, .int .i64 4]) (results_parts (p := 9) (t1 := 8) (t2 := 10) (t3 := 11) rfl _ _ (w.heap.size + 1 + 1) _ _ (0, 0) _ rfl hg8 Try.underlying28 rfl infoP_plc _ _ _ rfl rfl rfl) rfl ⟨.inl ⟨4, rfl, .inl ⟨HOB.out, rfl⟩⟩, ?_⟩
    exact hf8.toBelow (fun _ h => h) (Nat.le_refl _)
  replace hOB : oddB g p free = false := by cases hh : oddB g p free; rfl; exact absurd hh hOB
  rw [hOB]
  have HOB := Lib.hid hOB
  clear hOB
  obtain ⟨hck, o1, o2, _⟩ := oddB_f HOB.out
  obtain ⟨_, _, o4, o3⟩ := GeS.chk_zero hck
  clear hck
  go_wp2_with fail
  go_loopw [28] (fun vi W' => ∃ k : Nat, vi = .int .i64 k ∧ k ≤ l.length ∧ (l.take k).any EntS.odd = false ∧ Below W3.heap.size W3 W') (fun vi _ => l.length - (intOf vi).toNat)
  case atStart => exact ⟨0, rfl, Nat.zero_le _, by simp, Below.refl _ _⟩
  case round =>
  obtain ⟨k, rfl, hk, hany, hB⟩ := hrel
  have HAny := Lib.hid hany
  have HX4 := Lib.hid (block_up HX3.out hB)
  have HZ4 := Lib.hid (block_up HZ3.out hB)
  have HA4 := Lib.hid (below_up HA3.out hB)
  have HW4 := Lib.hid (below_up HW3.out hB)
  have HBk := Lib.hid hB
  clear hany hB
  by_cases hkl : k < l.length
  · have d : decide ((k : Int) < l.length) = true := decide_eq_true (by omega)
    have dn : decide (k < l.length) = true := decide_eq_true hkl
    have bk : (k : Int) < l.length := by omega
    obtain ⟨gl, ol, rfl, _, hc⟩ := (HV.out.below HA4.out).get EntS.cells_len (by decide) hkl
    have c0 := hc 0 (by decide)
    have c1 := hc 1 (by decide)
    have hs := any_take_succ EntS.odd l k hkl
    rw [HAny.out, Bool.false_or] at hs
    have hmem : l[k] ∈ l := List.getElem_mem hkl
    clear hc
    generalize l[k] = x at *
    simp only [Nat.add_zero, EntS.cells, List.getElem?_cons_zero, List.getElem?_cons_succ] at c0 c1
    have HS := Lib.hid (And.intro hs hmem)
    clear hs hmem
    have hba := below_alloc1 wr (.cells #[.int .i64 x.kind, .int .i64 x.id] 39)
    have HB5 := Lib.hid (below_up HBk.out hba)
    have HZ5 := Lib.hid (block_up HZ4.out hba)
    have HA5 := Lib.hid (below_up HA4.out hba)
    have HE5 := Lib.hid (alloc_at (w := wr) (.cells #[.int .i64 x.kind, .int .i64 x.id] 39) rfl)
    clear hba
    go_upto_region 7 with (fail)
    clear c0 c1
    generalize wr.heap.size = ge at *
    generalize World.alloc wr _ = wb at *
    obtain ⟨e0, e1⟩ := cells2p HE5.out
    have hck := check_ok 0 false (.slice (some ⟨wb.heap.size, 0, none⟩) 1 1) [x] (wb.alloc (.cells #[.int .i64 x.kind, .int .i64 x.id] 39)) (srd_own EntS.cells_len (by decide) (own_new wb wb.heap.size 39 2 1 #[.int .i64 x.kind, .int .i64 x.id] (Nat.le_refl _) (by decide) rfl)) (by simp)
    rw [chk1] at hck
    obtain ⟨b, hb⟩ : ∃ b, x.odd = b := ⟨_, rfl⟩
    rw [hb] at hck
    have HCk := Lib.hid hck
    have HOx := Lib.hid hb
    have hbc := below_alloc1 wb (.cells #[.int .i64 x.kind, .int .i64 x.id] 39)
    have HB6 := Lib.hid (below_up HB5.out hbc)
    have HZ6 := Lib.hid (block_up HZ5.out hbc)
    have HA6 := Lib.hid (below_up HA5.out hbc)
    clear hck hb hbc
    cases b
    · simp only [Bool.false_eq_true, if_false] at HCk
      go_wp2_with fail
      (with_reducible refine HCk.out.mono ?_); rintro e w7 ⟨rfl, hb7⟩
      have HB7 := Lib.hid (below_up HB6.out hb7)
      clear hb7
      go_wp2
      exact ⟨⟨k + 1, by go_num, by omega, by rw [HS.out.1]; exact HOx.out, HB7.out⟩, by simp [intOf]; omega⟩
    · simp only [if_true] at HCk
      go_wp2_with fail
      (with_reducible refine HCk.out.mono ?_); rintro e w7 ⟨rfl, hb7⟩
      have HZ7 := Lib.hid (block_up HZ6.out hb7)
      have HA7 := Lib.hid (below_up HA6.out hb7)
      clear hb7
      have HAn : Hid (l.any EntS.odd = true) := Lib.hid (List.any_eq_true.2 ⟨x, HS.out.2, HOx.out⟩)
      obtain ⟨z0, z1, z2⟩ := cells3p HZ7.out
      have f0 := free_block HZ7.out 0
      have f1 := free_block HZ7.out 1
      have f2 := free_block HZ7.out 2
      go_wp2
      have hg8 := blk_set (blk_set (blk_set HZ7.out 0 (.int .i64 0)) 1 (.int .i64 0)) 2 (.int .i64 0)
      have hgt : ∀ j, (⟨w.heap.size + 1 + 1, j, none⟩ : Addr).block < w.heap.size → w.heap.size ≤ (⟨w.heap.size + 1 + 1, j, none⟩ : Addr).block := fun j _ => by show w.heap.size ≤ w.heap.size + 1 + 1; omega
      have hf8 := (((Fr.of_below (S := fun k => w.heap.size ≤ k) HA7.out).set (p := ⟨w.heap.size + 1 + 1, 0, none⟩) (hgt 0) (.int .i64 0)).set (p := ⟨w.heap.size + 1 + 1, 1, none⟩) (hgt 1) (.int .i64 0)).set (p := ⟨w.heap.size + 1 + 1, 2, none⟩) (hgt 2) (.int .i64 0)
      refine bodyPost_ret (v := .tuple #[.slice none 0 0, plv PlcS.zero, .slice none 0 0, .int .i64 12]) (results_parts (p := 9) (t1 := 8) (t2 := 10) (t3 := 11) rfl _ _ (w.heap.size + 1 + 1) _ _ (0, 0) _ rfl hg8 Try.underlying28 rfl infoP_plc _ _ _ rfl rfl rfl) rfl ⟨.inl ⟨12, rfl, .inr (.inl ⟨HOB.out, HAn.out, rfl⟩)⟩, ?_⟩
      exact hf8.toBelow (fun _ h => h) (Nat.le_refl _)
  · obtain rfl : k = l.length := by omega
    have d : decide ((l.length : Int) < l.length) = false := decide_eq_false (by omega)
    have dn : decide (l.length < l.length) = false := decide_eq_false (by omega)
    have hany := HAny.out
    rw [List.take_length] at hany
    have HAn := Lib.hid hany
    clear hany
    have HAll := Lib.hid (all_ok HX4.out HI1.out HW4.out (Nat.le_of_eq hqe) o1 o2 o3 o4 hfl (.slice Al l.length cl) l HV1.out hl)
    go_wp2_with fail
    (with_reducible refine HAll.out.mono ?_); rintro e w7 ⟨hE, hF⟩
    have hne : w.heap.size + 1 + 1 ≠ q := by omega
    have HZ7 := Lib.hid (blk_fr HZ4.out hF hne)
    have HA7 : Hid (Below w.heap.size w w7) := Lib.hid (((Fr.of_below (S := fun k => k = q) HA4.out).trans hF (fun _ _ h => h)).toBelow (fun k h => by subst h; omega) (Nat.le_refl _))
    have HW7 : Hid (Below W1.heap.size W1 w7) := Lib.hid (((Fr.of_below (S := fun k => k = q) HW4.out).trans hF (fun _ _ h => h)).toBelow (fun k h => by subst h; exact Nat.le_of_eq hqe) (Nat.le_refl _))
    have hsz := HA4.out.size
    clear hF
    rcases hE with ⟨ds, p', f', v', vo, ps, hR, rfl, hX, ⟨hi2, hge⟩, hO, hds, hEs⟩ | ⟨hR, rfl⟩
    · have HX7 := Lib.hid hX; have HO7 := Lib.hid hO; have HEs := Lib.hid hEs; have HI7 := Lib.hid hi2; have HR := Lib.hid (And.intro hR hds)
      have HGe := Lib.hid (hge _ HG1.out)
      clear hge
      obtain ⟨A', c', rfl, _, _⟩ := id hi2
      obtain ⟨Ao, co, rfl, _⟩ := own_rd hO
      obtain ⟨n', hn'⟩ : ∃ n, f'.length = n := ⟨_, rfl⟩
      rw [hn'] at HI7 HX7
      clear hX hO hEs hi2 hR hds
      go_upto_region 13 with (fail)
      have HQ2 : Hid (∀ W', Fr (fun k => k = w.heap.size + 1 + 1) w7.drew W' → (W'.cell? ⟨q, 0, none⟩ = some (.int .i64 g.seg) ∧ W'.cell? ⟨q, 1, none⟩ = some (.int .i64 g.siz) ∧ W'.cell? ⟨q, 2, none⟩ = some (.int .i64 p'.seg) ∧ W'.cell? ⟨q, 3, none⟩ = some (.int .i64 p'.off) ∧ W'.cell? ⟨q, 4, none⟩ = some (.int .i64 p'.next) ∧ W'.cell? ⟨q, 5, none⟩ = some (.slice A' n' c'))) := Lib.hid (fun W' hf => pl_all (blk_fr (block_up HX7.out below_drew1) hf (fun e => hne e.symm)))
      have HD := Lib.hid (below_drew1 (w := w7))
      have HZ8 := Lib.hid (block_up HZ7.out HD.out)
      have HFr8 := Lib.hid (Fr.of_below (S := fun k => k = w.heap.size + 1 + 1) HD.out)
      refine beginS (S := fun W' => (W'.cell? ⟨q, 0, none⟩ = some (.int .i64 g.seg) ∧ W'.cell? ⟨q, 1, none⟩ = some (.int .i64 g.siz) ∧ W'.cell? ⟨q, 2, none⟩ = some (.int .i64 p'.seg) ∧ W'.cell? ⟨q, 3, none⟩ = some (.int .i64 p'.off) ∧ W'.cell? ⟨q, 4, none⟩ = some (.int .i64 p'.next) ∧ W'.cell? ⟨q, 5, none⟩ = some (.slice A' n' c'))) [] (by kernel_rfl) (HQ2.out _ (Fr.refl _ _)) (fun hHeld0 => ?_)
      generalize (World.drew w7) = W8 at *
      refine takeF (i := 0) (v := ?_) rfl (by kernel_rfl) (fun _ _ _ h => h) (Or.inl ⟨by kernel_rfl, ?_⟩) (by assumption) ?_; rotate_left; (focus (intro w _; go_simp; (try with_reducible rfl); done)); (try simp only [Act.put, List.getElem_toArray, List.getElem_cons_succ, List.getElem_cons_zero, List.setIfInBounds_toArray, List.set_cons_zero, List.set_cons_succ])
      refine takeF (i := 1) (v := ?_) rfl (by kernel_rfl) (fun _ _ _ h => h) (Or.inl ⟨by kernel_rfl, ?_⟩) (by assumption) ?_; rotate_left; (focus (intro w _; go_simp; (try with_reducible rfl); done)); (try simp only [Act.put, List.getElem_toArray, List.getElem_cons_succ, List.getElem_cons_zero, List.setIfInBounds_toArray, List.set_cons_zero, List.set_cons_succ])
      refine takeF (i := 2) (v := ?_) rfl (by kernel_rfl) (fun _ _ _ h => h) (Or.inl ⟨by kernel_rfl, ?_⟩) (by assumption) ?_; rotate_left; (focus (intro w _; go_simp; (try with_reducible rfl); done)); (try simp only [Act.put, List.getElem_toArray, List.getElem_cons_succ, List.getElem_cons_zero, List.setIfInBounds_toArray, List.set_cons_zero, List.set_cons_succ])
      refine takeF (i := 3) (v := ?_) rfl (by kernel_rfl) (fun _ _ _ h => h) (Or.inl ⟨by kernel_rfl, ?_⟩) (by assumption) ?_; rotate_left; (focus (intro w _; go_simp; (try with_reducible rfl); done)); (try simp only [Act.put, List.getElem_toArray, List.getElem_cons_succ, List.getElem_cons_zero, List.setIfInBounds_toArray, List.set_cons_zero, List.set_cons_succ])
      refine takeH (i := 4) (v := ?_) rfl (by kernel_rfl) (fun _ _ _ h => h) (Or.inl ⟨by kernel_rfl, ?_⟩) (by assumption) ?_; rotate_left; (focus (intro w hSw; (try dsimp only at hSw); go_simp; (try with_reducible rfl); done)); (try simp only [Act.put, List.getElem_toArray, List.getElem_cons_succ, List.getElem_cons_zero, List.setIfInBounds_toArray, List.set_cons_zero, List.set_cons_succ])
      refine takeF (i := 5) (v := ?_) rfl (by kernel_rfl) (fun _ _ _ h => h) (Or.inl ⟨by kernel_rfl, ?_⟩) (by assumption) ?_; rotate_left; (focus (intro w _; go_simp; (try with_reducible rfl); done)); (try simp only [Act.put, List.getElem_toArray, List.getElem_cons_succ, List.getElem_cons_zero, List.setIfInBounds_toArray, List.set_cons_zero, List.set_cons_succ])
      refine takeF (i := 6) (v := ?_) rfl (by kernel_rfl) (fun _ _ _ h => h) (Or.inl ⟨by kernel_rfl, ?_⟩) (by assumption) ?_; rotate_left; (focus (intro w _; go_simp; (try with_reducible rfl); done)); (try simp only [Act.put, List.getElem_toArray, List.getElem_cons_succ, List.getElem_cons_zero, List.setIfInBounds_toArray, List.set_cons_zero, List.set_cons_succ])
      refine takeF (i := 7) (v := ?_) rfl (by kernel_rfl) (fun _ _ _ h => h) (Or.inl ⟨by kernel_rfl, ?_⟩) (by assumption) ?_; rotate_left; (focus (intro w _; go_simp; (try with_reducible rfl); done)); (try simp only [Act.put, List.getElem_toArray, List.getElem_cons_succ, List.getElem_cons_zero, List.setIfInBounds_toArray, List.set_cons_zero, List.set_cons_succ])
      refine takeH (i := 8) (v := ?_) rfl (by kernel_rfl) (fun _ _ _ h => h) (Or.inl ⟨by kernel_rfl, ?_⟩) (by assumption) ?_; rotate_left; (focus (intro w hSw; (try dsimp only at hSw); go_simp; (try with_reducible rfl); done)); (try simp only [Act.put, List.getElem_toArray, List.getElem_cons_succ, List.getElem_cons_zero, List.setIfInBounds_toArray, List.set_cons_zero, List.set_cons_succ])
      refine takeF (i := 9) (v := ?_) rfl (by kernel_rfl) (fun _ _ _ h => h) (Or.inl ⟨by kernel_rfl, ?_⟩) (by assumption) ?_; rotate_left; (focus (intro w _; go_simp; (try with_reducible rfl); done)); (try simp only [Act.put, List.getElem_toArray, List.getElem_cons_succ, List.getElem_cons_zero, List.setIfInBounds_toArray, List.set_cons_zero, List.set_cons_succ])
      clear hHeld0
      obtain ⟨z0, z1, z2⟩ := cells3p HZ8.out
      have f0 := free_block HZ8.out 0
      have f1 := free_block HZ8.out 1
      have f2 := free_block HZ8.out 2
      refine readyS (rs := [10]) (by kernel_rfl) (by simp) ?_
      refine ReadyS.consH rfl (fun K hK => ?_) ReadyS.nil
      (try simp only [List.getElem_toArray, List.getElem_cons_succ, List.getElem_cons_zero])
      go_simp
      have HZ9 := Lib.hid (blk_set (blk_set (blk_set HZ8.out 0 (.int .i64 p'.seg)) 1 (.int .i64 p'.off)) 2 (.int .i64 p'.next))
      have HF9 := Lib.hid ((((Fr.refl (fun k => k = w.heap.size + 1 + 1) W8).set (p := ⟨w.heap.size + 1 + 1, 0, none⟩) (fun _ => rfl) (.int .i64 p'.seg)).set (p := ⟨w.heap.size + 1 + 1, 1, none⟩) (fun _ => rfl) (.int .i64 p'.off)).set (p := ⟨w.heap.size + 1 + 1, 2, none⟩) (fun _ => rfl) (.int .i64 p'.next))
      refine hK.out _ _ (HQ2.out _ HF9.out) (fun hHeld => ?_)
      clear hK K
      (try simp only [Act.put, List.getElem_toArray, List.getElem_cons_succ, List.getElem_cons_zero, List.setIfInBounds_toArray, List.set_cons_zero, List.set_cons_succ])
      clear z0 z1 z2 f0 f1 f2
      generalize (((W8.setCell _ _).setCell _ _).setCell _ _) = W9 at *
      refine takeF (i := 11) (v := ?_) rfl (by kernel_rfl) (fun _ _ _ h => h) (Or.inl ⟨by kernel_rfl, ?_⟩) (by assumption) ?_; rotate_left; (focus (intro w _; go_simp; (try with_reducible rfl); done)); (try simp only [Act.put, List.getElem_toArray, List.getElem_cons_succ, List.getElem_cons_zero, List.setIfInBounds_toArray, List.set_cons_zero, List.set_cons_succ])
      refine takeF (i := 12) (v := ?_) rfl (by kernel_rfl) (fun _ _ _ h => h) (Or.inl ⟨by kernel_rfl, ?_⟩) (by assumption) ?_; rotate_left; (focus (intro w _; go_simp; (try with_reducible rfl); done)); (try simp only [Act.put, List.getElem_toArray, List.getElem_cons_succ, List.getElem_cons_zero, List.setIfInBounds_toArray, List.set_cons_zero, List.set_cons_succ])
      clear hHeld
      refine doneS (by kernel_rfl) ?_ _
      have hFr := HFr8.out.trans HF9.out (fun _ _ h => h)
      have HO9 := own_fr HO7.out hFr (fun k hk e => own_ne_block HO7.out HZ7.out (by decide) (by rw [hk, e]))
      have HE9 := fun x hx => own_fr (HEs.out x hx) hFr (fun k hk e => own_ne_block (HEs.out x hx) HZ7.out (by decide) (by rw [hk, e]))
      have HI9 : IRd W9 (.slice A' n' c') f' := by
        obtain ⟨A2, c2, e2, h2, h3⟩ := HI7.out.below HW7.out
        refine ⟨A2, c2, e2, h2, h3.fr hFr (fun ad he e => ?_)⟩
        have h5 := HGe.out ad f'.length c2 (by rw [← he]; have := e2; rw [hn']; rw [hn'] at this; exact this)
        omega
      have HO10 := Lib.hid HO9; have HE10 := Lib.hid HE9; have HI10 := Lib.hid HI9
      have HB10 : Hid (Below w.heap.size w W9) := Lib.hid (((Fr.of_below (S := fun k => w.heap.size ≤ k) HA7.out).trans hFr (fun k _ e => by subst e; omega)).toBelow (fun _ h => h) (Nat.le_refl _))
      clear HO9 HE9 HI9 hFr
      go_wp2
      refine bodyPost_ret (v := .tuple #[.slice Ao ps.length co, plv p', .slice A' n' c', .int .i64 0]) (results_parts (p := 9) (t1 := 8) (t2 := 10) (t3 := 11) rfl _ _ (w.heap.size + 1 + 1) _ _ (0, 0) _ rfl HZ9.out Try.underlying28 rfl infoP_plc _ _ _ rfl rfl rfl) rfl ⟨.inr ⟨HOB.out, HAn.out, ds, p', f', _, _, ps, HR.out.1, rfl, HI10.out, ?_, HR.out.2, fun x hx => own_lower (HE10.out x hx) hsz⟩, HB10.out⟩
      exact own_lower HO10.out hsz
    · have HR := Lib.hid hR
      clear hR
      obtain ⟨z0, z1, z2⟩ := cells3p HZ7.out
      have f0 := free_block HZ7.out 0
      have f1 := free_block HZ7.out 1
      have f2 := free_block HZ7.out 2
      go_wp2
      have hg8 := blk_set (blk_set (blk_set HZ7.out 0 (.int .i64 0)) 1 (.int .i64 0)) 2 (.int .i64 0)
      have hgt : ∀ j, (⟨w.heap.size + 1 + 1, j, none⟩ : Addr).block < w.heap.size → w.heap.size ≤ (⟨w.heap.size + 1 + 1, j, none⟩ : Addr).block := fun j _ => by show w.heap.size ≤ w.heap.size + 1 + 1; omega
      have hf8 := (((Fr.of_below (S := fun k => w.heap.size ≤ k) HA7.out).set (p := ⟨w.heap.size + 1 + 1, 0, none⟩) (hgt 0) (.int .i64 0)).set (p := ⟨w.heap.size + 1 + 1, 1, none⟩) (hgt 1) (.int .i64 0)).set (p := ⟨w.heap.size + 1 + 1, 2, none⟩) (hgt 2) (.int .i64 0)
      refine bodyPost_ret (v := .tuple #[.slice none 0 0, plv PlcS.zero, .slice none 0 0, .int .i64 10]) (results_parts (p := 9) (t1 := 8) (t2 := 10) (t3 := 11) rfl _ _ (w.heap.size + 1 + 1) _ _ (0, 0) _ rfl hg8 Try.underlying28 rfl infoP_plc _ _ _ rfl rfl rfl) rfl ⟨.inl ⟨10, rfl, .inr (.inr ⟨HOB.out, HAn.out, HR.out, rfl⟩)⟩, ?_⟩
      exact hf8.toBelow (fun _ h => h) (Nat.le_refl _)
end Go.Proofs.Ythpnlgdcijmocaa.Pl
