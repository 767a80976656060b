/- The walk over nmap.Apply. -/
import Derived.Test.YtjikndfpkhgnkaaNmap6
namespace Go.Proofs.Ytjikndfpkhgnkaa.Nm
open Go.RowKit
set_option linter.unusedVariables false
set_option linter.unusedSimpArgs false

theorem ird_empty (w : World) (A : Option Addr) (c : Nat) : IRd w (.slice A 0 c) [] := ⟨A, c, rfl, Nat.zero_le _, Rd.nil _ _⟩
theorem apStep_odd {s : ApS} {e : EntS} (h : e.odd = true) : apStep s e = none := by unfold apStep; rw [if_pos h]
theorem apStep_none {g : Nat → Int} {e : EntS} (h : e.odd = false) (h1 : e.kind = 1) : apStep (g, []) e = none := by unfold apStep; rw [if_neg (by simp [h]), if_pos h1]
theorem apStep_kept {g : Nat → Int} {e : EntS} {x : Int} {r : List Int} (h : e.odd = false) (h1 : e.kind = 1) : apStep (g, x :: r) e = some (upd g e.id x, r) := by unfold apStep; rw [if_neg (by simp [h]), if_pos h1]
theorem apStep_gone {g : Nat → Int} {e : EntS} {a : List Int} (h : e.odd = false) (h1 : ¬ e.kind = 1) : apStep (g, a) e = some (upd g e.id 0, a) := by unfold apStep; rw [if_neg (by simp [h]), if_neg h1]
theorem srd_single (w : World) (x : EntS) (t : TypeId) : ERd (w.alloc (.cells #[.int .i64 x.kind, .int .i64 x.id] t)) (.slice (some ⟨w.heap.size, 0, none⟩) 1 1) [x] :=
  ⟨_, 1, rfl, Nat.le_refl _, rd_one w x t _ rfl⟩
theorem cells2' {W : World} {g : Nat} {a b : Value} {t : TypeId} {f : Nat × Nat} (h : W.heap[g]? = some (.cells #[a, b] t f)) : W.cell? ⟨g, 0, none⟩ = some a ∧ W.cell? ⟨g, 1, none⟩ = some b := by
  rw [cell_block h, cell_block h]; exact ⟨rfl, rfl⟩
theorem PS.back {w w3 : World} {Lf LZ : List Value} {W W' : World} {g : Nat → Int} (h : PS w w3 Lf LZ W g) (hF : Fr (fun k => k = w.heap.size + 1) W W') : Below w.heap.size w W' :=
  h.2.2.2.trans (hF.toBelow (fun k hk => by omega) h.2.2.2.size)
set_option maxHeartbeats 8000000 in
set_option maxRecDepth 100000 in
theorem apply_ok (f : Nat → Int) (v1 v2 : Value) (l : List EntS) (a : List Int) (w : World) (h1 : ERd w v1 l) (h2 : IRd w v2 a) (hl : l.length ≤ 140737488355328) (ha : a.length ≤ 140737488355328) (hfine : ∀ e ∈ l, e.fine) :
    Calls Try.prog 40 #[.agg (lsI 256 f).toArray, v1, v2] w fun e w' => e = .returned (.tuple #[.agg (lsI 256 (apF f l a)).toArray, .bool (apB f l a)]) ∧ Below w.heap.size w w' := by
  have H := Lib.hid (And.intro h1 (And.intro h2 hfine)); clear hfine
  obtain ⟨A1, c1, rfl, _, _⟩ := h1
  obtain ⟨A2, c2, rfl, _, _⟩ := h2
  have hz := zeroW
  obtain ⟨rf, hrf⟩ : ∃ rf, apF f l a = rf := ⟨_, rfl⟩
  obtain ⟨rb, hrb⟩ : ∃ rb, apB f l a = rb := ⟨_, rfl⟩
  rw [hrf, hrb]
  have HR := Lib.hid (And.intro hrf hrb); clear hrf hrb
  go_enter Try.func40, Try.ntmps40
  go_wp2_with (first
    | (with_reducible refine wpList_load_row rfl 22 _ rfl w.heap.size rfl 22 (lsI 256 f).toArray (0, 0) _ (alloc_old (alloc_at _ rfl) _) Try.underlying22 rfl (inf f) ?_)
    | (with_reducible refine wpList_store_rowF rfl 22 _ _ rfl (w.heap.size + 2) (lsI 256 f).toArray rfl rfl 22 (lsI 256 fun _ => 0).toArray (alloc_at _ (by simp)) (inf f) (by rw [lsI_size, lsI_size]) (lsI_all _ _) ?_
       intro W1 hn hF))
  have hps : PS w w (lsI 256 f) (lsI 256 fun _ => 0) W1 f :=
    ⟨blk_fr (alloc_old (alloc_old (alloc_at (w := w) _ rfl) _) _) hF (by omega), blk_fr (alloc_old (alloc_at (w := w.alloc _) (n := w.heap.size + 1) _ (by simp)) _) hF (by omega), hn,
     (below_alloc (below_alloc (below_alloc1 w _) _) _).trans (hF.toBelow (fun k hk => by omega) (by simp; omega))⟩
  have HP := Lib.hid hps; clear hps hn hF hz
  go_loopw [2, 15] (fun va vi W => ∃ (k : Nat) (g : Nat → Int) (rest : List Int), k ≤ l.length ∧ vi = .int .i64 k ∧ IRd w va rest ∧ rest.length ≤ 140737488355328 ∧ apAll (f, a) (l.take k) = some (g, rest) ∧ PS w w (lsI 256 f) (lsI 256 fun _ => 0) W g) (fun _ vi _ => l.length - (intOf vi).toNat)
  case atStart => exact ⟨0, f, a, by omega, rfl, H.out.2.1, ha, rfl, HP.out⟩
  obtain ⟨k, g, rest, hk, rfl, hat, hrl, hap, hps⟩ := hrel
  have hz := zeroW
  by_cases hlt : k < l.length
  · have d : decide ((k : Int) < l.length) = true := decide_eq_true (by omega)
    obtain ⟨g1, o1, rfl, _, k1⟩ := H.out.1.get EntS.cells_len (by decide) hlt
    have a0 := cell_up (k1 0 (by decide)) hps.2.2.2
    have a1 := cell_up (k1 1 (by decide)) hps.2.2.2
    have hs := apAll_succ (f, a) l k hlt
    rw [hap] at hs
    have hs : apAll (f, a) (l.take (k + 1)) = apStep (g, rest) l[k] := hs
    have hnone := fun h => apAll_none (f, a) l k hlt hap h
    have hfx := H.out.2.2 _ (List.getElem_mem hlt)
    clear k1
    generalize l[k] = x at *
    simp only [Nat.add_zero, EntS.cells] at a0 a1
    have hpa := hps.up (below_alloc1 wr (.cells #[.int .i64 x.kind, .int .i64 x.id] 71))
    have hpb := hpa.up (below_alloc1 _ (.cells #[.int .i64 x.kind, .int .i64 x.id] 71))
    have hxb := alloc_old (alloc_at (w := wr) (.cells #[.int .i64 x.kind, .int .i64 x.id] 71) rfl) (.cells #[.int .i64 x.kind, .int .i64 x.id] 71)
    have hch := check_ok 0 false (.slice (some ⟨wr.heap.size + 1, 0, none⟩) 1 1) [x] ((wr.alloc (.cells #[.int .i64 x.kind, .int .i64 x.id] 71)).alloc (.cells #[.int .i64 x.kind, .int .i64 x.id] 71)) (by have := srd_single (wr.alloc (.cells #[.int .i64 x.kind, .int .i64 x.id] 71)) x 71; simpa using this) (by simp)
    rw [chk1] at hch
    obtain ⟨At, ct, rfl, hac, _⟩ := id hat
    cases hodd : x.odd with
    | true =>
      rw [hodd] at hch
      simp only [if_true] at hch
      have hno := ap_none (hnone (apStep_odd hodd))
      have HX := Lib.hid (And.intro hno (And.intro hpb hch)); clear hno hpa hpb hxb hch hs hnone hap hps hat hodd hfx
      go_wp2_with (first
        | (go_at_call 58; refine HX.out.2.2.mono ?_; rintro e w5 ⟨rfl, hb⟩; have h5 := HX.out.2.1.up hb; unfold PS at h5; have H5 := Lib.hid h5; clear hb h5)
        | (with_reducible refine wpList_load_row rfl 22 _ rfl w.heap.size rfl 22 (lsI 256 f).toArray (0, 0) _ H5.out.1 Try.underlying22 rfl (inf f) ?_)
        | (with_reducible refine wpList_store_rowF rfl 22 _ _ rfl (w.heap.size + 1) (lsI 256 f).toArray rfl rfl 22 (lsI 256 fun _ => 0).toArray H5.out.2.1 (inf f) (by rw [lsI_size, lsI_size]) (lsI_all _ _) ?_
           intro W9 hn9 hF9
           have HF := Lib.hid (And.intro hn9 (PS.back (w3 := w) H5.out hF9)); clear hn9 hF9))
      refine bodyPost_ret (v := .tuple #[.agg (lsI 256 f).toArray, .bool false]) (results_cell_tmp (p := 6) (t := 7) rfl _ _ (w.heap.size + 1) _ _ (0, 0) _ rfl HF.out.1 Try.underlying22 rfl (inf f) _ rfl) rfl ⟨by rw [← HR.out.1, ← HR.out.2, HX.out.1.1, HX.out.1.2], HF.out.2⟩
    | false =>
      rw [hodd] at hch
      simp only [Bool.false_eq_true, if_false] at hch
      obtain ⟨⟨f1, f2⟩, f3, f4⟩ := hfx
      by_cases hk1 : x.kind = 1
      · have e1 : (x.kind == 1) = true := by simpa using hk1
        cases rest with
        | nil =>
          have hno := ap_none (hnone (apStep_none hodd hk1))
          have HX := Lib.hid (And.intro hno (And.intro hpb hch)); clear hno hpa hpb hch hs hnone hap hps hat hodd f1 f2 f3 f4 hk1
          have hxk := hxb
          have HXB := Lib.hid hxb; clear hxb hxk
          go_wp2_with (first
            | (go_at_call 58; refine HX.out.2.2.mono ?_; rintro e w5 ⟨rfl, hb⟩; have h5 := HX.out.2.1.up hb; unfold PS at h5; have H5 := Lib.hid h5
               obtain ⟨y0, y1⟩ := cells2' (block_up HXB.out hb); clear hb h5)
            | (with_reducible refine wpList_load_row rfl 22 _ rfl w.heap.size rfl 22 (lsI 256 f).toArray (0, 0) _ H5.out.1 Try.underlying22 rfl (inf f) ?_)
            | (with_reducible refine wpList_store_rowF rfl 22 _ _ rfl (w.heap.size + 1) (lsI 256 f).toArray rfl rfl 22 (lsI 256 fun _ => 0).toArray H5.out.2.1 (inf f) (by rw [lsI_size, lsI_size]) (lsI_all _ _) ?_
               intro W9 hn9 hF9
               have HF := Lib.hid (And.intro hn9 (PS.back (w3 := w) H5.out hF9)); clear hn9 hF9))
          refine bodyPost_ret (v := .tuple #[.agg (lsI 256 f).toArray, .bool false]) (results_cell_tmp (p := 6) (t := 7) rfl _ _ (w.heap.size + 1) _ _ (0, 0) _ rfl HF.out.1 Try.underlying22 rfl (inf f) _ rfl) rfl ⟨by rw [← HR.out.1, ← HR.out.2, HX.out.1.1, HX.out.1.2], HF.out.2⟩
        | cons x0 r0 =>
          rw [apStep_kept hodd hk1] at hs
          obtain ⟨ga, oa, rfl, m0, _, hct, htail⟩ := ird_tail hat
          have htail := Lib.hid htail
          have HX := Lib.hid (And.intro hs (And.intro hpb hch)); clear hpa hpb hch hs hnone hap hps hat hodd hk1
          have HXB := Lib.hid hxb; clear hxb
          have hlen : (x0 :: r0).length = r0.length + 1 := rfl
          rw [hlen] at hct hac hrl
          by_cases hc1 : ct = 1
          · subst hc1
            have hr0 : r0.length = 0 := by omega
            go_wp2_with (go_at_call 58; refine HX.out.2.2.mono ?_; rintro e w5 ⟨rfl, hb⟩
                         have hbw := below_up (below_alloc (below_alloc1 wr (.cells #[.int .i64 x.kind, .int .i64 x.id] 71)) (.cells #[.int .i64 x.kind, .int .i64 x.id] 71)) hb
                         have h5 := HX.out.2.1.up hb
                         have hx5 := block_up HXB.out hb
                         have m5 := cell_up m0 h5.2.2.2
                         have HB5 := Lib.hid hbw
                         have HP5 := Lib.hid h5
                         have HX5 := Lib.hid hx5
                         obtain ⟨y0, y1⟩ := cells2' hx5; clear hb h5 hbw hx5)
            go_quiet (fail)
            obtain ⟨wq, hwq⟩ : ∃ wq, wq = w5.drewN nq := ⟨_, rfl⟩
            have hps5 : PS w w (lsI 256 f) (lsI 256 fun _ => 0) wq g := by rw [hwq]; exact (HP5.out.up (below_drewN nq))
            obtain ⟨y0, y1⟩ := cells2' (show wq.heap[wr.heap.size]? = _ from by rw [hwq]; exact HX5.out)
            have HBQ := Lib.hid (show Below wr.heap.size wr wq from by rw [hwq]; exact (below_up HB5.out (below_drewN nq)))
            rw [← hwq]
            clear hwq
            unfold PS at hps5
            have H5 := Lib.hid hps5; clear hps5
            go_wp2_with (first
              | (with_reducible refine wpList_load_row rfl 22 _ rfl (w.heap.size + 2) rfl 22 (lsI 256 g).toArray (0, 0) _ H5.out.2.2.1 Try.underlying22 rfl (inf g) ?_)
              | (go_at_call 15; refine (set_ok g x.id x0 _ (by omega) (by omega)).mono ?_; rintro e w6 ⟨rfl, hb⟩
                 have h6 := PS.up (w3 := w) H5.out hb; unfold PS at h6; have H6 := Lib.hid (And.intro h6 (below_up HBQ.out hb)); clear hb h6)
              | (with_reducible refine wpList_store_rowF rfl 22 _ _ rfl (w.heap.size + 2) (lsI 256 (upd g x.id x0)).toArray rfl rfl 22 (lsI 256 g).toArray H6.out.1.2.2.1 (inf _) (by rw [lsI_size, lsI_size]) (lsI_all _ _) ?_
                 intro W9 hn9 hF9
                 have h9 : PS w w (lsI 256 f) (lsI 256 fun _ => 0) W9 (upd g x.id x0) := ⟨blk_fr H6.out.1.1 hF9 (by omega), blk_fr H6.out.1.2.1 hF9 (by omega), hn9, H6.out.1.2.2.2.trans (hF9.toBelow (fun k hk => by omega) H6.out.1.2.2.2.size)⟩
                 have H9 := Lib.hid (And.intro h9 (And.intro H6.out.2 hF9)); clear hn9 hF9 h9))
            refine ⟨⟨k + 1, upd g x.id x0, r0, by omega, by simp, ?_, by omega, HX.out.1, H9.out.1⟩, by simp [intOf]; omega⟩
            have e0 : r0 = [] := List.eq_nil_of_length_eq_zero (by omega)
            subst e0
            exact ird_empty _ _ _
          · have hc2 : ¬ 1 = ct := fun e => hc1 e.symm
            go_wp2_with (go_at_call 58; refine HX.out.2.2.mono ?_; rintro e w5 ⟨rfl, hb⟩
                         have hbw := below_up (below_alloc (below_alloc1 wr (.cells #[.int .i64 x.kind, .int .i64 x.id] 71)) (.cells #[.int .i64 x.kind, .int .i64 x.id] 71)) hb
                         have h5 := HX.out.2.1.up hb
                         have hx5 := block_up HXB.out hb
                         have m5 := cell_up m0 h5.2.2.2
                         have HB5 := Lib.hid hbw
                         have HP5 := Lib.hid h5
                         have HX5 := Lib.hid hx5
                         obtain ⟨y0, y1⟩ := cells2' hx5; clear hb h5 hbw hx5)
            go_quiet (fail)
            obtain ⟨wq, hwq⟩ : ∃ wq, wq = w5.drewN nq := ⟨_, rfl⟩
            have hps5 : PS w w (lsI 256 f) (lsI 256 fun _ => 0) wq g := by rw [hwq]; exact (HP5.out.up (below_drewN nq))
            obtain ⟨y0, y1⟩ := cells2' (show wq.heap[wr.heap.size]? = _ from by rw [hwq]; exact HX5.out)
            have HBQ := Lib.hid (show Below wr.heap.size wr wq from by rw [hwq]; exact (below_up HB5.out (below_drewN nq)))
            rw [← hwq]
            clear hwq
            unfold PS at hps5
            have H5 := Lib.hid hps5; clear hps5
            go_wp2_with (first
              | (with_reducible refine wpList_load_row rfl 22 _ rfl (w.heap.size + 2) rfl 22 (lsI 256 g).toArray (0, 0) _ H5.out.2.2.1 Try.underlying22 rfl (inf g) ?_)
              | (go_at_call 15; refine (set_ok g x.id x0 _ (by omega) (by omega)).mono ?_; rintro e w6 ⟨rfl, hb⟩
                 have h6 := PS.up (w3 := w) H5.out hb; unfold PS at h6; have H6 := Lib.hid (And.intro h6 (below_up HBQ.out hb)); clear hb h6)
              | (with_reducible refine wpList_store_rowF rfl 22 _ _ rfl (w.heap.size + 2) (lsI 256 (upd g x.id x0)).toArray rfl rfl 22 (lsI 256 g).toArray H6.out.1.2.2.1 (inf _) (by rw [lsI_size, lsI_size]) (lsI_all _ _) ?_
                 intro W9 hn9 hF9
                 have h9 : PS w w (lsI 256 f) (lsI 256 fun _ => 0) W9 (upd g x.id x0) := ⟨blk_fr H6.out.1.1 hF9 (by omega), blk_fr H6.out.1.2.1 hF9 (by omega), hn9, H6.out.1.2.2.2.trans (hF9.toBelow (fun k hk => by omega) H6.out.1.2.2.2.size)⟩
                 have H9 := Lib.hid (And.intro h9 (And.intro H6.out.2 hF9)); clear hn9 hF9 h9))
            refine ⟨⟨k + 1, upd g x.id x0, r0, by omega, by simp, ?_, by omega, HX.out.1, H9.out.1⟩, by simp [intOf]; omega⟩
            exact htail.out (ct - 1) (by omega)
      · have e1 : (x.kind == 1) = false := by simpa using hk1
        rw [apStep_gone hodd hk1] at hs
        have HX := Lib.hid (And.intro hs (And.intro hpb hch)); clear hpa hpb hch hs hnone hap hps hodd hk1
        have HXB := Lib.hid hxb; clear hxb
        have HAT := Lib.hid hat; clear hat
        go_wp2_with (first
          | (go_at_call 58; refine HX.out.2.2.mono ?_; rintro e w5 ⟨rfl, hb⟩
             have hbw := below_up (below_alloc (below_alloc1 wr (.cells #[.int .i64 x.kind, .int .i64 x.id] 71)) (.cells #[.int .i64 x.kind, .int .i64 x.id] 71)) hb
             have h5 := HX.out.2.1.up hb
             have hx5 := block_up HXB.out hb
             have HBQ := Lib.hid hbw
             unfold PS at h5
             have H5 := Lib.hid h5
             obtain ⟨y0, y1⟩ := cells2' hx5; clear hb h5 hbw hx5)
          | (with_reducible refine wpList_load_row rfl 22 _ rfl (w.heap.size + 2) rfl 22 (lsI 256 g).toArray (0, 0) _ H5.out.2.2.1 Try.underlying22 rfl (inf g) ?_)
          | (go_at_call 15; refine (set_ok g x.id 0 _ (by omega) (by omega)).mono ?_; rintro e w6 ⟨rfl, hb⟩
             have h6 := PS.up (w3 := w) H5.out hb; unfold PS at h6; have H6 := Lib.hid (And.intro h6 (below_up HBQ.out hb)); clear hb h6)
          | (with_reducible refine wpList_store_rowF rfl 22 _ _ rfl (w.heap.size + 2) (lsI 256 (upd g x.id 0)).toArray rfl rfl 22 (lsI 256 g).toArray H6.out.1.2.2.1 (inf _) (by rw [lsI_size, lsI_size]) (lsI_all _ _) ?_
             intro W9 hn9 hF9
             have h9 : PS w w (lsI 256 f) (lsI 256 fun _ => 0) W9 (upd g x.id 0) := ⟨blk_fr H6.out.1.1 hF9 (by omega), blk_fr H6.out.1.2.1 hF9 (by omega), hn9, H6.out.1.2.2.2.trans (hF9.toBelow (fun k hk => by omega) H6.out.1.2.2.2.size)⟩
             have H9 := Lib.hid (And.intro h9 (And.intro H6.out.2 hF9)); clear hn9 hF9 h9))
        refine ⟨⟨k + 1, upd g x.id 0, rest, by omega, by simp, ?_, hrl, HX.out.1, H9.out.1⟩, by simp [intOf]; omega⟩
        exact HAT.out
  · have hkl : k = l.length := by omega
    subst hkl
    have d : decide ((l.length : Int) < l.length) = false := decide_eq_false (by omega)
    rw [List.take_length] at hap
    obtain ⟨At, ct, rfl, _, _⟩ := hat
    unfold PS at hps
    have HPS := Lib.hid hps; clear hps
    cases rest with
    | nil =>
      have hno := ap_all hap
      have HX := Lib.hid hno; clear hno hap
      go_wp2_with (first
        | (with_reducible refine wpList_load_row rfl 22 _ rfl (w.heap.size + 2) rfl 22 (lsI 256 g).toArray (0, 0) _ HPS.out.2.2.1 Try.underlying22 rfl (inf g) ?_)
        | (with_reducible refine wpList_store_rowF rfl 22 _ _ rfl (w.heap.size + 1) (lsI 256 g).toArray rfl rfl 22 (lsI 256 fun _ => 0).toArray HPS.out.2.1 (inf g) (by rw [lsI_size, lsI_size]) (lsI_all _ _) ?_
           intro W9 hn9 hF9
           have HF := Lib.hid (And.intro hn9 (PS.back (w3 := w) HPS.out hF9)); clear hn9 hF9))
      refine bodyPost_ret (v := .tuple #[.agg (lsI 256 g).toArray, .bool true]) (results_cell_tmp (p := 6) (t := 7) rfl _ _ (w.heap.size + 1) _ _ (0, 0) _ rfl HF.out.1 Try.underlying22 rfl (inf g) _ rfl) rfl ⟨by rw [← HR.out.1, ← HR.out.2, HX.out.1, HX.out.2], HF.out.2⟩
    | cons x0 r0 =>
      have hno := ap_rest hap
      have HX := Lib.hid hno; clear hno hap
      go_wp2_with (first
        | (with_reducible refine wpList_load_row rfl 22 _ rfl w.heap.size rfl 22 (lsI 256 f).toArray (0, 0) _ HPS.out.1 Try.underlying22 rfl (inf f) ?_)
        | (with_reducible refine wpList_store_rowF rfl 22 _ _ rfl (w.heap.size + 1) (lsI 256 f).toArray rfl rfl 22 (lsI 256 fun _ => 0).toArray HPS.out.2.1 (inf f) (by rw [lsI_size, lsI_size]) (lsI_all _ _) ?_
           intro W9 hn9 hF9
           have HF := Lib.hid (And.intro hn9 (PS.back (w3 := w) HPS.out hF9)); clear hn9 hF9))
      refine bodyPost_ret (v := .tuple #[.agg (lsI 256 f).toArray, .bool false]) (results_cell_tmp (p := 6) (t := 7) rfl _ _ (w.heap.size + 1) _ _ (0, 0) _ rfl HF.out.1 Try.underlying22 rfl (inf f) _ rfl) rfl ⟨by rw [← HR.out.1, ← HR.out.2, HX.out.1, HX.out.2], HF.out.2⟩
end Go.Proofs.Ytjikndfpkhgnkaa.Nm
