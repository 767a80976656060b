/- The walk over NmapGone. -/
import Derived.Test.YtjikndfpkhgnkaaNmap9
import Derived.Deep.RegionHeld3
namespace Go.Proofs.Ytjikndfpkhgnkaa.Nm
open Go.RowKit
set_option linter.unusedVariables false
set_option linter.unusedSimpArgs false
theorem info_ent : (Try.prog.info? 71).map (fun i => (i.zero, i.size, i.bytes)) = some (some (.agg #[.int .i64 0, .int .i64 0]), 2, 16) := by kernel_rfl
theorem ldS_eq10 (v : Value) : Instr.loadAt 22 v = ldS 22 v := rfl
attribute [local go_sem ↓] ldS_eq10
def GS (w3 : World) (f : Nat → Int) (l : List Int) (k : Nat) (vg vb va : Value) (W : World) : Prop :=
  W.ownsRow w3.heap.size 71 2 vg k ((goneL (l.take k)).flatMap EntS.cells) ∧ W.ownsRow w3.heap.size 71 2 vb k ((backL (l.take k)).flatMap EntS.cells) ∧ W.ownsRow w3.heap.size 3 1 va k (iv (secs f (l.take k))) ∧
    (∀ q, vg.ownBlock = some q → vb.ownBlock ≠ some q) ∧ Below w3.heap.size w3 W
set_option maxHeartbeats 8000000 in
set_option maxRecDepth 100000 in
theorem gone_walk (f : Nat → Int) (w : World) (hf : ∀ i, i < 256 → -9223372036854775808 ≤ f i ∧ f i ≤ 9223372036854775807) :
    Calls Try.prog 10 #[.agg (lsI 256 f).toArray] w fun e w' => e = .returned (.bool true) ∧ Below w.heap.size w w' := by
  obtain ⟨g, h, l1, l2, l3, l4, l5, l6⟩ := gone_law f
  have hz := zeroW
  have hrng := idl_rng f 256
  have hll := idl_len f 256
  have hids := ids_ok f
  have hids2 := ids_ok g
  rw [l5] at hids2
  generalize idl f 256 = l at *
  have HLW := Lib.hid (And.intro (And.intro l1 l2) (And.intro (And.intro l3 l4) l6)); clear l1 l2 l3 l4 l5 l6
  have HI := Lib.hid (And.intro hids (And.intro hids2 hrng)); clear hids hids2 hrng
  go_enter Try.func10, Try.ntmps10
  go_wp2_with fail
  refine (alive_ok _).mono ?_; rintro e w1 ⟨rfl, hb⟩
  have hb0 := block_up (alloc_at (w := w) _ rfl) hb
  have q0 := ldN hb0
  have H1 := Lib.hid (And.intro (below_up (below_alloc1 w _) hb) hb0); clear hb hb0
  go_wp2_with fail
  refine (HI.out.1 _).mono ?_; rintro e w3 ⟨v3, rfl, hb3, hown3⟩
  clear q0
  obtain ⟨A3, c3, rfl, _, _, _, _⟩ := own_rd hown3
  have H3 := Lib.hid (And.intro (below_up H1.out.1 hb3) (And.intro (block_up H1.out.2 hb3) (ird_own hown3))); clear hb3 hown3
  go_wp2_with fail
  go_loopw [4, 5, 6, 7] (fun vg vb va vi W => ∃ k : Nat, k ≤ l.length ∧ vi = .int .i64 k ∧ GS w3 f l k vg vb va W) (fun _ _ _ vi _ => l.length - (intOf vi).toNat)
  case atStart => exact ⟨0, by omega, rfl, ⟨rfl, .inl ⟨rfl, rfl⟩⟩, ⟨rfl, .inl ⟨rfl, rfl⟩⟩, ⟨rfl, .inl ⟨rfl, rfl⟩⟩, fun q hq => by simp [Value.ownBlock] at hq, Below.refl _ _⟩
  obtain ⟨k, hk, rfl, hg, hb, ha, hdis, hbel⟩ := hrel
  obtain ⟨Ag, cg, rfl, _, _, _, _⟩ := own_rd hg
  obtain ⟨Ab, cb, rfl, _, _, _, _⟩ := own_rd hb
  obtain ⟨Aa, ca, rfl, _, _, _, _⟩ := own_rd ha
  by_cases hlt : k < l.length
  · have d : decide ((k : Int) < l.length) = true := decide_eq_true (by omega)
    obtain ⟨ad, rfl, k1⟩ := H3.out.2.2.get hlt
    have kk := cell_up k1 hbel
    have hx := HI.out.2.2 _ (List.getElem_mem hlt)
    have s1 := goneL_succ l k hlt
    have s2 := backL_succ l k hlt
    have s3 := secs_succ f l k hlt
    generalize l[k] = x at *
    have hmv : ∀ W : World, Below w3.heap.size w3 W → W.cell? (ad.add k) = some (.int .i64 x) := fun W hW => cell_up k1 hW
    have hgd := hg
    have hbd := hb
    have had := ha
    have HS := Lib.hid (And.intro s1 (And.intro s2 (And.intro s3 hdis))); clear s1 s2 s3 hdis
    have HBD := Lib.hid hbel
    have HNE := Lib.hid (And.intro (fun q hq => own_apart had hgd (by decide) q hq) (fun q hq => own_apart had hbd (by decide) q hq))
    have hnb : ∀ (n : Nat), wr.heap.size ≤ n → ∀ ad, some (⟨n, 0, none⟩ : Addr) = some ad → some ad.block ≠ (Value.slice Ag k cg).ownBlock := fun n hn ad e e1 => by
      injection e with e
      subst e
      have := own_lt hgd _ e1.symm
      simp only at this
      omega
    have HNB := Lib.hid hnb; clear hnb
    have HO := Lib.hid (And.intro hgd (And.intro hbd had)); clear hgd hbd had hg hb ha
    have HMV := Lib.hid hmv; clear hmv k1
    have HX := Lib.hid hx; clear hx
    have hwr : wr.drew.heap.size = wr.heap.size := rfl
    have HWR := Lib.hid hwr; clear hwr
    go_wp2_with fail
    clear kk
    go_region_held3 (fun W => W.cell? (ad.add k) = some (.int .i64 x) ∧ Below w3.heap.size w3 W)
      (first
        | (refine (fun hq => ⟨HMV.out _ hq, hq⟩) ?_
           repeat (first | exact HB6.out | exact HB5.out | exact HBD.out | refine below_dr ?_ | refine below_alloc ?_ _)))
      (first
        | (refine step_app rfl _ _ 69 rfl w3.heap.size 71 (.agg #[.int .i64 0, .int .i64 0]) 2 16 Try.underlying69 info_ent rfl (by decide) (by decide) (.slice Ag k cg) k ((goneL (l.take k)).flatMap EntS.cells) rfl _ 1 1 ([(⟨2, x⟩ : EntS)].flatMap EntS.cells) rfl (by repeat (first | exact HO.out.1 | refine own_below ?_ below_drew1 | refine own_below ?_ (below_alloc1 _ _))) rfl (by repeat (first | exact rd_one_n rfl ⟨2, x⟩ _ | exact rd_one_n (by simp) ⟨2, x⟩ _ | refine Rd.below ?_ below_drew1 | refine Rd.below ?_ (below_alloc1 _ _))) (flat_one EntS.cells_one _) (by omega) (show Below w3.heap.size w3 _ from by repeat (first | exact HBD.out | refine below_dr ?_ | refine below_alloc ?_ _)).size ?_
           intro A5 c5 w5 hown hgrow hat
           have hb5 : Below w3.heap.size w3 w5 := below_grown (show Below w3.heap.size w3 _ from by repeat (first | exact HBD.out | refine below_dr ?_ | refine below_alloc ?_ _)) hgrow (fun b e => own_base HO.out.1 b e)
           have hbk5 := own_grown (base := w3.heap.size) (e := 71) (size := 2) (v := .slice Ab k cb) (n := k) (xs := (backL (l.take k)).flatMap EntS.cells) (by repeat (first | exact HO.out.2.1 | refine own_below ?_ below_drew1 | refine own_below ?_ (below_alloc1 _ _))) hgrow (fun q hq e => HS.out.2.2.2 q e.symm hq)
           have hat5 := own_grown (base := w3.heap.size) (e := 3) (size := 1) (v := .slice Aa k ca) (n := k) (xs := iv (secs f (l.take k))) (by repeat (first | exact HO.out.2.2 | refine own_below ?_ below_drew1 | refine own_below ?_ (below_alloc1 _ _))) hgrow HNE.out.1
           have hd5 : ∀ q, (Value.slice A5 (k + 1) c5).ownBlock = some q → (Value.slice Ab k cb).ownBlock ≠ some q := fun q hq e => by
             rcases hat with h | h
             · rw [h] at hq; exact HS.out.2.2.2 q hq e
             · have h1 := own_lt HO.out.2.1 q e
               rw [hq] at h
               injection h with h
               subst h
               simp at h1 <;> omega
           have HB5 := Lib.hid hb5
           have HO5 := Lib.hid (And.intro hown (And.intro hbk5 (And.intro hat5 hd5)))
           have HGR := Lib.hid hgrow
           clear hown hgrow hat hb5 hbk5 hat5 hd5)
        | (refine step_app rfl _ _ 69 rfl w3.heap.size 71 (.agg #[.int .i64 0, .int .i64 0]) 2 16 Try.underlying69 info_ent rfl (by decide) (by decide) (.slice Ab k cb) k ((backL (l.take k)).flatMap EntS.cells) rfl _ 1 1 ([(⟨1, x⟩ : EntS)].flatMap EntS.cells) rfl (by repeat (first | exact HO5.out.2.1 | refine own_below ?_ below_drew1 | refine own_below ?_ (below_alloc1 _ _))) rfl (by first | exact rd_one_n rfl ⟨1, x⟩ _ | exact rd_grown (by repeat (first | exact rd_one_n rfl ⟨1, x⟩ _ | exact rd_one_n (by simp) ⟨1, x⟩ _ | refine Rd.below ?_ below_drew1 | refine Rd.below ?_ (below_alloc1 _ _))) HGR.out (HNB.out _ (by omega))) (flat_one EntS.cells_one _) (by omega) (show Below w3.heap.size w3 _ from by repeat (first | exact HB5.out | refine below_dr ?_ | refine below_alloc ?_ _)).size ?_
           intro A6 c6 w6 hown hgrow hat
           have hb6 : Below w3.heap.size w3 w6 := below_grown (show Below w3.heap.size w3 _ from by repeat (first | exact HB5.out | refine below_dr ?_ | refine below_alloc ?_ _)) hgrow (fun b e => own_base HO5.out.2.1 b e)
           have hg6 := own_grown (base := w3.heap.size) (e := 71) (size := 2) (v := .slice A5 (k + 1) c5) (n := k + 1) (xs := (goneL (l.take k)).flatMap EntS.cells ++ [(⟨2, x⟩ : EntS)].flatMap EntS.cells) (by repeat (first | exact HO5.out.1 | refine own_below ?_ below_drew1 | refine own_below ?_ (below_alloc1 _ _))) hgrow (fun q hq e => HO5.out.2.2.2 q hq e.symm)
           have ha6 := own_grown (base := w3.heap.size) (e := 3) (size := 1) (v := .slice Aa k ca) (n := k) (xs := iv (secs f (l.take k))) (by repeat (first | exact HO5.out.2.2.1 | refine own_below ?_ below_drew1 | refine own_below ?_ (below_alloc1 _ _))) hgrow HNE.out.2
           have hd6 : ∀ q, (Value.slice A5 (k + 1) c5).ownBlock = some q → (Value.slice A6 (k + 1) c6).ownBlock ≠ some q := fun q hq e => by
             rcases hat with h | h
             · rw [h] at e; exact HO5.out.2.2.2 q hq e
             · have h1 := own_lt HO5.out.1 q hq
               rw [e] at h
               injection h with h
               subst h
               simp at h1 <;> omega
           rw [← List.flatMap_append, ← HS.out.1] at hg6
           rw [← List.flatMap_append, ← HS.out.2.1] at hown
           have HB6 := Lib.hid hb6
           have HO6 := Lib.hid (And.intro hg6 (And.intro hown (And.intro ha6 hd6)))
           have k6 := HMV.out _ hb6
           clear hown hgrow hat hb6 hg6 ha6 hd6))
    all_goals
      have m6 : w6.cell? ⟨w.heap.size, x.toNat, none⟩ = some (.int .i64 (f x.toNat)) := blkA (block_up H3.out.2.1 HB6.out) (by have := HX.out; omega)
      have x1 := HX.out.1
      have x2 := HX.out.2
      go_wp2_with (at_builtin; refine wpList_app rfl _ _ 24 rfl w3.heap.size 3 (.int .i64 0) 1 8 Try.underlying24 info_i64 rfl (by decide) (by decide) (.slice Aa k ca) k (iv (secs f (l.take k))) rfl (some ⟨w6.heap.size, 0, none⟩) 1 1 (iv [f x.toNat]) rfl (own_below HO6.out.2.2.1 (below_alloc1 _ _)) rfl (rd_new _ _ _ _ rfl) (iv_one _) (by omega) (below_alloc HB6.out _).size ?_)
      intro A7 c7 w7 hown hgrow hat
      rw [← iv_append, ← HS.out.2.2.1] at hown
      have hg7 := own_grown (own_below HO6.out.1 (below_alloc1 w6 (.cells #[.int .i64 (f x.toNat)] 3))) hgrow (own_apart HO6.out.1 HO6.out.2.2.1 (by decide))
      have hb7 := own_grown (own_below HO6.out.2.1 (below_alloc1 w6 (.cells #[.int .i64 (f x.toNat)] 3))) hgrow (own_apart HO6.out.2.1 HO6.out.2.2.1 (by decide))
      have hB7 := below_grown (below_alloc HB6.out (.cells #[.int .i64 (f x.toNat)] 3)) hgrow (fun b e => own_base HO6.out.2.2.1 b e)
      have H7 := Lib.hid (show GS w3 f l (k + 1) (.slice A5 (k + 1) c5) (.slice A6 (k + 1) c6) (.slice A7 (k + 1) c7) w7 from ⟨hg7, hb7, hown, HO6.out.2.2.2, hB7⟩)
      clear hown hgrow hat hg7 hb7 hB7 m6 k6
      go_wp2
      exact ⟨⟨k + 1, by omega, by simp, H7.out⟩, by simp [intOf]; omega⟩
  · have hkl : k = l.length := by omega
    subst hkl
    have d : decide ((l.length : Int) < l.length) = false := decide_eq_false (by omega)
    rw [List.take_length] at hg hb ha
    have hap1 := apply_ok f (.slice Ag l.length cg) (.slice none 0 0) (goneL l) [] wr (srd_own EntS.cells_len (by decide) hg) (ird_nil _) (by simp [goneL]; omega) (by simp) (fun e he => by
      obtain ⟨x, hx, rfl⟩ := List.mem_map.1 he
      have := HI.out.2.2 x hx
      exact ⟨⟨by show (-9223372036854775808 : Int) ≤ 2; decide, by show (2 : Int) ≤ 9223372036854775807; decide⟩, by show _ ≤ x; omega, by show x ≤ _; omega⟩)
    rw [HLW.out.1.1, HLW.out.1.2] at hap1
    have hap2 := fun (W : World) (hW : Below wr.heap.size wr W) => apply_ok g (.slice Ab l.length cb) (.slice Aa l.length ca) (backL l) (secs f l) W ((srd_own EntS.cells_len (by decide) hb).below hW) ((ird_own ha).below hW) (by simp [backL]; omega) (by rw [secs_len]; omega) (fun e he => by
      obtain ⟨x, hx, rfl⟩ := List.mem_map.1 he
      have := HI.out.2.2 x hx
      exact ⟨⟨by show (-9223372036854775808 : Int) ≤ 1; decide, by show (1 : Int) ≤ 9223372036854775807; decide⟩, by show _ ≤ x; omega, by show x ≤ _; omega⟩)
    rw [HLW.out.2.1.1, HLW.out.2.1.2] at hap2
    have hq := eqa h f
    rw [eqA_true HLW.out.2.2] at hq
    have HB0 := Lib.hid (And.intro (below_up H3.out.1 hbel) (block_up H3.out.2.1 hbel))
    have HAP := Lib.hid (And.intro hap1 hap2); clear hap1 hap2 hg hb ha hdis hbel
    have q0 := ldN HB0.out.2
    go_wp2_with (first
      | (go_at_call 40; (with_reducible refine HAP.out.1.mono ?_); rintro e w7 ⟨rfl, hb7⟩
         have H7 := Lib.hid (And.intro hb7 (below_alloc hb7 (.cells (lsI 256 fun _ => 0).toArray 22))); clear hb7)
      | (with_reducible refine wpList_store_rowF rfl 22 _ _ rfl w7.heap.size (lsI 256 g).toArray rfl rfl 22 (lsI 256 fun _ => 0).toArray (alloc_at _ rfl) (inf _) (by rw [lsI_size, lsI_size]) (lsI_all _ _) ?_
         intro W8 hn8 hF8
         have q8 := ldN hn8
         have h8 : Below wr.heap.size wr W8 := H7.out.2.trans (hF8.toBelow (fun k hk => by have := H7.out.1.size; omega) H7.out.2.size)
         have H8 := Lib.hid (And.intro h8 hn8); clear hn8 hF8 h8)
      | (go_at_call 40; (with_reducible refine (HAP.out.2 _ H8.out.1).mono ?_); rintro e w9 ⟨rfl, hb9⟩
         have H9 := Lib.hid (And.intro (below_up H8.out.1 hb9) (And.intro (below_alloc (below_up H8.out.1 hb9) (.cells (lsI 256 fun _ => 0).toArray 22)) (And.intro (alloc_old (block_up H8.out.2 hb9) (.cells (lsI 256 fun _ => 0).toArray 22)) (Array.getElem?_eq_some_iff.1 (block_up H8.out.2 hb9)).1))); clear hb9)
      | (with_reducible refine wpList_store_rowF rfl 22 _ _ rfl w9.heap.size (lsI 256 h).toArray rfl rfl 22 (lsI 256 fun _ => 0).toArray (alloc_at _ rfl) (inf _) (by rw [lsI_size, lsI_size]) (lsI_all _ _) ?_
         intro W10 hn10 hF10
         have h10 : Below wr.heap.size wr W10 := H9.out.2.1.trans (hF10.toBelow (fun k hk => by have := H9.out.1.size; omega) H9.out.2.1.size)
         have q10 := ldN (blk_fr H9.out.2.2.1 hF10 (by have := H9.out.2.2.2; omega))
         have H10 := Lib.hid (And.intro h10 hn10); clear hn10 hF10 h10)
      | (go_at_call 17; refine (HI.out.2.1 _).mono ?_; rintro e w11 ⟨v11, rfl, hb11, hown11⟩
         obtain ⟨A11, c11, rfl, _, _, _, _⟩ := own_rd hown11
         have q11 := ldN (block_up H10.out.2 hb11)
         have q12 := ldN (block_up HB0.out.2 (below_up H10.out.1 hb11))
         have H11 := Lib.hid (below_up HB0.out.1 (below_up H10.out.1 hb11)); clear hb11 hown11))
    go_ret
    exact ⟨rfl, H11.out⟩
end Go.Proofs.Ytjikndfpkhgnkaa.Nm
