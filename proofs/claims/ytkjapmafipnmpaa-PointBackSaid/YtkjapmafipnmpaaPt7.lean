/- The walk over PointTells. -/
import Derived.Test.YtkjapmafipnmpaaPt6
import Derived.Deep.RegionHeld3
import Derived.Deep.DeepCutAuto
import Derived.Deep.CutBlock
import Derived.MapKept
import Derived.Outline
namespace Go.Proofs.Ytkjapmafipnmpaa.Pt
open Go.RowKit Lt
set_option linter.unusedVariables false
set_option linter.unusedSimpArgs false
theorem num_made (s : OutS) (n size : Int) : (s.num n size).made = s.made := by unfold OutS.num OutS.put; (repeat' split) <;> rfl
theorem put_made (s : OutS) (l : List UInt8) : (s.put l).made = s.made := by unfold OutS.put; (repeat' split) <;> rfl
theorem putP_made (s : OutS) (p : PtS) : (putP s p).made = s.made := by unfold putP; rw [put_made, num_made, num_made, num_made, num_made]
/-- '==' of points. -/
def eqP (x y : PtS) : Bool := x.id == y.id && ((x.x : Int) == y.x && ((y.y : Int) == x.y && x.d == y.d))
theorem eqlP_same (x : PtS) (w : World) : (binOp .eql 53 (pv x) (pv x)).run Try.prog w = .ok (.bool true) w := by
  have h : (binOp .eql 53 (pv x) (pv x)).run Try.prog w = .ok (.bool (x.id == x.id && ((x.x : Int) == x.x && ((x.y : Int) == x.y && x.d == x.d)))) w := by
    refine eql_of (eqs_of Try.underlying53 (by kernel_rfl) ?_)
    refine eqf_cons (by rfl) (by go_simp; rfl) (by go_simp; rfl) (by go_simp) ?_
    refine eqf_cons (by rfl) (by go_simp; rfl) (by go_simp; rfl) (by go_simp) ?_
    refine eqf_cons (by rfl) (by go_simp; rfl) (by go_simp; rfl) (by go_simp) ?_
    exact eqf_last (by rfl) (by go_simp; rfl) (by go_simp; rfl) (by go_simp; exact (MapKept.bytes_beq x.d x.d).2 rfl)
  rw [h, (MapKept.bytes_beq x.d x.d).2 rfl]; simp
theorem neqP_same (x : PtS) (w : World) : (binOp .neq 53 (pv x) (pv x)).run Try.prog w = .ok (.bool false) w := by
  have h : (binOp .neq 53 (pv x) (pv x)).run Try.prog w = .ok (.bool (!(x.id == x.id && ((x.x : Int) == x.x && ((x.y : Int) == x.y && x.d == x.d))))) w := by
    refine neq_of (eqs_of Try.underlying53 (by kernel_rfl) ?_)
    refine eqf_cons (by rfl) (by go_simp; rfl) (by go_simp; rfl) (by go_simp) ?_
    refine eqf_cons (by rfl) (by go_simp; rfl) (by go_simp; rfl) (by go_simp) ?_
    refine eqf_cons (by rfl) (by go_simp; rfl) (by go_simp; rfl) (by go_simp) ?_
    exact eqf_last (by rfl) (by go_simp; rfl) (by go_simp; rfl) (by go_simp; exact (MapKept.bytes_beq x.d x.d).2 rfl)
  rw [h, (MapKept.bytes_beq x.d x.d).2 rfl]; simp
theorem below_dr2 {w w1 : World} (h : Below w.drew.heap.size w.drew w1) : Below w.heap.size w w1 := below_drew1.trans h
theorem below_drN {B : Nat} {w W : World} (h : Below B w W) (n : Nat) : Below B w (W.drewN n) := h.trans ⟨rfl, rfl, rfl, Nat.le_refl _, fun _ _ => rfl⟩
set_option maxHeartbeats 8000000 in
set_option maxRecDepth 100000 in
theorem ptells_walk (p : PtS) (hf : p.fine) (vb : Value) (b : List UInt8) (w : World) (hv : BRd w vb b) (hbl : b.length ≤ 140737488351232) :
    Calls Try.prog 6 #[pv p, vb] w fun e w' => e = .returned (.bool true) ∧ Below w.heap.size w w' := by
  have HV := Lib.hid (And.intro hv hf)
  obtain ⟨Ab, cb, rfl, _, _, _⟩ := hv
  have hg := alloc_at (w := w) (.cells #[.int .i64 p.id, .int .u32 (p.x : Nat), .int .u32 (p.y : Nat), .string p.d] 53) rfl
  have hbel := below_alloc1 w (.cells #[.int .i64 p.id, .int .u32 (p.x : Nat), .int .u32 (p.y : Nat), .string p.d] 53)
  obtain ⟨c, hc⟩ : ∃ c, p.chk = c := ⟨_, rfl⟩
  have hcc := hc
  unfold PtS.chk at hc
  have HG := Lib.hid (And.intro hg (And.intro hbel (And.intro hc hcc))); clear hg hbel hc hcc
  clear hf
  go_enter Try.func6, Try.ntmps6
  go_wp2_with fail
  generalize (w.alloc _) = w2 at *
  refine (alive_ok _).mono ?_; rintro e w3 ⟨rfl, hb3⟩
  obtain ⟨q0, q1, q2, q3⟩ := cells4 (block_up HG.out.1 hb3)
  have H3 := Lib.hid hb3; clear hb3
  go_upto_block 0 with (fail)
  go_cut [5] (fun v5 wx => v5 = .int .i64 c ∧ wx = w3)
  case first =>
    have hc := HG.out.2.2.1
    by_cases h1 : p.id < 1
    · rw [if_pos (.inl h1)] at hc
      subst hc
      go_wp2
      go_meet
      case rel => exact ⟨rfl, rfl⟩
    · by_cases h2 : 2147483647 < p.id
      · rw [if_pos (.inr h2)] at hc
        subst hc
        go_wp2
        go_meet
        case rel => exact ⟨rfl, rfl⟩
      · rw [if_neg (fun h => h.elim h1 h2)] at hc
        by_cases h3 : 16 < p.d.size
        · rw [if_pos h3] at hc
          subst hc
          go_wp2
          go_meet
          case rel => exact ⟨rfl, rfl⟩
        · rw [if_neg h3] at hc
          subst hc
          go_wp2
          go_meet
          case rel => exact ⟨rfl, rfl⟩
  case rest =>
  obtain ⟨rfl, hw⟩ := hcut
  replace hw := hw.symm; subst hw
  clear q0 q1 q2 q3
  go_wp2_with fail
  refine (new_w 300 _).mono ?_; rintro e w4 ⟨rfl, hO, hb4⟩
  have hg4 := block_up HG.out.1 (below_up H3.out hb4)
  obtain ⟨q0, q1, q2, q3⟩ := cells4 hg4
  have H4 := Lib.hid (And.intro hO (And.intro (below_up H3.out hb4) hg4)); clear hO hb4 hg4
  go_wp2_with fail
  refine (pput_ok H4.out.1 p HV.out.2).mono ?_; rintro e w5 ⟨rfl, hO, hK⟩
  have hg5 := hK.2 _ _ _ _ H4.out.2.2 (by decide) (by decide)
  have hb5 := below_up H3.out hO.bel
  have H5 := Lib.hid (And.intro hO (And.intro hb5 hg5)); clear hO hb5 hg5 hK q0 q1 q2 q3
  go_wp2_with fail
  refine (H5.out.1.done (by rw [putP_made]; rfl)).mono ?_; rintro e w6 ⟨x, l, rfl, hl, hx, hb⟩
  have hg6 := block_up H5.out.2.2 hb
  have hb6 := below_up H5.out.2.1 hb
  obtain ⟨q0, q1, q2, q3⟩ := cells4 hg6
  have H6 := Lib.hid (And.intro hl (And.intro hx (And.intro hb6 hg6))); clear hl hx hb6 hg6 hb
  obtain ⟨E, hE⟩ : ∃ E, (putP (outNew 300) p).err = E := ⟨_, rfl⟩
  rw [hE]
  have HE := Lib.hid hE; clear hE
  obtain ⟨Ax, cx, rfl, _, _, _⟩ := id H6.out.2.1
  go_upto_region 11 with (fail)
  go_cut [65] (fun v wx => v = .bool false ∧ Below w2.heap.size w2 wx)
  case first =>
    by_cases hc : c = 0
    · subst hc
      have hput := putP_ok (R := 300) (b := []) HG.out.2.2.2 HV.out.2 (by have := (chk_zero HG.out.2.2.2).2.2; simp; omega)
      rw [← outNew_ok 300 (by decide) (by decide), List.nil_append] at hput
      have hE0 : E = 0 := by rw [← HE.out, hput]; rfl
      have hl := H6.out.1
      rw [hput] at hl
      have hl2 : l = ptB p := hl
      subst hE0 hl2
      have hpd : p.d.size ≤ 16 := (chk_zero HG.out.2.2.2).2.2
      have hlen := ptB_len p
      have hcx := fun (W : World) (hb : Below w6.heap.size w6 W) => conv_rd (P := Try.prog) (H6.out.2.1.below hb) 40 5 9 Try.underlying40 Try.underlying5 Try.underlying9
      have HX := Lib.hid (And.intro hcx hput); clear hcx hput hl
      have hrp := fun (W : World) => refpoint_ok p W HV.out.2 HG.out.2.2.2
      have hsz := fun (W : World) => size_ok p W (by omega)
      have hck := fun (W : World) => chkp_ok p W
      simp only [HG.out.2.2.2] at hck
      have HC := Lib.hid (And.intro hrp (And.intro hsz hck)); clear hrp hsz hck
      generalize ptB p = bs at *
      obtain ⟨sbs, hsb⟩ : ∃ s, bstr bs = s := ⟨_, rfl⟩
      rw [hsb] at HX
      have HSB := Lib.hid hsb; clear hsb
      have hss : (sbs == sbs) = true := (MapKept.bytes_beq _ _).2 rfl
      have hss2 : (sbs != sbs) = false := by rw [bne, hss]; rfl
      have HQ := fun (W : World) (hb : Below w6.heap.size w6 W) => cells4 (block_up H6.out.2.2.2 hb)
      have HQ := Lib.hid HQ
      have hL : (((13 : Int) + p.d.size) != (bs.length : Int)) = false := by rw [bne_eq_false_iff_eq, hlen]; omega
      have hL2 : (((13 : Int) + p.d.size) == (bs.length : Int)) = true := by rw [beq_iff_eq, hlen]; omega
      have HLEN := Lib.hid hlen; clear hlen
      clear q0 q1 q2 q3
      have hS : ∀ W : World, Below w6.heap.size w6 W → (W.cell? ⟨w.heap.size, 0, none⟩ = some (.int .i64 p.id) ∧ W.cell? ⟨w.heap.size, 1, none⟩ = some (.int .u32 (p.x : Nat)) ∧ W.cell? ⟨w.heap.size, 2, none⟩ = some (.int .u32 (p.y : Nat)) ∧ W.cell? ⟨w.heap.size, 3, none⟩ = some (.string p.d) ∧
          (convert 40 9 (.slice Ax bs.length cx)).run Try.prog W = .ok (.string sbs) W ∧ Below w6.heap.size w6 W) := fun W hb => by
        obtain ⟨q0, q1, q2, q3⟩ := HQ.out _ hb
        exact ⟨q0, q1, q2, q3, HX.out.1 _ hb, hb⟩
      have HS := Lib.hid hS; clear hS
      refine wp_region_held_drew (S := (fun W => W.cell? ⟨w.heap.size, 0, none⟩ = some (.int .i64 p.id) ∧ W.cell? ⟨w.heap.size, 1, none⟩ = some (.int .u32 (p.x : Nat)) ∧ W.cell? ⟨w.heap.size, 2, none⟩ = some (.int .u32 (p.y : Nat)) ∧ W.cell? ⟨w.heap.size, 3, none⟩ = some (.string p.d) ∧
          (convert 40 9 (.slice Ax bs.length cx)).run Try.prog W = .ok (.string sbs) W ∧ Below w6.heap.size w6 W)) (by kernel_rfl) (HS.out _ below_drew1) (fun hHeld => ?_)
      refine wpAnyH_take (i := 0) (v := ?_) rfl (by kernel_rfl) (by kernel_rfl) (by kernel_rfl) (fun _ _ _ h => h) (Or.inl ⟨by kernel_rfl, ?_⟩) (by assumption) ?_; rotate_left; focus (intro w hSw; (try dsimp only at hSw); go_simp; (try with_reducible rfl); done); (try simp only [Act.put, List.getElem_toArray, List.getElem_cons_succ, List.getElem_cons_zero, List.setIfInBounds_toArray, List.set_cons_zero, List.set_cons_succ])
      refine wpAnyH_take (i := 2) (v := ?_) rfl (by kernel_rfl) (by kernel_rfl) (by kernel_rfl) (fun _ _ _ h => h) (Or.inl ⟨by kernel_rfl, ?_⟩) (by assumption) ?_; rotate_left; focus (intro w hSw; (try dsimp only at hSw); go_simp; (try with_reducible rfl); done); (try simp only [Act.put, List.getElem_toArray, List.getElem_cons_succ, List.getElem_cons_zero, List.setIfInBounds_toArray, List.set_cons_zero, List.set_cons_succ])
      refine wpAnyH_ready (rs := [1]) (by kernel_rfl) (by simp) ?_
      refine AllReadyH.cons rfl (fun K hK => ?_) AllReadyH.nil
      go_simp
      refine (HC.out.2.2 _).mono ?_; rintro e w7 ⟨rfl, hb⟩; have HB := Lib.hid (below_dr2 hb); clear hb
      refine hK.out _ _ (HS.out _ HB.out) (fun hHeld => ?_)
      clear hK K
      (try simp only [Act.put, List.getElem_toArray, List.getElem_cons_succ, List.getElem_cons_zero, List.setIfInBounds_toArray, List.set_cons_zero, List.set_cons_succ])
      refine wpAnyH_take (i := 3) (v := ?_) rfl (by kernel_rfl) (by kernel_rfl) (by kernel_rfl) (fun _ _ _ h => h) (Or.inl ⟨by kernel_rfl, ?_⟩) (by assumption) ?_; rotate_left; focus (intro w hSw; (try dsimp only at hSw); go_simp; (try with_reducible rfl); done); (try simp only [Act.put, List.getElem_toArray, List.getElem_cons_succ, List.getElem_cons_zero, List.setIfInBounds_toArray, List.set_cons_zero, List.set_cons_succ])
      refine wpAnyH_take (i := 4) (v := ?_) rfl (by kernel_rfl) (by kernel_rfl) (by kernel_rfl) (fun _ _ _ h => h) (Or.inl ⟨by kernel_rfl, ?_⟩) (by assumption) ?_; rotate_left; focus (intro w hSw; (try dsimp only at hSw); go_simp; (try with_reducible rfl); done); (try simp only [Act.put, List.getElem_toArray, List.getElem_cons_succ, List.getElem_cons_zero, List.setIfInBounds_toArray, List.set_cons_zero, List.set_cons_succ])
      refine wpAnyH_take (i := 5) (v := ?_) rfl (by kernel_rfl) (by kernel_rfl) (by kernel_rfl) (fun _ _ _ h => h) (Or.inl ⟨by kernel_rfl, ?_⟩) (by assumption) ?_; rotate_left; focus (intro w hSw; (try dsimp only at hSw); go_simp; (try with_reducible rfl); done); (try simp only [Act.put, List.getElem_toArray, List.getElem_cons_succ, List.getElem_cons_zero, List.setIfInBounds_toArray, List.set_cons_zero, List.set_cons_succ])
      refine wpAnyH_take (i := 6) (v := ?_) rfl (by kernel_rfl) (by kernel_rfl) (by kernel_rfl) (fun _ _ _ h => h) (Or.inl ⟨by kernel_rfl, ?_⟩) (by assumption) ?_; rotate_left; focus (intro w hSw; (try dsimp only at hSw); go_simp; (try with_reducible rfl); done); (try simp only [Act.put, List.getElem_toArray, List.getElem_cons_succ, List.getElem_cons_zero, List.setIfInBounds_toArray, List.set_cons_zero, List.set_cons_succ])
      refine wpAnyH_take (i := 7) (v := ?_) rfl (by kernel_rfl) (by kernel_rfl) (by kernel_rfl) (fun _ _ _ h => h) (Or.inl ⟨by kernel_rfl, ?_⟩) (by assumption) ?_; rotate_left; focus (intro w hSw; (try dsimp only at hSw); go_simp; (try with_reducible rfl); done); (try simp only [Act.put, List.getElem_toArray, List.getElem_cons_succ, List.getElem_cons_zero, List.setIfInBounds_toArray, List.set_cons_zero, List.set_cons_succ])
      refine wpAnyH_take (i := 8) (v := ?_) rfl (by kernel_rfl) (by kernel_rfl) (by kernel_rfl) (fun _ _ _ h => h) (Or.inl ⟨by kernel_rfl, ?_⟩) (by assumption) ?_; rotate_left; focus (intro w hSw; (try dsimp only at hSw); go_simp; (try with_reducible rfl); done); (try simp only [Act.put, List.getElem_toArray, List.getElem_cons_succ, List.getElem_cons_zero, List.setIfInBounds_toArray, List.set_cons_zero, List.set_cons_succ])
      refine wpAnyH_take (i := 9) (v := ?_) rfl (by kernel_rfl) (by kernel_rfl) (by kernel_rfl) (fun _ _ _ h => h) (Or.inl ⟨by kernel_rfl, ?_⟩) (by assumption) ?_; rotate_left; focus (intro w hSw; (try dsimp only at hSw); go_simp; (try with_reducible rfl); done); (try simp only [Act.put, List.getElem_toArray, List.getElem_cons_succ, List.getElem_cons_zero, List.setIfInBounds_toArray, List.set_cons_zero, List.set_cons_succ])
      refine wpAnyH_take (i := 10) (v := ?_) rfl (by kernel_rfl) (by kernel_rfl) (by kernel_rfl) (fun _ _ _ h => h) (Or.inl ⟨by kernel_rfl, ?_⟩) (by assumption) ?_; rotate_left; focus (intro w hSw; (try dsimp only at hSw); go_simp; (try with_reducible rfl); done); (try simp only [Act.put, List.getElem_toArray, List.getElem_cons_succ, List.getElem_cons_zero, List.setIfInBounds_toArray, List.set_cons_zero, List.set_cons_succ])
      refine wpAnyH_take (i := 11) (v := ?_) rfl (by kernel_rfl) (by kernel_rfl) (by kernel_rfl) (fun _ _ _ h => h) (Or.inl ⟨by kernel_rfl, ?_⟩) (by assumption) ?_; rotate_left; focus (intro w hSw; (try dsimp only at hSw); go_simp; (try with_reducible rfl); done); (try simp only [Act.put, List.getElem_toArray, List.getElem_cons_succ, List.getElem_cons_zero, List.setIfInBounds_toArray, List.set_cons_zero, List.set_cons_succ])
      refine wpAnyH_take (i := 12) (v := ?_) rfl (by kernel_rfl) (by kernel_rfl) (by kernel_rfl) (fun _ _ _ h => h) (Or.inl ⟨by kernel_rfl, ?_⟩) (by assumption) ?_; rotate_left; focus (intro w hSw; (try dsimp only at hSw); go_simp; (try with_reducible rfl); done); (try simp only [Act.put, List.getElem_toArray, List.getElem_cons_succ, List.getElem_cons_zero, List.setIfInBounds_toArray, List.set_cons_zero, List.set_cons_succ])
      refine wpAnyH_take (i := 13) (v := ?_) rfl (by kernel_rfl) (by kernel_rfl) (by kernel_rfl) (fun _ _ _ h => h) (Or.inl ⟨by kernel_rfl, ?_⟩) (by assumption) ?_; rotate_left; focus (intro w hSw; (try dsimp only at hSw); go_simp; (try with_reducible rfl); done); (try simp only [Act.put, List.getElem_toArray, List.getElem_cons_succ, List.getElem_cons_zero, List.setIfInBounds_toArray, List.set_cons_zero, List.set_cons_succ])
      refine wpAnyH_ready (rs := [14]) (by kernel_rfl) (by simp) ?_
      refine AllReadyH.cons rfl (fun K hK => ?_) AllReadyH.nil
      go_simp
      refine (HC.out.1 _).mono ?_; rintro e w8 ⟨v, rfl, hv, hb⟩; have HB := Lib.hid (below_up HB.out hb); have hv8 := conv_rd (P := Try.prog) hv 40 5 9 Try.underlying40 Try.underlying5 Try.underlying9; rw [HSB.out] at hv8; clear hv hb
      refine hK.out _ _ (HS.out _ HB.out) (fun hHeld => ?_)
      clear hK K
      (try simp only [Act.put, List.getElem_toArray, List.getElem_cons_succ, List.getElem_cons_zero, List.setIfInBounds_toArray, List.set_cons_zero, List.set_cons_succ])
      refine wpAnyH_ready (rs := [15]) (by kernel_rfl) (by simp) ?_
      refine AllReadyH.cons rfl (fun K hK => ?_) AllReadyH.nil
      go_simp
      refine hK.out _ _ (HS.out _ HB.out) (fun hHeld => ?_)
      clear hK K
      (try simp only [Act.put, List.getElem_toArray, List.getElem_cons_succ, List.getElem_cons_zero, List.setIfInBounds_toArray, List.set_cons_zero, List.set_cons_succ])
      refine wpAnyH_take (i := 16) (v := ?_) rfl (by kernel_rfl) (by kernel_rfl) (by kernel_rfl) (fun _ _ _ h => h) (Or.inl ⟨by kernel_rfl, ?_⟩) (by assumption) ?_; rotate_left; focus (intro w hSw; (try dsimp only at hSw); go_simp; (try with_reducible rfl); done); (try simp only [Act.put, List.getElem_toArray, List.getElem_cons_succ, List.getElem_cons_zero, List.setIfInBounds_toArray, List.set_cons_zero, List.set_cons_succ])
      refine wpAnyH_take (i := 17) (v := ?_) rfl (by kernel_rfl) (by kernel_rfl) (by kernel_rfl) (fun _ _ _ h => h) (Or.inl ⟨by kernel_rfl, ?_⟩) (by assumption) ?_; rotate_left; focus (intro w hSw; (try dsimp only at hSw); go_simp; (try with_reducible rfl); done); (try simp only [Act.put, List.getElem_toArray, List.getElem_cons_succ, List.getElem_cons_zero, List.setIfInBounds_toArray, List.set_cons_zero, List.set_cons_succ])
      refine wpAnyH_take (i := 18) (v := ?_) rfl (by kernel_rfl) (by kernel_rfl) (by kernel_rfl) (fun _ _ _ h => h) (Or.inl ⟨by kernel_rfl, ?_⟩) (by assumption) ?_; rotate_left; focus (intro w hSw; (try dsimp only at hSw); go_simp; (try with_reducible rfl); done); (try simp only [Act.put, List.getElem_toArray, List.getElem_cons_succ, List.getElem_cons_zero, List.setIfInBounds_toArray, List.set_cons_zero, List.set_cons_succ])
      refine wpAnyH_take (i := 19) (v := ?_) rfl (by kernel_rfl) (by kernel_rfl) (by kernel_rfl) (fun _ _ _ h => h) (Or.inl ⟨by kernel_rfl, ?_⟩) (by assumption) ?_; rotate_left; focus (intro w hSw; (try dsimp only at hSw); go_simp; (try with_reducible rfl); done); (try simp only [Act.put, List.getElem_toArray, List.getElem_cons_succ, List.getElem_cons_zero, List.setIfInBounds_toArray, List.set_cons_zero, List.set_cons_succ])
      refine wpAnyH_take (i := 21) (v := ?_) rfl (by kernel_rfl) (by kernel_rfl) (by kernel_rfl) (fun _ _ _ h => h) (Or.inl ⟨by kernel_rfl, ?_⟩) (by assumption) ?_; rotate_left; focus (intro w hSw; (try dsimp only at hSw); go_simp; (try with_reducible rfl); done); (try simp only [Act.put, List.getElem_toArray, List.getElem_cons_succ, List.getElem_cons_zero, List.setIfInBounds_toArray, List.set_cons_zero, List.set_cons_succ])
      refine wpAnyH_take (i := 22) (v := ?_) rfl (by kernel_rfl) (by kernel_rfl) (by kernel_rfl) (fun _ _ _ h => h) (Or.inl ⟨by kernel_rfl, ?_⟩) (by assumption) ?_; rotate_left; focus (intro w hSw; (try dsimp only at hSw); go_simp; (try with_reducible rfl); done); (try simp only [Act.put, List.getElem_toArray, List.getElem_cons_succ, List.getElem_cons_zero, List.setIfInBounds_toArray, List.set_cons_zero, List.set_cons_succ])
      refine wpAnyH_ready (rs := [20]) (by kernel_rfl) (by simp) ?_
      refine AllReadyH.cons rfl (fun K hK => ?_) AllReadyH.nil
      go_simp
      refine (HC.out.2.1 _).mono ?_; rintro e w9 ⟨rfl, hb⟩; have HB := Lib.hid (below_up HB.out hb); clear hb
      refine hK.out _ _ (HS.out _ HB.out) (fun hHeld => ?_)
      clear hK K
      (try simp only [Act.put, List.getElem_toArray, List.getElem_cons_succ, List.getElem_cons_zero, List.setIfInBounds_toArray, List.set_cons_zero, List.set_cons_succ])
      refine wpAnyH_take (i := 23) (v := ?_) rfl (by kernel_rfl) (by kernel_rfl) (by kernel_rfl) (fun _ _ _ h => h) (Or.inl ⟨by kernel_rfl, ?_⟩) (by assumption) ?_; rotate_left; focus (intro w hSw; (try dsimp only at hSw); go_simp; (try with_reducible rfl); done); (try simp only [Act.put, List.getElem_toArray, List.getElem_cons_succ, List.getElem_cons_zero, List.setIfInBounds_toArray, List.set_cons_zero, List.set_cons_succ])
      refine wpAnyH_take (i := 24) (v := ?_) rfl (by kernel_rfl) (by kernel_rfl) (by kernel_rfl) (fun _ _ _ h => h) (Or.inl ⟨by kernel_rfl, ?_⟩) (by assumption) ?_; rotate_left; focus (intro w hSw; (try dsimp only at hSw); go_simp; (try with_reducible rfl); done); (try simp only [Act.put, List.getElem_toArray, List.getElem_cons_succ, List.getElem_cons_zero, List.setIfInBounds_toArray, List.set_cons_zero, List.set_cons_succ])
      refine wpAnyH_take (i := 25) (v := ?_) rfl (by kernel_rfl) (by kernel_rfl) (by kernel_rfl) (fun _ _ _ h => h) (Or.inl ⟨by kernel_rfl, ?_⟩) (by assumption) ?_; rotate_left; focus (intro w hSw; (try dsimp only at hSw); go_simp; (try with_reducible rfl); done); (try simp only [Act.put, List.getElem_toArray, List.getElem_cons_succ, List.getElem_cons_zero, List.setIfInBounds_toArray, List.set_cons_zero, List.set_cons_succ])
      refine wpAnyH_take (i := 26) (v := ?_) rfl (by kernel_rfl) (by kernel_rfl) (by kernel_rfl) (fun _ _ _ h => h) (Or.inl ⟨by kernel_rfl, ?_⟩) (by assumption) ?_; rotate_left; focus (intro w hSw; (try dsimp only at hSw); go_simp; (try with_reducible rfl); done); (try simp only [Act.put, List.getElem_toArray, List.getElem_cons_succ, List.getElem_cons_zero, List.setIfInBounds_toArray, List.set_cons_zero, List.set_cons_succ])
      refine wpAnyH_done (by kernel_rfl) ?_ _
      all_goals
        go_wp2
        go_meet
        case rel => exact ⟨rfl, below_up H6.out.2.2.1 HB.out⟩
    · have e1 : (c == 0) = false := by simpa using hc
      have e2 : (c != 0) = true := by simpa using hc
      have e3 : ¬ c = 0 := hc
      clear hc
      have hck := fun (W : World) => chkp_ok p W
      simp only [HG.out.2.2.2] at hck
      have HC := Lib.hid hck; clear hck
      have HQ := fun (W : World) (hb : Below w6.heap.size w6 W) => cells4 (block_up H6.out.2.2.2 hb)
      have HQ := Lib.hid HQ
      clear q0 q1 q2 q3
      have hS : ∀ W : World, Below w6.heap.size w6 W → (W.cell? ⟨w.heap.size, 0, none⟩ = some (.int .i64 p.id) ∧ W.cell? ⟨w.heap.size, 1, none⟩ = some (.int .u32 (p.x : Nat)) ∧ W.cell? ⟨w.heap.size, 2, none⟩ = some (.int .u32 (p.y : Nat)) ∧ W.cell? ⟨w.heap.size, 3, none⟩ = some (.string p.d) ∧ Below w6.heap.size w6 W) := fun W hb => by
        obtain ⟨q0, q1, q2, q3⟩ := HQ.out _ hb
        exact ⟨q0, q1, q2, q3, hb⟩
      have HS := Lib.hid hS; clear hS
      refine wp_region_held_drew (S := fun W => W.cell? ⟨w.heap.size, 0, none⟩ = some (.int .i64 p.id) ∧ W.cell? ⟨w.heap.size, 1, none⟩ = some (.int .u32 (p.x : Nat)) ∧ W.cell? ⟨w.heap.size, 2, none⟩ = some (.int .u32 (p.y : Nat)) ∧ W.cell? ⟨w.heap.size, 3, none⟩ = some (.string p.d) ∧ Below w6.heap.size w6 W) (by kernel_rfl) (HS.out _ below_drew1) (fun hHeld => ?_)
      refine wpAnyH_take (i := 0) (v := ?_) rfl (by kernel_rfl) (by kernel_rfl) (by kernel_rfl) (fun _ _ _ h => h) (Or.inl ⟨by kernel_rfl, ?_⟩) (by assumption) ?_; rotate_left; focus (intro w hSw; (try dsimp only at hSw); go_simp; (try with_reducible rfl); done); (try simp only [Act.put, List.getElem_toArray, List.getElem_cons_succ, List.getElem_cons_zero, List.setIfInBounds_toArray, List.set_cons_zero, List.set_cons_succ])
      refine wpAnyH_take (i := 2) (v := ?_) rfl (by kernel_rfl) (by kernel_rfl) (by kernel_rfl) (fun _ _ _ h => h) (Or.inl ⟨by kernel_rfl, ?_⟩) (by assumption) ?_; rotate_left; focus (intro w hSw; (try dsimp only at hSw); go_simp; (try with_reducible rfl); done); (try simp only [Act.put, List.getElem_toArray, List.getElem_cons_succ, List.getElem_cons_zero, List.setIfInBounds_toArray, List.set_cons_zero, List.set_cons_succ])
      refine wpAnyH_ready (rs := [1]) (by kernel_rfl) (by simp) ?_
      refine AllReadyH.cons rfl (fun K hK => ?_) AllReadyH.nil
      go_simp
      refine (HC.out _).mono ?_; rintro e w7 ⟨rfl, hb⟩; have HB := Lib.hid (below_dr2 hb); clear hb
      refine hK.out _ _ (HS.out _ HB.out) (fun hHeld => ?_)
      clear hK K
      (try simp only [Act.put, List.getElem_toArray, List.getElem_cons_succ, List.getElem_cons_zero, List.setIfInBounds_toArray, List.set_cons_zero, List.set_cons_succ])
      refine wpAnyH_take (i := 3) (v := ?_) rfl (by kernel_rfl) (by kernel_rfl) (by kernel_rfl) (fun _ _ _ h => h) (Or.inl ⟨by kernel_rfl, ?_⟩) (by assumption) ?_; rotate_left; focus (intro w hSw; (try dsimp only at hSw); go_simp; (try with_reducible rfl); done); (try simp only [Act.put, List.getElem_toArray, List.getElem_cons_succ, List.getElem_cons_zero, List.setIfInBounds_toArray, List.set_cons_zero, List.set_cons_succ])
      refine wpAnyH_take (i := 4) (v := ?_) rfl (by kernel_rfl) (by kernel_rfl) (by kernel_rfl) (fun _ _ _ h => h) (Or.inl ⟨by kernel_rfl, ?_⟩) (by assumption) ?_; rotate_left; focus (intro w hSw; (try dsimp only at hSw); go_simp; (try with_reducible rfl); done); (try simp only [Act.put, List.getElem_toArray, List.getElem_cons_succ, List.getElem_cons_zero, List.setIfInBounds_toArray, List.set_cons_zero, List.set_cons_succ])
      refine wpAnyH_take (i := 5) (v := ?_) rfl (by kernel_rfl) (by kernel_rfl) (by kernel_rfl) (fun _ _ _ h => h) (Or.inl ⟨by kernel_rfl, ?_⟩) (by assumption) ?_; rotate_left; focus (intro w hSw; (try dsimp only at hSw); go_simp; (try with_reducible rfl); done); (try simp only [Act.put, List.getElem_toArray, List.getElem_cons_succ, List.getElem_cons_zero, List.setIfInBounds_toArray, List.set_cons_zero, List.set_cons_succ])
      refine wpAnyH_take (i := 6) (v := ?_) rfl (by kernel_rfl) (by kernel_rfl) (by kernel_rfl) (fun _ _ _ h => h) (Or.inl ⟨by kernel_rfl, ?_⟩) (by assumption) ?_; rotate_left; focus (intro w hSw; (try dsimp only at hSw); go_simp; (try with_reducible rfl); done); (try simp only [Act.put, List.getElem_toArray, List.getElem_cons_succ, List.getElem_cons_zero, List.setIfInBounds_toArray, List.set_cons_zero, List.set_cons_succ])
      refine wpAnyH_take (i := 7) (v := ?_) rfl (by kernel_rfl) (by kernel_rfl) (by kernel_rfl) (fun _ _ _ h => h) (Or.inl ⟨by kernel_rfl, ?_⟩) (by assumption) ?_; rotate_left; focus (intro w hSw; (try dsimp only at hSw); go_simp; (try with_reducible rfl); done); (try simp only [Act.put, List.getElem_toArray, List.getElem_cons_succ, List.getElem_cons_zero, List.setIfInBounds_toArray, List.set_cons_zero, List.set_cons_succ])
      refine wpAnyH_take (i := 8) (v := undef) rfl (by kernel_rfl) (by kernel_rfl) (by kernel_rfl) (fun _ _ _ h => h) (Or.inr ⟨by kernel_rfl, rfl⟩) (by assumption) ?_; (try simp only [Act.put, List.getElem_toArray, List.getElem_cons_succ, List.getElem_cons_zero, List.setIfInBounds_toArray, List.set_cons_zero, List.set_cons_succ])
      refine wpAnyH_take (i := 9) (v := undef) rfl (by kernel_rfl) (by kernel_rfl) (by kernel_rfl) (fun _ _ _ h => h) (Or.inr ⟨by kernel_rfl, rfl⟩) (by assumption) ?_; (try simp only [Act.put, List.getElem_toArray, List.getElem_cons_succ, List.getElem_cons_zero, List.setIfInBounds_toArray, List.set_cons_zero, List.set_cons_succ])
      refine wpAnyH_take (i := 10) (v := undef) rfl (by kernel_rfl) (by kernel_rfl) (by kernel_rfl) (fun _ _ _ h => h) (Or.inr ⟨by kernel_rfl, rfl⟩) (by assumption) ?_; (try simp only [Act.put, List.getElem_toArray, List.getElem_cons_succ, List.getElem_cons_zero, List.setIfInBounds_toArray, List.set_cons_zero, List.set_cons_succ])
      refine wpAnyH_take (i := 11) (v := undef) rfl (by kernel_rfl) (by kernel_rfl) (by kernel_rfl) (fun _ _ _ h => h) (Or.inr ⟨by kernel_rfl, rfl⟩) (by assumption) ?_; (try simp only [Act.put, List.getElem_toArray, List.getElem_cons_succ, List.getElem_cons_zero, List.setIfInBounds_toArray, List.set_cons_zero, List.set_cons_succ])
      refine wpAnyH_take (i := 12) (v := undef) rfl (by kernel_rfl) (by kernel_rfl) (by kernel_rfl) (fun _ _ _ h => h) (Or.inr ⟨by kernel_rfl, rfl⟩) (by assumption) ?_; (try simp only [Act.put, List.getElem_toArray, List.getElem_cons_succ, List.getElem_cons_zero, List.setIfInBounds_toArray, List.set_cons_zero, List.set_cons_succ])
      refine wpAnyH_take (i := 13) (v := undef) rfl (by kernel_rfl) (by kernel_rfl) (by kernel_rfl) (fun _ _ _ h => h) (Or.inr ⟨by kernel_rfl, rfl⟩) (by assumption) ?_; (try simp only [Act.put, List.getElem_toArray, List.getElem_cons_succ, List.getElem_cons_zero, List.setIfInBounds_toArray, List.set_cons_zero, List.set_cons_succ])
      refine wpAnyH_take (i := 14) (v := undef) rfl (by kernel_rfl) (by kernel_rfl) (by kernel_rfl) (fun _ _ _ h => h) (Or.inr ⟨by kernel_rfl, rfl⟩) (by assumption) ?_; (try simp only [Act.put, List.getElem_toArray, List.getElem_cons_succ, List.getElem_cons_zero, List.setIfInBounds_toArray, List.set_cons_zero, List.set_cons_succ])
      refine wpAnyH_take (i := 15) (v := undef) rfl (by kernel_rfl) (by kernel_rfl) (by kernel_rfl) (fun _ _ _ h => h) (Or.inr ⟨by kernel_rfl, rfl⟩) (by assumption) ?_; (try simp only [Act.put, List.getElem_toArray, List.getElem_cons_succ, List.getElem_cons_zero, List.setIfInBounds_toArray, List.set_cons_zero, List.set_cons_succ])
      refine wpAnyH_take (i := 16) (v := undef) rfl (by kernel_rfl) (by kernel_rfl) (by kernel_rfl) (fun _ _ _ h => h) (Or.inr ⟨by kernel_rfl, rfl⟩) (by assumption) ?_; (try simp only [Act.put, List.getElem_toArray, List.getElem_cons_succ, List.getElem_cons_zero, List.setIfInBounds_toArray, List.set_cons_zero, List.set_cons_succ])
      refine wpAnyH_take (i := 17) (v := undef) rfl (by kernel_rfl) (by kernel_rfl) (by kernel_rfl) (fun _ _ _ h => h) (Or.inr ⟨by kernel_rfl, rfl⟩) (by assumption) ?_; (try simp only [Act.put, List.getElem_toArray, List.getElem_cons_succ, List.getElem_cons_zero, List.setIfInBounds_toArray, List.set_cons_zero, List.set_cons_succ])
      refine wpAnyH_take (i := 18) (v := undef) rfl (by kernel_rfl) (by kernel_rfl) (by kernel_rfl) (fun _ _ _ h => h) (Or.inr ⟨by kernel_rfl, rfl⟩) (by assumption) ?_; (try simp only [Act.put, List.getElem_toArray, List.getElem_cons_succ, List.getElem_cons_zero, List.setIfInBounds_toArray, List.set_cons_zero, List.set_cons_succ])
      refine wpAnyH_take (i := 19) (v := undef) rfl (by kernel_rfl) (by kernel_rfl) (by kernel_rfl) (fun _ _ _ h => h) (Or.inr ⟨by kernel_rfl, rfl⟩) (by assumption) ?_; (try simp only [Act.put, List.getElem_toArray, List.getElem_cons_succ, List.getElem_cons_zero, List.setIfInBounds_toArray, List.set_cons_zero, List.set_cons_succ])
      refine wpAnyH_take (i := 20) (v := undef) rfl (by kernel_rfl) (by kernel_rfl) (by kernel_rfl) (fun _ _ _ h => h) (Or.inr ⟨by kernel_rfl, rfl⟩) (by assumption) ?_; (try simp only [Act.put, List.getElem_toArray, List.getElem_cons_succ, List.getElem_cons_zero, List.setIfInBounds_toArray, List.set_cons_zero, List.set_cons_succ])
      refine wpAnyH_take (i := 21) (v := undef) rfl (by kernel_rfl) (by kernel_rfl) (by kernel_rfl) (fun _ _ _ h => h) (Or.inr ⟨by kernel_rfl, rfl⟩) (by assumption) ?_; (try simp only [Act.put, List.getElem_toArray, List.getElem_cons_succ, List.getElem_cons_zero, List.setIfInBounds_toArray, List.set_cons_zero, List.set_cons_succ])
      refine wpAnyH_take (i := 22) (v := undef) rfl (by kernel_rfl) (by kernel_rfl) (by kernel_rfl) (fun _ _ _ h => h) (Or.inr ⟨by kernel_rfl, rfl⟩) (by assumption) ?_; (try simp only [Act.put, List.getElem_toArray, List.getElem_cons_succ, List.getElem_cons_zero, List.setIfInBounds_toArray, List.set_cons_zero, List.set_cons_succ])
      refine wpAnyH_take (i := 23) (v := undef) rfl (by kernel_rfl) (by kernel_rfl) (by kernel_rfl) (fun _ _ _ h => h) (Or.inr ⟨by kernel_rfl, rfl⟩) (by assumption) ?_; (try simp only [Act.put, List.getElem_toArray, List.getElem_cons_succ, List.getElem_cons_zero, List.setIfInBounds_toArray, List.set_cons_zero, List.set_cons_succ])
      refine wpAnyH_take (i := 24) (v := undef) rfl (by kernel_rfl) (by kernel_rfl) (by kernel_rfl) (fun _ _ _ h => h) (Or.inr ⟨by kernel_rfl, rfl⟩) (by assumption) ?_; (try simp only [Act.put, List.getElem_toArray, List.getElem_cons_succ, List.getElem_cons_zero, List.setIfInBounds_toArray, List.set_cons_zero, List.set_cons_succ])
      refine wpAnyH_take (i := 25) (v := ?_) rfl (by kernel_rfl) (by kernel_rfl) (by kernel_rfl) (fun _ _ _ h => h) (Or.inl ⟨by kernel_rfl, ?_⟩) (by assumption) ?_; rotate_left; focus (intro w hSw; (try dsimp only at hSw); go_simp; (try with_reducible rfl); done); (try simp only [Act.put, List.getElem_toArray, List.getElem_cons_succ, List.getElem_cons_zero, List.setIfInBounds_toArray, List.set_cons_zero, List.set_cons_succ])
      refine wpAnyH_take (i := 26) (v := ?_) rfl (by kernel_rfl) (by kernel_rfl) (by kernel_rfl) (fun _ _ _ h => h) (Or.inl ⟨by kernel_rfl, ?_⟩) (by assumption) ?_; rotate_left; focus (intro w hSw; (try dsimp only at hSw); go_simp; (try with_reducible rfl); done); (try simp only [Act.put, List.getElem_toArray, List.getElem_cons_succ, List.getElem_cons_zero, List.setIfInBounds_toArray, List.set_cons_zero, List.set_cons_succ])
      refine wpAnyH_done (by kernel_rfl) ?_ _
      all_goals
        go_wp2
        go_meet
        case rel => exact ⟨rfl, below_up H6.out.2.2.1 HB.out⟩
  case rest =>
  obtain ⟨rfl, hbc⟩ := hcut
  have HB := Lib.hid hbc; clear hbc q0 q1 q2 q3
  obtain ⟨wd, hwd⟩ : ∃ x, x = wc := ⟨_, rfl⟩
  rw [← hwd] at HB ⊢
  clear hwd
  have hbr := fun (W : World) (hb : Below w2.heap.size w2 W) => HV.out.1.below (below_up HG.out.2.1 hb)
  have hop := open_w _ b wd (hbr _ HB.out) (by omega)
  have hgp := fun (W : World) (hb : Below w2.heap.size w2 W) => getpoint_ok _ b W (hbr _ hb) hbl
  have HX := Lib.hid (And.intro hop hgp); clear hop hgp hbr
  go_wp2_with fail
  refine HX.out.1.mono ?_; rintro e w8 ⟨q, rfl, hI, hb8⟩
  have H8 := Lib.hid (And.intro hI (below_up HB.out hb8)); clear hI hb8
  go_wp2_with fail
  have hgo := rdP_gpt b
  obtain ⟨O, hO⟩ : ∃ O, rdP (inOk b) = O := ⟨_, rfl⟩
  obtain ⟨G, hG⟩ : ∃ G, gpt b = G := ⟨_, rfl⟩
  have hget := pget_ok (s := inOk b) H8.out.1 (by show b.length ≤ _; omega)
  rw [hO] at hget hgo
  rw [hG] at hgo
  have HGO := Lib.hid (And.intro hgo (And.intro hget hG)); clear hgo hget hO
  refine HGO.out.2.1.mono ?_; rintro e w9 ⟨rfl, hI, hK⟩
  have hz := alloc_at (w := w9) (.cells #[.int .i64 O.out.id, .int .u32 (O.out.x : Nat), .int .u32 (O.out.y : Nat), .string O.out.d] 53) rfl
  have hb9 := below_up (below_up HB.out hI.bel) (below_alloc1 w9 (.cells #[.int .i64 O.out.id, .int .u32 (O.out.x : Nat), .int .u32 (O.out.y : Nat), .string O.out.d] 53))
  have hI := hI.up (below_alloc1 w9 (.cells #[.int .i64 O.out.id, .int .u32 (O.out.x : Nat), .int .u32 (O.out.y : Nat), .string O.out.d] 53))
  have hgp := HX.out.2 _ hb9
  rw [HGO.out.2.2] at hgp
  have H9 := Lib.hid (And.intro hz (And.intro hb9 (And.intro hI hgp))); clear hz hb9 hI hgp hK
  go_wp2_with fail
  refine H9.out.2.2.2.mono ?_; rintro e w10 ⟨rfl, hb⟩
  have hz2 := alloc_at (w := w10) (.cells #[.int .i64 G.1.id, .int .u32 (G.1.x : Nat), .int .u32 (G.1.y : Nat), .string G.1.d] 53) rfl
  have hba := below_up hb (below_alloc1 w10 (.cells #[.int .i64 G.1.id, .int .u32 (G.1.x : Nat), .int .u32 (G.1.y : Nat), .string G.1.d] 53))
  have hz1 := block_up H9.out.1 hba
  have hb10 := below_up H9.out.2.1 hba
  have hI := H9.out.2.2.1.up hba
  go_upto_region 16 with (fail)
  generalize (w10.alloc _) = w11 at *
  have hg := HGO.out.1
  obtain ⟨g1, g2, g3⟩ := hg
  rw [← g1] at hz2
  have e0 := eqlP_same O.out
  obtain ⟨n, hn⟩ : ∃ n, G.2 = n := ⟨_, rfl⟩
  rw [hn] at g2 g3 ⊢
  obtain ⟨y0, y1, y2, y3⟩ := cells4 hz1
  obtain ⟨x0, x1, x2, x3⟩ := cells4 hz2
  rw [g2]
  have HN := Lib.hid (And.intro hI (And.intro hb10 g3)); clear hI hb10 hz1 hz2 hba hb g3 g1 hn g2
  generalize O.out = o at *
  by_cases hn0 : 0 < n
  · obtain ⟨gs, gl⟩ := HN.out.2.2 hn0
    have e1 : decide (0 < n) = true := decide_eq_true hn0
    have e1' : decide ((0 : Int) < n) = true := decide_eq_true (by omega)
    have hI := HN.out.1
    rw [gs] at hI
    have hle := hI.left
    rw [show (inOk (b.drop n)).b.length = b.length - n from List.length_drop] at hle
    have e2 : ((b.length - n : Nat) : Int) = (b.length : Int) - n := by omega
    rw [e2] at hle
    have HL := Lib.hid hle; clear hle hI gs e2
    rw [e1]
    clear e1
    go_wp2_with (go_at_call 34; refine HL.out.mono ?_; rintro e w12 ⟨rfl, rfl⟩)
    go_ret
    exact ⟨ret_bool (by simp), below_up HG.out.2.1 HN.out.2.1⟩
  · have hn1 : n = 0 := by omega
    subst hn1
    have e1 : decide (0 < 0) = false := by decide
    rw [e1]
    clear e1
    go_wp2
    go_ret
    exact ⟨ret_bool (by simp), below_up HG.out.2.1 HN.out.2.1⟩
end Go.Proofs.Ytkjapmafipnmpaa.Pt
