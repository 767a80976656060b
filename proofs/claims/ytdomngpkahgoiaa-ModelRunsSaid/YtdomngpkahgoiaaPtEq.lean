/- Points compared; the walk over croftplain.Points (lists that are one). -/
import Derived.Test.YtdomngpkahgoiaaPtCl
import Derived.Test.YtdomngpkahgoiaaArr
namespace Go.Proofs.Ytdomngpkahgoiaa.St
open Go.RowKit Rg Pt
set_option linter.unusedVariables false
set_option linter.unusedSimpArgs false
def eqPt (x y : PtS) : Bool := (x.id == y.id) && (((x.x : Int) == (y.x : Int)) && (((x.y : Int) == (y.y : Int)) && (x.d == y.d)))
theorem eqPt_iff (x y : PtS) : eqPt x y = true ↔ x = y := by
  obtain ⟨a, b, c, d⟩ := x
  obtain ⟨a', b', c', d'⟩ := y
  unfold eqPt
  simp only [Bool.and_eq_true, beq_iff_eq, PtS.mk.injEq]
  constructor
  · rintro ⟨h1, h2, h3, h4⟩; exact ⟨h1, by omega, by omega, (MapKept.bytes_beq _ _).1 h4⟩
  · rintro ⟨h1, h2, h3, h4⟩; exact ⟨h1, by omega, by omega, (MapKept.bytes_beq _ _).2 h4⟩
theorem neqPt (x y : PtS) (w : World) : (binOp .neq 56 (pv x) (pv y)).run Try.prog w = .ok (.bool (!eqPt x y)) w := by
  unfold eqPt
  refine neq_of (eqs_of Try.underlying56 (by kernel_rfl) ?_)
  refine eqf_cons (by rfl) (by go_simp; rfl) (by go_simp; rfl) (by go_simp) ?_
  refine eqf_cons (by rfl) (by go_simp; rfl) (by go_simp; rfl) (by go_simp) ?_
  refine eqf_cons (by rfl) (by go_simp; rfl) (by go_simp; rfl) (by go_simp) ?_
  exact eqf_last (by rfl) (by go_simp; rfl) (by go_simp; rfl) (by go_simp; exact (beq_toListBytes _ _).symm)
theorem neqPt_same (x : PtS) (w : World) : (binOp .neq 56 (pv x) (pv x)).run Try.prog w = .ok (.bool false) w := by
  rw [neqPt, (eqPt_iff x x).2 rfl]; rfl
theorem p_at {W : World} {A : Option Addr} {n c : Nat} {l : List PtS} (h : PRow W (.slice A n c) l) {k : Nat} (hk : k < l.length) :
    ∃ g o, A = some ⟨g, o, none⟩ ∧ (W.cell? ⟨g, o + k * 4, none⟩ = some (.int .i64 l[k].id) ∧ W.cell? ⟨g, o + k * 4 + 1, none⟩ = some (.int .u32 (l[k].x : Nat)) ∧ W.cell? ⟨g, o + k * 4 + 2, none⟩ = some (.int .u32 (l[k].y : Nat)) ∧ W.cell? ⟨g, o + k * 4 + 3, none⟩ = some (.string l[k].d)) := by
  obtain ⟨g, o, e, _, ci⟩ := SRd.get h PtS.cells_len (by decide) hk
  refine ⟨g, o, e, ?_, ?_, ?_, ?_⟩
  · simpa [PtS.cells] using ci 0 (by decide)
  · simpa [PtS.cells] using ci 1 (by decide)
  · simpa [PtS.cells] using ci 2 (by decide)
  · simpa [PtS.cells] using ci 3 (by decide)
abbrev AtP (W : World) (g o k : Nat) (x : PtS) : Prop := W.cell? ⟨g, o + k * 4, none⟩ = some (.int .i64 x.id) ∧ W.cell? ⟨g, o + k * 4 + 1, none⟩ = some (.int .u32 (x.x : Nat)) ∧ W.cell? ⟨g, o + k * 4 + 2, none⟩ = some (.int .u32 (x.y : Nat)) ∧ W.cell? ⟨g, o + k * 4 + 3, none⟩ = some (.string x.d)
set_option maxHeartbeats 4000000 in
set_option maxRecDepth 100000 in
theorem points_same (v1 v2 : Value) (l : List PtS) (w : World) (h1 : PRow w v1 l) (h2 : PRow w v2 l) (hl : l.length ≤ 140737488355328) :
    Calls Try.prog 32 #[v1, v2] w fun e w' => e = .returned (.bool true) ∧ Below w.heap.size w w' := by
  have HV := Lib.hid (And.intro h1 h2)
  obtain ⟨A1, c1, rfl, _, _⟩ := h1
  obtain ⟨A2, c2, rfl, _, _⟩ := h2
  go_enter Try.func32, Try.ntmps32
  go_wp2_with fail
  go_loopw [5] (fun vj W => ∃ j : Nat, vj = .int .i64 j ∧ j ≤ l.length ∧ Below w.heap.size w W) (fun vj _ => l.length - (intOf vj).toNat)
  case atStart => exact ⟨0, rfl, Nat.zero_le _, Below.refl _ _⟩
  case round =>
  obtain ⟨j, rfl, hj, hB⟩ := hrel
  have HB := Lib.hid hB
  clear hB
  by_cases hjl : j < l.length
  · have dj : decide (j < l.length) = true := decide_eq_true hjl
    have dji : decide ((j : Int) < l.length) = true := decide_eq_true (by omega)
    have bj : (j : Int) < l.length := by omega
    have hd := below_up HB.out (below_drew1 (w := wr))
    have HD := Lib.hid hd
    obtain ⟨g1, o1, rfl, f1⟩ := p_at (HV.out.1.below hd) hjl
    obtain ⟨g2, o2, rfl, f2⟩ := p_at (HV.out.2.below hd) hjl
    have hn := neqPt_same l[j]
    generalize l[j] = x at *
    clear hd
    go_upto_region 6 with (fail)
    refine beginS (S := fun W => AtP W g1 o1 j x ∧ AtP W g2 o2 j x) [] (by kernel_rfl) ⟨f1, f2⟩ (fun hHeld0 => ?_)
    generalize (World.drew wr) = W0 at *
    clear f1 f2
    refine takeF (i := 0) (v := ?_) rfl (by kernel_rfl) (fun _ _ _ h => h) (Or.inl ⟨by kernel_rfl, ?_⟩) (by assumption) ?_; rotate_left; (focus (intro w _; go_simp; (try with_reducible rfl); done)); (try simp only [Act.put, List.getElem_toArray, List.getElem_cons_succ, List.getElem_cons_zero, List.setIfInBounds_toArray, List.set_cons_zero, List.set_cons_succ])
    refine takeF (i := 1) (v := ?_) rfl (by kernel_rfl) (fun _ _ _ h => h) (Or.inl ⟨by kernel_rfl, ?_⟩) (by assumption) ?_; rotate_left; (focus (intro w _; go_simp; (try with_reducible rfl); done)); (try simp only [Act.put, List.getElem_toArray, List.getElem_cons_succ, List.getElem_cons_zero, List.setIfInBounds_toArray, List.set_cons_zero, List.set_cons_succ])
    refine takeF (i := 2) (v := ?_) rfl (by kernel_rfl) (fun _ _ _ h => h) (Or.inl ⟨by kernel_rfl, ?_⟩) (by assumption) ?_; rotate_left; (focus (intro w _; go_simp; (try with_reducible rfl); done)); (try simp only [Act.put, List.getElem_toArray, List.getElem_cons_succ, List.getElem_cons_zero, List.setIfInBounds_toArray, List.set_cons_zero, List.set_cons_succ])
    refine takeH (i := 3) (v := ?_) rfl (by kernel_rfl) (fun _ _ _ h => h) (Or.inl ⟨by kernel_rfl, ?_⟩) (by assumption) ?_; rotate_left; (focus (intro w hSw; (try dsimp only at hSw); go_simp; (try with_reducible rfl); done)); (try simp only [Act.put, List.getElem_toArray, List.getElem_cons_succ, List.getElem_cons_zero, List.setIfInBounds_toArray, List.set_cons_zero, List.set_cons_succ])
    refine takeF (i := 4) (v := ?_) rfl (by kernel_rfl) (fun _ _ _ h => h) (Or.inl ⟨by kernel_rfl, ?_⟩) (by assumption) ?_; rotate_left; (focus (intro w _; go_simp; (try with_reducible rfl); done)); (try simp only [Act.put, List.getElem_toArray, List.getElem_cons_succ, List.getElem_cons_zero, List.setIfInBounds_toArray, List.set_cons_zero, List.set_cons_succ])
    refine takeF (i := 5) (v := ?_) rfl (by kernel_rfl) (fun _ _ _ h => h) (Or.inl ⟨by kernel_rfl, ?_⟩) (by assumption) ?_; rotate_left; (focus (intro w _; go_simp; (try with_reducible rfl); done)); (try simp only [Act.put, List.getElem_toArray, List.getElem_cons_succ, List.getElem_cons_zero, List.setIfInBounds_toArray, List.set_cons_zero, List.set_cons_succ])
    refine takeF (i := 6) (v := ?_) rfl (by kernel_rfl) (fun _ _ _ h => h) (Or.inl ⟨by kernel_rfl, ?_⟩) (by assumption) ?_; rotate_left; (focus (intro w _; go_simp; (try with_reducible rfl); done)); (try simp only [Act.put, List.getElem_toArray, List.getElem_cons_succ, List.getElem_cons_zero, List.setIfInBounds_toArray, List.set_cons_zero, List.set_cons_succ])
    refine takeH (i := 7) (v := ?_) rfl (by kernel_rfl) (fun _ _ _ h => h) (Or.inl ⟨by kernel_rfl, ?_⟩) (by assumption) ?_; rotate_left; (focus (intro w hSw; (try dsimp only at hSw); go_simp; (try with_reducible rfl); done)); (try simp only [Act.put, List.getElem_toArray, List.getElem_cons_succ, List.getElem_cons_zero, List.setIfInBounds_toArray, List.set_cons_zero, List.set_cons_succ])
    refine takeF (i := 8) (v := ?_) rfl (by kernel_rfl) (fun _ _ _ h => h) (Or.inl ⟨by kernel_rfl, ?_⟩) (by assumption) ?_; rotate_left; (focus (intro w _; go_simp; (try with_reducible rfl); done)); (try simp only [Act.put, List.getElem_toArray, List.getElem_cons_succ, List.getElem_cons_zero, List.setIfInBounds_toArray, List.set_cons_zero, List.set_cons_succ])
    clear hHeld0
    refine doneS (by kernel_rfl) ?_ _
    go_wp2
    exact ⟨⟨j + 1, by go_num, by omega, HD.out⟩, by simp [intOf]; omega⟩
  · obtain rfl : j = l.length := by omega
    have dj : decide (l.length < l.length) = false := decide_eq_false (by omega)
    have dji : decide ((l.length : Int) < l.length) = false := decide_eq_false (by omega)
    go_wp2
    go_ret
    exact ⟨rfl, HB.out⟩
end Go.Proofs.Ytdomngpkahgoiaa.St
