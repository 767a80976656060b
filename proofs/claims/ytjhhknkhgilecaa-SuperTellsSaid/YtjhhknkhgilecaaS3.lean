/- The walks over croftlaw12.alive and SuperTells. -/
import Derived.Test.YtjhhknkhgilecaaS2
import Derived.Test.YtjhhknkhgilecaaF7
import Derived.Test.YtjhhknkhgilecaaF4
import Derived.Deep.DeepCutAuto
import Derived.Deep.CutBlock
namespace Go.Proofs.Ytjhhknkhgilecaa.Su
open Go.RowKit Lt Fm
set_option linter.unusedVariables false
set_option linter.unusedSimpArgs false
set_option maxHeartbeats 4000000 in
set_option maxRecDepth 100000 in
theorem alive_ok (w : World) : Calls Try.prog 12 #[] w fun e w' => e = .returned (.bool true) ∧ Below w.heap.size w w' := by
  have hsl := secB_len 1 StS.zero (gB ⟨6, 4⟩) (by decide)
  have h1 := fun (W : World) => sput_ok ⟨5, 4⟩ W
  have h2 := fun (W : World) => sput_ok ⟨6, 4⟩ W
  simp only [show GeS.chk ⟨5, 4⟩ = 4 from by decide] at h1
  simp only [show GeS.chk ⟨6, 4⟩ = 0 from by decide, if_pos] at h2
  generalize secB 1 StS.zero (gB ⟨6, 4⟩) = SB at *
  have k1 : ((SB.length : Int) == 256) = true := by rw [beq_iff_eq]; omega
  have HC := Lib.hid (And.intro h1 h2); clear h1 h2 hsl
  go_enter Try.func12, Try.ntmps12
  go_wp2_with fail
  refine (HC.out.1 _).mono ?_; rintro e w1 ⟨x, rfl, _, hb⟩
  have H1 := Lib.hid hb; clear hb
  go_wp2_with fail
  refine (HC.out.2 _).mono ?_; rintro e w2 ⟨y, rfl, hy, hb⟩
  obtain ⟨Ay, cy, rfl, _, _, _⟩ := id hy
  have H2 := Lib.hid (below_up H1.out hb); clear hb hy
  go_wp2
  go_ret
  exact ⟨rfl, H2.out⟩
theorem eqlG (x y : GeS) (w : World) : (binOp .eql 23 (gv x) (gv y)).run Try.prog w = .ok (.bool (x.seg == y.seg && x.siz == y.siz)) w := by
  refine eql_of (eqs_of Try.underlying23 (by kernel_rfl) ?_)
  refine eqf_cons (by rfl) (by go_simp; rfl) (by go_simp; rfl) (by go_simp) ?_
  exact eqf_last (by rfl) (by go_simp; rfl) (by go_simp; rfl) (by go_simp)
theorem neqG (x y : GeS) (w : World) : (binOp .neq 23 (gv x) (gv y)).run Try.prog w = .ok (.bool (!(x.seg == y.seg && x.siz == y.siz))) w := by
  refine neq_of (eqs_of Try.underlying23 (by kernel_rfl) ?_)
  refine eqf_cons (by rfl) (by go_simp; rfl) (by go_simp; rfl) (by go_simp) ?_
  exact eqf_last (by rfl) (by go_simp; rfl) (by go_simp; rfl) (by go_simp)
theorem eqlG_same (x : GeS) (w : World) : (binOp .eql 23 (gv x) (gv x)).run Try.prog w = .ok (.bool true) w := by rw [eqlG]; simp
theorem neqG_same (x : GeS) (w : World) : (binOp .neq 23 (gv x) (gv x)).run Try.prog w = .ok (.bool false) w := by rw [neqG]; simp
/-- A head comes back. -/
theorem head_back {g : GeS} (h : g.chk = 0) : sOk (secB 1 StS.zero (gB g)) ∧ gOf (tOf (secB 1 StS.zero (gB g))) = g := by
  obtain ⟨h1, h2, h3, h4⟩ := GeS.chk_zero h
  obtain ⟨b1, b2, b3, b4⟩ := sec_back (k := 1) (s := StS.zero) (t := gB g) (by decide) (by unfold gB; simp)
  have hg : gOf (gB g) = g := by
    obtain ⟨s, z⟩ := g
    simp only at h1 h2 h3 h4
    obtain ⟨S, rfl⟩ := Int.eq_ofNat_of_zero_le (by omega : 0 ≤ s)
    obtain ⟨Z, rfl⟩ := Int.eq_ofNat_of_zero_le (by omega : 0 ≤ z)
    unfold gOf gB
    simp
    omega
  refine ⟨⟨b1, by omega, b3, by rw [b4]; rfl, by rw [b4, hg]; exact h⟩, by rw [b4, hg]⟩
end Go.Proofs.Ytjhhknkhgilecaa.Su
