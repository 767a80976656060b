/- The walks over point.Less, point.Find; points read in parts. -/
import Derived.Test.YtdomngpkahgoiaaPtEq
import Derived.Test.YtdomngpkahgoiaaPtSort
import Derived.Test.YtdomngpkahgoiaaSt10
namespace Go.Proofs.Ytdomngpkahgoiaa.St
open Go.RowKit Rg Pt
set_option linter.unusedVariables false
set_option linter.unusedSimpArgs false
theorem prow_parts {W : World} {A : Option Addr} {n c : Nat} {own : List PtS} (h : PRow W (.slice A n c) own) {k : Nat} (hk : k ≤ own.length) :
    Rd W A ((own.take k).flatMap PtS.cells) ∧ Rd W (if c = k then A else Option.map (fun x => x.add (k * 4)) A) ((own.drop k).flatMap PtS.cells) := by
  have hl := SRd.len h
  obtain ⟨A1, c1, e1, _, h1⟩ := SRd.take h PtS.cells_len hk c (by omega)
  obtain ⟨A2, c2, e2, _, h2⟩ := SRd.drop h PtS.cells_len hk c (by omega)
  injection e1 with e1 _ _
  injection e2 with e2 _ _
  subst e1 e2
  refine ⟨h1, ?_⟩
  split
  · rw [List.drop_of_length_le (by omega)]; exact Rd.nil _ _
  · exact h2
theorem rd_grown {W W' : World} {A : Option Addr} {xs : List Value} {r : Option Nat} (h : Rd W A xs) (hg : W.grownBy W' r) (hn : ∀ ad, A = some ad → r ≠ some ad.block) : Rd W' A xs :=
  h.fr ((Fr.refl (fun k => r = some k) W).grown hg (fun k e _ => e)) hn
theorem find1_ok {W : World} {bx : Nat} {id : Int} (hb : W.cell? ⟨bx, 0, none⟩ = some (.int .i64 id)) (x : PtS) :
    Calls Try.prog 79 #[pv x, .pointer (some ⟨bx, 0, none⟩)] W fun e w' => e = .returned (.bool (x.id == id)) ∧ Below W.heap.size W w' := by
  obtain ⟨xi, xx, xy, xd⟩ := x
  simp only
  have hb2 := cell_alloc hb (.cells #[.int .i64 xi, .int .u32 (xx : Nat), .int .u32 (xy : Nat), .string xd] 56)
  go_enter Try.func79, Try.ntmps79
  go_wp2
  go_ret
  exact ⟨rfl, below_alloc1 _ _⟩
set_option maxHeartbeats 4000000 in
set_option maxRecDepth 100000 in
theorem pidx_ok {w : World} {bx : Nat} {id : Int} (hb : w.cell? ⟨bx, 0, none⟩ = some (.int .i64 id)) (v : Value) (l : List PtS) (hv : PRow w v l) (hl : l.length ≤ 140737488355328) :
    Calls Try.prog 78 #[v, .func (.func 79) #[] #[.pointer (some ⟨bx, 0, none⟩)]] w fun e w' => e = .returned (.int .i64 (fidx (fun x : PtS => x.id == id) l)) ∧ Below w.heap.size w w' := by
  have HV := Lib.hid hv
  have HC := Lib.hid hb
  clear hb
  obtain ⟨A, cap, rfl, _, _⟩ := hv
  go_enter Try.func78, Try.ntmps78
  go_wp2_with fail
  go_loopw [8] (fun vi W => ∃ k : Nat, k ≤ l.length ∧ vi = .int .i64 k ∧ (l.take k).any (fun x : PtS => x.id == id) = false ∧ Below w.heap.size w W) (fun vi _ => l.length - (intOf vi).toNat)
  case atStart => exact ⟨0, by omega, rfl, by simp, Below.refl _ _⟩
  obtain ⟨k, hk, rfl, hany, hbel⟩ := hrel
  have HO := Lib.hid (And.intro hany hbel); clear hany hbel
  by_cases hlt : k < l.length
  · have d : decide ((k : Int) < l.length) = true := decide_eq_true (by omega)
    have dn : decide (k < l.length) = true := decide_eq_true hlt
    have bk : (k : Int) < l.length := by omega
    obtain ⟨g, o, rfl, ⟨c0, c1, c2, c3⟩⟩ := p_at (HV.out.below HO.out.2) hlt
    have hs := any_take_succ (fun x : PtS => x.id == id) l k hlt
    rw [HO.out.1, Bool.false_or] at hs
    have hat := fidx_at (fun x : PtS => x.id == id) l k hlt HO.out.1
    generalize l[k] = x at *
    have HS := Lib.hid (And.intro hs hat); clear hs hat
    have HF := Lib.hid (find1_ok (cell_up HC.out HO.out.2) x)
    go_wp2_with fail
    (with_reducible refine HF.out.mono ?_); rintro e w1 ⟨rfl, hb⟩
    have H1 := Lib.hid (below_up HO.out.2 hb); clear hb HF
    obtain ⟨b, hb⟩ : ∃ b, (x.id == id) = b := ⟨_, rfl⟩
    rw [hb]
    have HB := Lib.hid hb; clear hb
    cases b with
    | true =>
      go_wp2
      go_ret
      exact ⟨ret_int (HS.out.2 HB.out).symm, H1.out⟩
    | false =>
      go_wp2
      exact ⟨⟨k + 1, by omega, by simp, by rw [HS.out.1]; exact HB.out, H1.out⟩, by simp [intOf]; omega⟩
  · have hkl : k = l.length := by omega
    subst hkl
    have d : decide ((l.length : Int) < l.length) = false := decide_eq_false (by omega)
    have dn : decide (l.length < l.length) = false := decide_eq_false (by omega)
    go_wp2
    go_ret
    have := HO.out.1
    rw [List.take_length] at this
    exact ⟨ret_int (fidx_none _ _ this).symm, HO.out.2⟩
theorem pfind_ok (v : Value) (l : List PtS) (id : Int) (w : World) (hv : PRow w v l) (hl : l.length ≤ 140737488355328) :
    Calls Try.prog 57 #[v, .int .i64 id] w fun e w' => e = .returned (.int .i64 (fidx (fun x : PtS => x.id == id) l)) ∧ Below w.heap.size w w' := by
  have hb := below_alloc1 w (.cells #[.int .i64 id] 3)
  have q := alloc_at (w := w) (.cells #[.int .i64 id] 3) rfl
  have HI := Lib.hid (pidx_ok (w := w.alloc (.cells #[.int .i64 id] 3)) (bx := w.heap.size) (id := id) (by rw [cell_block q]; rfl) v l (hv.below hb) hl)
  have HB := Lib.hid hb
  obtain ⟨R, hR⟩ : ∃ r, fidx (fun x : PtS => x.id == id) l = r := ⟨_, rfl⟩
  rw [hR] at HI ⊢
  clear hb q hv hR
  go_enter Try.func57, Try.ntmps57
  go_wp2_with fail
  (with_reducible refine HI.out.mono ?_); rintro e w1 ⟨rfl, hb⟩
  have H1 := Lib.hid (below_up HB.out hb); clear hb
  go_wp2
  go_ret
  exact ⟨rfl, H1.out⟩
end Go.Proofs.Ytdomngpkahgoiaa.St
