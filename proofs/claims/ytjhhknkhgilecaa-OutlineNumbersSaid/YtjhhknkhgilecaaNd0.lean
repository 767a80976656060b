/- Nodes as data, and which may be. -/
import Derived.Test.YtjhhknkhgilecaaPt
import Derived.Test.YtjhhknkhgilecaaRg
import Derived.Deep.DeepCutAuto
import Derived.Deep.CutBlock
namespace Go.Proofs.Ytjhhknkhgilecaa.Nd
open Go.RowKit Lt Pt Rg
set_option linter.unusedVariables false
set_option linter.unusedSimpArgs false
structure NdS where
  lf : Bool
  v : Value
  pts : List PtS
  next : Int
  ks : Nat → Int
  cs : Nat → Int
namespace NdS
def cells (n : NdS) : List Value := [.bool n.lf, n.v, .int .i64 n.next, .int .i64 (n.ks 0), .int .i64 (n.ks 1), .int .i64 (n.ks 2), .int .i64 (n.ks 3), .int .i64 (n.cs 0), .int .i64 (n.cs 1), .int .i64 (n.cs 2), .int .i64 (n.cs 3)]
def zero : NdS := ⟨false, .slice none 0 0, [], 0, fun _ => 0, fun _ => 0⟩
end NdS
abbrev nv (n : NdS) : Value := .agg #[.bool n.lf, n.v, .int .i64 n.next, .int .i64 (n.ks 0), .int .i64 (n.ks 1), .int .i64 (n.ks 2), .int .i64 (n.ks 3), .int .i64 (n.cs 0), .int .i64 (n.cs 1), .int .i64 (n.cs 2), .int .i64 (n.cs 3)]
abbrev PRd (w : World) (v : Value) (l : List PtS) : Prop := SRd 4 PtS.cells w v l
def okQ (k c : Int) : Prop := 0 ≤ k ∧ k ≤ 255 ∧ 0 ≤ c ∧ c ≤ 65535 ∧ (k = 0 ↔ c = 0)
instance (k c : Int) : Decidable (okQ k c) := by unfold okQ; infer_instance
/-- The first j points of a leaf may be. -/
def PtsTo (l : List PtS) (j : Nat) : Prop := ∀ i (h : i < l.length), i < j → l[i].chk = 0 ∧ ∀ m (hm : m < l.length), m + 1 = i → l[m].id < l[i].id
def PtsMay (l : List PtS) : Prop := PtsTo l l.length ∧ l.length ≤ 4
def May (n : NdS) : Prop :=
  if n.lf = true then PtsMay n.pts ∧ 0 ≤ n.next ∧ n.next ≤ 255 ∧ (∀ q, q < 4 → n.ks q = 0) ∧ (∀ q, q < 4 → n.cs q = 0)
  else n.pts = [] ∧ n.next = 0 ∧ ∀ q, q < 4 → okQ (n.ks q) (n.cs q)
noncomputable def ptsB (l : List PtS) : Bool := @decide (PtsMay l) (Classical.propDecidable _)
noncomputable def mayB (n : NdS) : Bool := @decide (May n) (Classical.propDecidable _)
theorem ptsB_iff (l : List PtS) : ptsB l = true ↔ PtsMay l := by unfold ptsB; exact @decide_eq_true_iff _ (Classical.propDecidable _)
theorem mayB_iff (n : NdS) : mayB n = true ↔ May n := by unfold mayB; exact @decide_eq_true_iff _ (Classical.propDecidable _)
noncomputable def quB (n : NdS) : Bool := @decide (∀ q, q < 4 → okQ (n.ks q) (n.cs q)) (Classical.propDecidable _)
theorem quB_iff (n : NdS) : quB n = true ↔ ∀ q, q < 4 → okQ (n.ks q) (n.cs q) := by unfold quB; exact @decide_eq_true_iff _ (Classical.propDecidable _)
theorem quB_f {n : NdS} (h : ¬ ∀ q, q < 4 → okQ (n.ks q) (n.cs q)) : quB n = false := by
  cases hb : quB n
  · rfl
  · exact absurd ((quB_iff n).1 hb) h
theorem ptsB_f {l : List PtS} (h : ¬ PtsMay l) : ptsB l = false := by
  cases hb : ptsB l
  · rfl
  · exact absurd ((ptsB_iff l).1 hb) h
theorem mayB_f {n : NdS} (h : ¬ May n) : mayB n = false := by
  cases hb : mayB n
  · rfl
  · exact absurd ((mayB_iff n).1 hb) h
theorem ptsTo_zero (l : List PtS) : PtsTo l 0 := fun i _ h => absurd h (Nat.not_lt_zero i)
theorem ptsTo_succ {l : List PtS} {j : Nat} (h : PtsTo l j) (hj : j < l.length) (hc : l[j].chk = 0) (hl : ∀ m (hm : m < l.length), m + 1 = j → l[m].id < l[j].id) : PtsTo l (j + 1) := fun i hi hij => by
  rcases Nat.lt_or_ge i j with h1 | h1
  · exact h i hi h1
  · obtain rfl : i = j := by omega
    exact ⟨hc, hl⟩
theorem pts_chk {l : List PtS} {j : Nat} (hj : j < l.length) (hc : ¬ l[j].chk = 0) : ¬ PtsMay l := fun h => hc (h.1 j hj hj).1
theorem pts_ris {l : List PtS} {j m : Nat} (hj : j < l.length) (hm : m < l.length) (e : m + 1 = j) (hc : ¬ l[m].id < l[j].id) : ¬ PtsMay l := fun h => hc ((h.1 j hj hj).2 m hm e)
theorem pt_at {W : World} {A : Option Addr} {n c : Nat} {l : List PtS} (h : PRd W (.slice A n c) l) {k : Nat} (hk : k < l.length) :
    ∃ g o, A = some ⟨g, o, none⟩ ∧ W.cell? ⟨g, o + k * 4, none⟩ = some (.int .i64 l[k].id) ∧ W.cell? ⟨g, o + k * 4 + 1, none⟩ = some (.int .u32 (l[k].x : Nat)) ∧ W.cell? ⟨g, o + k * 4 + 2, none⟩ = some (.int .u32 (l[k].y : Nat)) ∧ W.cell? ⟨g, o + k * 4 + 3, none⟩ = some (.string l[k].d) := by
  obtain ⟨g, o, e, _, ci⟩ := SRd.get h PtS.cells_len (by decide) hk
  refine ⟨g, o, e, ?_, ?_, ?_, ?_⟩
  · simpa [PtS.cells] using ci 0 (by decide)
  · simpa [PtS.cells] using ci 1 (by decide)
  · simpa [PtS.cells] using ci 2 (by decide)
  · simpa [PtS.cells] using ci 3 (by decide)
end Go.Proofs.Ytjhhknkhgilecaa.Nd
