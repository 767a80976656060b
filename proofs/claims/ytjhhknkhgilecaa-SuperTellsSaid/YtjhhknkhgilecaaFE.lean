/- '==' of stamps; octets that lie in a block. -/
import Derived.Test.YtjhhknkhgilecaaF6
import Derived.Test.YtjhhknkhgilecaaF8
namespace Go.Proofs.Ytjhhknkhgilecaa.Fm
open Go.RowKit Lt
set_option linter.unusedVariables false
set_option linter.unusedSimpArgs false
theorem eqlS (x y : StS) (w : World) : (binOp .eql 32 (sv x) (sv y)).run Try.prog w = .ok (.bool (x.ep == y.ep && (x.sq == y.sq && x.pos == y.pos))) w := by
  refine eql_of (eqs_of Try.underlying32 (by kernel_rfl) ?_)
  refine eqf_cons (by rfl) (by go_simp; rfl) (by go_simp; rfl) (by go_simp) ?_
  refine eqf_cons (by rfl) (by go_simp; rfl) (by go_simp; rfl) (by go_simp) ?_
  exact eqf_last (by rfl) (by go_simp; rfl) (by go_simp; rfl) (by go_simp)
theorem eqS_dec (x y : StS) : (x.ep == y.ep && (x.sq == y.sq && x.pos == y.pos)) = decide (x = y) := by
  rw [Bool.eq_iff_iff]
  obtain ⟨a, b, c⟩ := x
  obtain ⟨d, e, f⟩ := y
  simp
theorem eqlS_d (x y : StS) (w : World) : (binOp .eql 32 (sv x) (sv y)).run Try.prog w = .ok (.bool (decide (x = y))) w := by rw [eqlS, eqS_dec]
theorem brd_lit {w : World} {g n : Nat} {f : Nat × Nat} {l : List UInt8} {cs : Array Value} (hg : w.heap[g]? = some (.cells cs 5 f)) (hc : cs.toList = bv l) (hn : l.length = n) (c : Nat) (hnc : n ≤ c) : BRd w (.slice (some ⟨g, 0, none⟩) n c) l := by
  subst hn
  have h := rd_block hg 0 cs.size (by omega)
  rw [List.drop_zero, show cs.toList.take cs.size = cs.toList from List.take_of_length_le (by simp), hc] at h
  exact ⟨_, c, rfl, hnc, h, fun ad e _ => by cases e; rfl⟩
theorem fine3 (a b c : Nat) (h1 : a ≤ 100) (h2 : b ≤ 100) (h3 : c ≤ 100) : StS.fine ⟨(a : Int), (b : Int), (c : Int)⟩ := by unfold StS.fine; simp only; omega
end Go.Proofs.Ytjhhknkhgilecaa.Fm
