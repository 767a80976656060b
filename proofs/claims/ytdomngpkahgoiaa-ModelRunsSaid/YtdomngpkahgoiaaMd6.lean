/- What stands while ModelRuns goes on. -/
import Derived.Test.YtdomngpkahgoiaaMd5
import Derived.Test.YtdomngpkahgoiaaRn
import Derived.Deep.CutBlock
namespace Go.Proofs.Ytdomngpkahgoiaa.Md
open Go.RowKit Pt St Rg Ti Wi
set_option linter.unusedVariables false
set_option linter.unusedSimpArgs false
structure OpS where
  kind : Int
  p : PtS
def OpS.cells (o : OpS) : List Value := .int .i64 o.kind :: o.p.cells
theorem OpS.cells_len (o : OpS) : o.cells.length = 5 := rfl
/-- The model and the list hold the same points. -/
structure MR (w W : World) (g : Nat) (r : RcS) (vm vo : Value) (O : List PtS) : Prop where
  m : MdV W w.heap.size g vm O
  o : W.ownsRow w.heap.size 56 4 vo O.length (O.flatMap PtS.cells)
  ap : ∀ k, vm.ownBlock = some k → vo.ownBlock ≠ some k
  rc : CPr w.heap.size r W
  fi : ∀ p ∈ O, p.fine
  be : Below w.heap.size w W
theorem MR.below {w W W' : World} {g : Nat} {r : RcS} {vm vo : Value} {O : List PtS} (h : MR w W g r vm vo O) (hb : Below W.heap.size W W') : MR w W' g r vm vo O :=
  ⟨h.m.below hb, own_below h.o hb, h.ap, block_up h.rc hb, h.fi, below_up h.be hb⟩
theorem md_ge {W : World} {base g : Nat} {v : Value} {L : List PtS} (h : MdV W base g v L) : g < W.heap.size := (Array.getElem?_eq_some_iff.1 h.blk).1
theorem md_ne {W : World} {base g : Nat} {v u : Value} {L : List PtS} {b n : Nat} {xs : List Value} (h : MdV W base g v L) (ho : W.ownsRow b 56 4 u n xs) : u.ownBlock ≠ some g := own_ne_block ho h.blk (by decide)
theorem rc_ne {W : World} {R : Nat} {r : RcS} {u : Value} {b n : Nat} {xs : List Value} (h : CPr R r W) (ho : W.ownsRow b 56 4 u n xs) : u.ownBlock ≠ some R := own_ne_block ho h (by decide)
theorem rc_ng {W : World} {R g : Nat} {r : RcS} {base : Nat} {v : Value} {L : List PtS} (h : CPr R r W) (hm : MdV W base g v L) : R ≠ g := fun e => by
  subst e
  have h1 := hm.blk
  unfold CPr at h
  rw [h1] at h
  injection h with h; injection h with h h2
  exact absurd h2 (by decide)
/-- The model alone has turned; its row is the old one, or new. -/
theorem MR.turn {w W W' : World} {g : Nat} {r : RcS} {vm vo vm' : Value} {O O' : List PtS} {S : Nat → Prop} (h : MR w W g r vm vo O) (hg : w.heap.size ≤ g) (hm : MdV W' w.heap.size g vm' O') (hf : Fr S W W') (hS : ∀ k, S k → k = g ∨ vm.ownBlock = some k) :
    W'.ownsRow w.heap.size 56 4 vo O.length (O.flatMap PtS.cells) ∧ CPr w.heap.size r W' ∧ Below w.heap.size w W' := by
  refine ⟨own_fr h.o hf (fun k hk hs => ?_), blk_fr h.rc hf (fun hs => ?_), ?_⟩
  · rcases hS k hs with rfl | h2
    · exact md_ne h.m h.o hk
    · exact h.ap k h2 hk
  · rcases hS _ hs with e | h2
    · exact rc_ng h.rc h.m e
    · exact rc_ne h.rc h.m.row h2
  · exact ((Fr.of_below (S := fun k => w.heap.size ≤ k) h.be).trans hf (fun k _ hs => by
      rcases hS k hs with rfl | h2
      · exact hg
      · exact own_base h.m.row k h2)).toBelow (fun _ h => h) (Nat.le_refl _)
theorem insL_fine {p : PtS} {O : List PtS} (hp : p.fine) (h : ∀ q ∈ O, q.fine) : ∀ q ∈ insL p O, q.fine := fun q hq => by
  unfold insL at hq
  split at hq
  · rcases List.mem_append.1 ((byId_perm _).mem_iff.1 hq) with h1 | h1
    · exact h q h1
    · rw [List.mem_singleton.1 h1]; exact hp
  · exact h q hq
theorem insL_len (p : PtS) (O : List PtS) : (insL p O).length ≤ O.length + 1 := by unfold insL; split <;> simp [byId_length]
end Go.Proofs.Ytdomngpkahgoiaa.Md
