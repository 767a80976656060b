/- What stays while an Out or an In turns: chains of steps. -/
import Derived.Test.YtjhhknkhgilecaaLio
namespace Go.Proofs.Ytjhhknkhgilecaa.Lt
open Go.RowKit
set_option linter.unusedVariables false
set_option linter.unusedSimpArgs false
theorem KeepO.of_below {W W' : World} (h : Below W.heap.size W W') : KeepO W W' := ⟨h.size, fun g cs t f hg _ _ => block_up hg h⟩
theorem KeepO.trans {W W1 W2 : World} (h : KeepO W W1) (k : KeepO W1 W2) : KeepO W W2 := ⟨Nat.le_trans h.1 k.1, fun g cs t f hg h1 h2 => k.2 _ _ _ _ (h.2 _ _ _ _ hg h1 h2) h1 h2⟩
theorem KeepI.of_below {W W' : World} (h : Below W.heap.size W W') : KeepI W W' := ⟨h.size, fun g cs t f hg _ => block_up hg h⟩
theorem KeepI.trans {W W1 W2 : World} (h : KeepI W W1) (k : KeepI W1 W2) : KeepI W W2 := ⟨Nat.le_trans h.1 k.1, fun g cs t f hg h1 => k.2 _ _ _ _ (h.2 _ _ _ _ hg h1) h1⟩
theorem KeepI.fr {W W1 W2 : World} {g : Nat} (h : KeepI W W1) (hF : Fr (fun k => k = g) W1 W2) (hg : W.heap.size ≤ g) : KeepI W W2 :=
  ⟨Nat.le_trans h.1 hF.size, fun k cs t f hk h1 => blk_fr (h.2 _ _ _ _ hk h1) hF (by have := (Array.getElem?_eq_some_iff.1 hk).1; omega)⟩
theorem fr_set (W : World) (g i : Nat) (u : Value) : Fr (fun k => k = g) W (W.setCell ⟨g, i, none⟩ u) := (Fr.refl (fun k => k = g) W).set (p := ⟨g, i, none⟩) (fun _ => rfl) _
theorem IW.fr {w0 W W' : World} {p : Nat} {s : InS} {g : Nat} {cs : Array Value} {t : TypeId} {f : Nat × Nat} (h : IW w0 W p s) (hF : Fr (fun k => k = g) W W') (hq : W.heap[g]? = some (.cells cs t f)) (hb : w0.heap.size ≤ g) (h1 : t ≠ 154) (h2 : t ≠ 5) : IW w0 W' p s := by
  have hne : ∀ (k : Nat) (cs' : Array Value) (t' : TypeId) (f' : Nat × Nat), W.heap[k]? = some (.cells cs' t' f') → t' ≠ t → W'.heap[k]? = some (.cells cs' t' f') := fun k cs' t' f' hc ht =>
    blk_fr hc hF (fun e => by subst e; rw [hq] at hc; injection hc with hc; injection hc with _ e _; exact ht e.symm)
  obtain ⟨v0, ⟨k1, A, c0, k2, k3, k4, k5⟩, k6, k7⟩ := h
  refine ⟨v0, ⟨hne _ _ _ _ k1 (Ne.symm h1), A, c0, k2, k3, fun i hi => ?_, fun ad h => ⟨(k5 ad h).1, ?_⟩⟩, k6, k7.trans (hF.toBelow (fun k hk => by omega) k7.size)⟩
  · obtain ⟨ad, q1, q2⟩ := k4 i hi
    obtain ⟨cs, f, hcs⟩ := (k5 ad q1).2
    refine ⟨ad, q1, ?_⟩
    rw [← q2]
    exact World.cell?_of_block (by rw [add_block, hcs, hne _ _ _ _ hcs (Ne.symm h2)])
  · obtain ⟨cs, f, hcs⟩ := (k5 ad h).2
    exact ⟨cs, f, hne _ _ _ _ hcs (Ne.symm h2)⟩
end Go.Proofs.Ytjhhknkhgilecaa.Lt
