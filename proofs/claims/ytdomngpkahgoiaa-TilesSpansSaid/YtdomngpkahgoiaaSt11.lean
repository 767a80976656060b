/- Stable sorting, plainly: the place of one more; sorting what was sorted and has one more. -/
import Derived.Test.YtdomngpkahgoiaaSt10
namespace Go.Proofs.Ytdomngpkahgoiaa.St
set_option linter.unusedVariables false
set_option linter.unusedSimpArgs false
section
variable {α : Type} {lt : α → α → Bool}
theorem place_ex (M : List α) (p : α) : ∃ k, k ≤ M.length ∧ (0 < k → ∀ y, M[k - 1]? = some y → lt p y = false) ∧ (k < M.length → ∀ y, M[k]? = some y → lt p y = true) := by
  have hpl : ∀ k, k ≤ M.length → (k < M.length → ∀ y, M[k]? = some y → lt p y = true) → ∃ i, i ≤ M.length ∧ (0 < i → ∀ y, M[i - 1]? = some y → lt p y = false) ∧ (i < M.length → ∀ y, M[i]? = some y → lt p y = true) := fun k => by
    induction k with
    | zero => exact fun h1 h2 => ⟨0, h1, fun h => by omega, h2⟩
    | succ k ih =>
      intro h1 h2
      cases hc : lt p (M[k]'(by omega)) with
      | false => exact ⟨k + 1, h1, fun _ y e => by rw [Nat.add_sub_cancel, List.getElem?_eq_getElem (by omega)] at e; cases e; exact hc, h2⟩
      | true => exact ih (by omega) (fun _ y e => by rw [List.getElem?_eq_getElem (by omega)] at e; cases e; exact hc)
  exact hpl _ (Nat.le_refl _) (fun h => by omega)
theorem sort_pw (w : SWO lt) (L : List α) : (L.mergeSort (fun a b => !lt b a)).Pairwise (fun a b => (!lt b a) = true) := by
  refine List.pairwise_mergeSort (fun a b c h1 h2 => ?_) (fun a b => ?_) L
  · simp only [Bool.not_eq_true'] at *
    exact w.ntrans _ _ _ h1 h2
  · cases h : lt b a with
    | false => rfl
    | true => rw [w.asymm _ _ h]; rfl
theorem sort_snoc (w : SWO lt) (A : List α) (p : α) : ((A.mergeSort (fun a b => !lt b a)) ++ [p]).mergeSort (fun a b => !lt b a) = (A ++ [p]).mergeSort (fun a b => !lt b a) := by
  obtain ⟨k, h1, h2, h3⟩ := place_ex (lt := lt) (A.mergeSort (fun a b => !lt b a)) p
  have hl := sort_len (lt := lt) A
  have e1 := ins_sort w A (A.mergeSort (fun a b => !lt b a)) rfl p (by rw [← hl]; exact h1) h2 (fun h => h3 (by rw [hl]; exact h))
  have e2 := ins_sort w (A.mergeSort (fun a b => !lt b a)) (A.mergeSort (fun a b => !lt b a)) (List.mergeSort_of_pairwise (sort_pw w A)) p h1 h2 h3
  exact e2.symm.trans e1
end
end Go.Proofs.Ytdomngpkahgoiaa.St
