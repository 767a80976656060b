/- Stable sorting, plainly: one is put into a sorted list. -/
import Derived.Test.YtdomngpkahgoiaaSt1
namespace Go.Proofs.Ytdomngpkahgoiaa.St
set_option linter.unusedVariables false
set_option linter.unusedSimpArgs false
section
variable {α : Type} {lt : α → α → Bool}
theorem exists_sorted (w : SWO lt) (d : α) (L : List α) : ∀ n, n ≤ L.length → ∃ f, Sorted lt f 0 n ∧ Mix (row0 L d) f 0 n
  | 0, _ => ⟨row0 L d, fun i j h1 h2 h3 => by omega, Mix.refl _ _ _⟩
  | n + 1, hn => by
    obtain ⟨f, hs, hm⟩ := exists_sorted w d L n (by omega)
    have hfn : f n = row0 L d n := hm.out n (by omega)
    have ht : TagLt f 0 n (n + 1) := fun i j h1 h2 h3 h4 => by
      obtain rfl : j = n := by omega
      obtain ⟨k, h5, h6, e⟩ := hm.mem h1 h2
      rw [hfn, e]
      exact h6
    -- the place
    have hpl : ∀ k, k ≤ n → (k < n → lt (f n).1 (f k).1 = true) → ∃ i, i ≤ n ∧ (0 < i → lt (f n).1 (f (i - 1)).1 = false) ∧ (i < n → lt (f n).1 (f i).1 = true) := fun k => by
      induction k with
      | zero => exact fun h1 h2 => ⟨0, h1, fun h => by omega, h2⟩
      | succ k ih =>
        intro h1 h2
        cases hc : lt (f n).1 (f k).1 with
        | false => exact ⟨k + 1, h1, fun _ => hc, h2⟩
        | true => exact ih (by omega) (fun _ => hc)
    obtain ⟨i, h1, h2, h3⟩ := hpl n (Nat.le_refl _) (fun h => by omega)
    have := put_last w hs ht (Nat.zero_le i) h1 h2 h3
    exact ⟨_, this.1, (hm.wide (Nat.le_refl _) (Nat.zero_le _) (by omega)).trans this.2⟩
theorem seg_row0 (L : List α) (x d : α) : ∀ k, k < L.length → row0 (L ++ [x]) d k = row0 L d k := fun k h => by
  unfold row0
  rw [List.getElem?_append_left h]
theorem sort_len (L : List α) : (L.mergeSort (fun a b => !lt b a)).length = L.length := (List.mergeSort_perm _ _).length_eq
/-- What is put behind those that are not more, ahead of those that are more, is sorted. -/
theorem ins_sort (w : SWO lt) (L M : List α) (hMM : L.mergeSort (fun a b => !lt b a) = M) (x : α) {k : Nat} (hk : k ≤ L.length)
    (hl : 0 < k → ∀ y, M[k - 1]? = some y → lt x y = false) (hr : k < L.length → ∀ y, M[k]? = some y → lt x y = true) :
    M.take k ++ x :: M.drop k = (L ++ [x]).mergeSort (fun a b => !lt b a) := by
  obtain ⟨f0, hs0, hm0⟩ := exists_sorted w x L L.length (Nat.le_refl _)
  have hM := sorted_is w L x hm0 hs0
  obtain ⟨n, hn⟩ : ∃ n, L.length = n := ⟨_, rfl⟩
  have hlx : (L ++ [x]).length = n + 1 := by simp [hn]
  rw [hMM] at hM
  rw [hn] at hk hs0 hm0 hM
  have hMl : M.length = n := by rw [← hM, lst_len]
  have hMg : ∀ i (h : i < n), M[i]'(by omega) = (f0 i).1 := fun i h => by
    have : M[i]? = (lst n f0)[i]? := by rw [hM]
    rw [List.getElem?_eq_getElem (by omega), List.getElem?_eq_getElem (by rw [lst_len]; exact h)] at this
    rw [Option.some.inj this, lst_get]
  let f : Row (α × Nat) := fun i => if i < n then f0 i else row0 (L ++ [x]) x i
  have hf : ∀ i, i < n → f i = f0 i := fun i h => if_pos h
  have hfo : ∀ i, ¬ i < n → f i = row0 (L ++ [x]) x i := fun i h => if_neg h
  have hfn : f n = (x, n) := by
    rw [hfo n (by omega)]
    unfold row0
    rw [List.getElem?_append_right (by omega)]
    simp [hn]
  have hs : Sorted lt f 0 n := hs0.congr fun k _ h => hf k h
  have hm : Mix (row0 (L ++ [x]) x) f 0 n := by
    refine ⟨fun k h => hfo k (fun hh => h ⟨Nat.zero_le _, hh⟩), ?_⟩
    rw [seg_congr (g := f0) (fun k _ h => hf k h), seg_congr (f := row0 (L ++ [x]) x) (g := row0 L x) (fun k _ h => seg_row0 L x x k (by omega))]
    exact hm0.perm
  have ht : TagLt f 0 n (n + 1) := fun i j h1 h2 h3 h4 => by
    obtain rfl : j = n := by omega
    obtain ⟨k, h5, h6, e⟩ := hm.mem h1 h2
    rw [hfn, e]
    exact h6
  have hput := put_last w hs ht (Nat.zero_le k) hk (fun h => by rw [hfn, hf _ (by omega), ← hMg (k - 1) (by omega)]; exact hl h _ (List.getElem?_eq_getElem (by omega))) (fun h => by rw [hfn, hf _ (by omega), ← hMg k (by omega)]; exact hr (by omega) _ (List.getElem?_eq_getElem (by omega)))
  have hres := sorted_is w (L ++ [x]) x (f := rot f k n (n + 1)) (by rw [hlx]; exact (hm.wide (Nat.le_refl _) (Nat.zero_le _) (by omega)).trans hput.2) (by rw [hlx]; exact hput.1)
  rw [← hres, hlx]
  refine List.ext_getElem (by simp [lst_len, hMl]; omega) fun i h1 h2 => ?_
  rw [lst_len] at h2
  rw [lst_get]
  rcases Nat.lt_trichotomy i k with c | c | c
  · rw [List.getElem_append_left (by rw [List.length_take]; omega), List.getElem_take, hMg i (by omega)]
    unfold rot
    rw [if_neg (by omega), if_neg (by omega), hf i (by omega)]
  · subst c
    rw [List.getElem_append_right (by rw [List.length_take]; omega)]
    simp only [List.length_take, hMl, Nat.min_eq_left hk, Nat.sub_self, List.getElem_cons_zero]
    rw [rot_left (by omega) (by omega), show i - i + n = n by omega, hfn]
  · rw [List.getElem_append_right (by rw [List.length_take]; omega)]
    obtain ⟨j, hj⟩ : ∃ j, i - (M.take k).length = j + 1 := ⟨i - k - 1, by rw [List.length_take]; omega⟩
    have hjk : k + j = i - 1 := by rw [List.length_take] at hj; omega
    simp only [hj, List.getElem_cons_succ, List.getElem_drop]
    rw [rot_right (by omega) (by omega), show i - (n + 1 - n) = i - 1 by omega, hf (i - 1) (by omega), ← hMg (i - 1) (by omega)]
    simp only [hjk]
end
end Go.Proofs.Ytdomngpkahgoiaa.St
