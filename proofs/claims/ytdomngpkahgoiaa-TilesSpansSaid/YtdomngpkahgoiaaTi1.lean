/- Spans, plainly: intervals in a row, put together. -/
import Derived.Test.YtdomngpkahgoiaaBase
namespace Go.Proofs.Ytdomngpkahgoiaa.Ti
set_option linter.unusedVariables false
set_option linter.unusedSimpArgs false
/-- One interval more; M: those that are put together, the last one first. -/
def spanS (M : List (Nat × Nat)) (c : Nat × Nat) : List (Nat × Nat) :=
  match M with
  | [] => [c]
  | e :: N => if c.1 ≤ e.2 + 1 then (e.1, max e.2 c.2) :: N else c :: e :: N
def spanF (I : List (Nat × Nat)) : List (Nat × Nat) := I.foldl spanS []
/-- What the row of spans is. -/
def spanL (I : List (Nat × Nat)) : List (Nat × Nat) := (spanF I).reverse
theorem spanF_succ (I : List (Nat × Nat)) (k : Nat) (h : k < I.length) : spanF (I.take (k + 1)) = spanS (spanF (I.take k)) I[k] := by
  unfold spanF; rw [List.take_succ_eq_append_getElem h, List.foldl_append]; rfl
def inI (M : List (Nat × Nat)) (z : Nat) : Prop := ∃ e ∈ M, e.1 ≤ z ∧ z ≤ e.2
structure SpanOk (M : List (Nat × Nat)) : Prop where
  le : ∀ e ∈ M, e.1 ≤ e.2
  gap : M.Pairwise fun e f => f.2 + 2 ≤ e.1
theorem spanS_ok {M : List (Nat × Nat)} {c : Nat × Nat} (h : SpanOk M) (hc : c.1 ≤ c.2) (hl : ∀ e ∈ M, e.1 ≤ c.1) : SpanOk (spanS M c) ∧ (∀ e ∈ spanS M c, e.1 ≤ c.1) ∧ ∀ z, inI (spanS M c) z ↔ inI M z ∨ (c.1 ≤ z ∧ z ≤ c.2) := by
  cases M with
  | nil =>
    refine ⟨⟨fun e he => ?_, by simp [spanS]⟩, fun e he => ?_, fun z => ?_⟩
    · rw [List.mem_singleton.1 he]; exact hc
    · rw [List.mem_singleton.1 he]; exact Nat.le_refl _
    · simp [spanS, inI]
  | cons e N =>
    have he := h.le e (by simp)
    have hec := hl e (by simp)
    have hg := List.pairwise_cons.1 h.gap
    unfold spanS
    by_cases hc1 : c.1 ≤ e.2 + 1
    · simp only [if_pos hc1]
      refine ⟨⟨fun f hf => ?_, ?_⟩, fun f hf => ?_, fun z => ?_⟩
      · rcases List.mem_cons.1 hf with rfl | hf
        · show e.1 ≤ max e.2 c.2; omega
        · exact h.le f (by simp [hf])
      · rw [List.pairwise_cons]
        exact ⟨fun f hf => hg.1 f hf, hg.2⟩
      · rcases List.mem_cons.1 hf with rfl | hf
        · exact hec
        · exact hl f (by simp [hf])
      · constructor
        · rintro ⟨f, hf, h1, h2⟩
          rcases List.mem_cons.1 hf with rfl | hf
          · simp only at h1 h2
            by_cases hz : z ≤ e.2
            · exact .inl ⟨e, by simp, h1, hz⟩
            · exact .inr (by omega)
          · exact .inl ⟨f, by simp [hf], h1, h2⟩
        · rintro (⟨f, hf, h1, h2⟩ | ⟨h1, h2⟩)
          · rcases List.mem_cons.1 hf with rfl | hf
            · exact ⟨_, List.mem_cons_self, h1, by show z ≤ max _ _; omega⟩
            · exact ⟨f, by simp [hf], h1, h2⟩
          · exact ⟨_, List.mem_cons_self, by show e.1 ≤ z; omega, by show z ≤ max _ _; omega⟩
    · simp only [if_neg hc1]
      refine ⟨⟨fun f hf => ?_, ?_⟩, fun f hf => ?_, fun z => ?_⟩
      · rcases List.mem_cons.1 hf with rfl | hf
        · exact hc
        · exact h.le f hf
      · rw [List.pairwise_cons]
        refine ⟨fun f hf => ?_, h.gap⟩
        rcases List.mem_cons.1 hf with rfl | hf
        · omega
        · have := hg.1 f hf; omega
      · rcases List.mem_cons.1 hf with rfl | hf
        · exact Nat.le_refl _
        · exact hl f hf
      · constructor
        · rintro ⟨f, hf, h1, h2⟩
          rcases List.mem_cons.1 hf with rfl | hf
          · exact .inr ⟨h1, h2⟩
          · exact .inl ⟨f, hf, h1, h2⟩
        · rintro (⟨f, hf, h1, h2⟩ | ⟨h1, h2⟩)
          · exact ⟨f, by simp [List.mem_cons.1 hf], h1, h2⟩
          · exact ⟨c, by simp, h1, h2⟩
theorem foldl_ok : ∀ (I M : List (Nat × Nat)), SpanOk M → (∀ i ∈ I, i.1 ≤ i.2) → (∀ e ∈ M, ∀ i ∈ I, e.1 ≤ i.1) → (I.Pairwise fun a b => a.1 ≤ b.1) → SpanOk (I.foldl spanS M) ∧ ∀ z, inI (I.foldl spanS M) z ↔ inI M z ∨ inI I z
  | [], M, h, _, _, _ => ⟨h, fun z => ⟨.inl, fun h => h.elim id (fun ⟨_, h, _⟩ => absurd h (by simp))⟩⟩
  | c :: I, M, h, hle, hlo, hs => by
    obtain ⟨s1, s2⟩ := List.pairwise_cons.1 hs
    obtain ⟨k1, k2, k3⟩ := spanS_ok h (hle c (by simp)) (fun e he => hlo e he c (by simp))
    obtain ⟨r1, r2⟩ := foldl_ok I (spanS M c) k1 (fun i hi => hle i (by simp [hi])) (fun e he i hi => Nat.le_trans (k2 e he) (s1 i hi)) s2
    refine ⟨r1, fun z => ?_⟩
    rw [List.foldl_cons, r2, k3]
    constructor
    · rintro ((h | h) | ⟨f, hf, h⟩)
      · exact .inl h
      · exact .inr ⟨c, by simp, h⟩
      · exact .inr ⟨f, by simp [hf], h⟩
    · rintro (h | ⟨f, hf, h⟩)
      · exact .inl (.inl h)
      · rcases List.mem_cons.1 hf with rfl | hf
        · exact .inl (.inr h)
        · exact .inr ⟨f, hf, h⟩
theorem spanL_ok {I : List (Nat × Nat)} (hle : ∀ i ∈ I, i.1 ≤ i.2) (hs : I.Pairwise fun a b => a.1 ≤ b.1) :
    (∀ e ∈ spanL I, e.1 ≤ e.2) ∧ ((spanL I).Pairwise fun e f => e.2 + 2 ≤ f.1) ∧ ∀ z, inI (spanL I) z ↔ inI I z := by
  obtain ⟨h1, h2⟩ := foldl_ok I [] ⟨by simp, by simp⟩ hle (by simp) hs
  refine ⟨fun e he => h1.le e (List.mem_reverse.1 he), ?_, fun z => ?_⟩
  · unfold spanL
    rw [List.pairwise_reverse]
    exact h1.gap
  · have := h2 z
    unfold spanL spanF inI
    simp only [List.mem_reverse]
    rw [show (∃ e, e ∈ List.foldl spanS [] I ∧ e.1 ≤ z ∧ z ≤ e.2) ↔ inI (List.foldl spanS [] I) z from Iff.rfl, this]
    exact ⟨fun h => h.elim (fun ⟨_, h, _⟩ => absurd h (by simp)) id, .inr⟩
theorem spanS_le (M : List (Nat × Nat)) (c : Nat × Nat) : (spanS M c).length ≤ M.length + 1 := by
  cases M with
  | nil => simp [spanS]
  | cons e N => unfold spanS; simp only; split <;> simp
theorem spanF_le : ∀ (I M : List (Nat × Nat)), (I.foldl spanS M).length ≤ M.length + I.length
  | [], M => by simp
  | c :: I, M => by
    have := spanF_le I (spanS M c)
    have := spanS_le M c
    rw [List.foldl_cons, List.length_cons]; omega
theorem spanL_le (I : List (Nat × Nat)) : (spanL I).length ≤ I.length := by
  have := spanF_le I []
  unfold spanL spanF
  simpa using this
end Go.Proofs.Ytdomngpkahgoiaa.Ti
