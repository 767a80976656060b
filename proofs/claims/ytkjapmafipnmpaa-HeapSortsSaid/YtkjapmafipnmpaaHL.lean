/- Heaps as lists, plainly. -/
import Derived.Test.YtkjapmafipnmpaaBase
namespace Go.Proofs.Ytkjapmafipnmpaa.HpL
variable {α : Type} {lt : α → α → Prop}
/-- Two places of a list changed. -/
def sw (l : List α) (i k : Nat) (hi : i < l.length) (hk : k < l.length) : List α := (l.set i l[k]).set k l[i]
theorem sw_len (l : List α) (i k : Nat) (hi : i < l.length) (hk : k < l.length) : (sw l i k hi hk).length = l.length := by simp [sw]
theorem sw_get (l : List α) (i k : Nat) (hi : i < l.length) (hk : k < l.length) (j : Nat) (hj : j < (sw l i k hi hk).length) :
    (sw l i k hi hk)[j] = if j = k then l[i] else if j = i then l[k] else l[j]'(by rwa [sw_len] at hj) := by
  have hj2 : j < ((l.set i l[k]).set k l[i]).length := hj
  show ((l.set i l[k]).set k l[i])[j] = _
  rw [List.getElem_set]; simp only [List.getElem_set]
  by_cases h1 : k = j
  · subst h1; simp
  · by_cases h2 : i = j
    · subst h2; simp [h1, Ne.symm h1]
    · rw [if_neg h1, if_neg h2, if_neg (Ne.symm h1), if_neg (Ne.symm h2)]
theorem sw_perm (l : List α) (i k : Nat) (hi : i < l.length) (hk : k < l.length) : (sw l i k hi hk).Perm l := List.set_set_perm hi hk
/-- No one is ahead of the one above. -/
def Hp (lt : α → α → Prop) (l : List α) : Prop := ∀ j (h : j < l.length), 0 < j → ¬ lt l[j] (l[(j - 1) / 2]'(by omega))
def UpI (lt : α → α → Prop) (l : List α) (i : Nat) : Prop :=
  (∀ j (h : j < l.length), 0 < j → j ≠ i → ¬ lt l[j] (l[(j - 1) / 2]'(by omega))) ∧
  (∀ j (h : j < l.length), 0 < j → 0 < i → (hp : (j - 1) / 2 = i) → ¬ lt l[j] (l[(i - 1) / 2]'(by omega)))
theorem up_start {l : List α} (h : Hp lt l) (x : α) : UpI lt (l ++ [x]) l.length := by
  refine ⟨fun j hj h0 hn => ?_, fun j hj h0 hi hp => ?_⟩
  · rw [List.length_append, List.length_singleton] at hj
    rw [List.getElem_append_left (by omega), List.getElem_append_left (by omega)]
    exact h j (by omega) h0
  · rw [List.length_append, List.length_singleton] at hj; omega
theorem up_step (asym : ∀ {a b : α}, lt a b → ¬ lt b a) (letr : ∀ {a b c : α}, ¬ lt b a → ¬ lt c b → ¬ lt c a) {l : List α} {i : Nat} (h : UpI lt l i) (hi : i < l.length) (h0 : 0 < i) (hl : lt l[i] (l[(i - 1) / 2]'(by omega))) :
    UpI lt (sw l i ((i - 1) / 2) hi (by omega)) ((i - 1) / 2) := by
  obtain ⟨h1, h2⟩ := h
  refine ⟨fun j hj hj0 hn => ?_, fun j hj hj0 hu hp => ?_⟩
  · have hj' : j < l.length := by rwa [sw_len] at hj
    rw [sw_get, sw_get, if_neg hn]
    by_cases e : j = i
    · subst e
      rw [if_pos rfl, if_pos rfl]; exact asym hl
    · rw [if_neg e]
      by_cases e2 : (j - 1) / 2 = (i - 1) / 2
      · rw [if_pos e2]
        have := h1 j hj' hj0 e
        simp only [e2] at this
        exact letr (asym hl) this
      · rw [if_neg e2]
        by_cases e3 : (j - 1) / 2 = i
        · rw [if_pos e3]; exact h2 j hj' hj0 h0 e3
        · rw [if_neg e3]; exact h1 j hj' hj0 e
  · have hj' : j < l.length := by rwa [sw_len] at hj
    have hup := h1 ((i - 1) / 2) (by omega) hu (by omega)
    rw [sw_get, sw_get, if_neg (show ¬ j = (i - 1) / 2 by omega), if_neg (show ¬ ((i - 1) / 2 - 1) / 2 = (i - 1) / 2 by omega), if_neg (show ¬ ((i - 1) / 2 - 1) / 2 = i by omega)]
    by_cases e : j = i
    · rw [if_pos e]; exact hup
    · rw [if_neg e]
      have := h1 j hj' hj0 e
      simp only [hp] at this
      exact letr hup this
theorem up_end0 {l : List α} (h : UpI lt l 0) : Hp lt l := fun j hj h0 => h.1 j hj h0 (by omega)
theorem up_end {l : List α} {i : Nat} (h : UpI lt l i) (hi : i < l.length) (h0 : 0 < i) (hl : ¬ lt l[i] (l[(i - 1) / 2]'(by omega))) : Hp lt l := fun j hj hj0 => by
  by_cases e : j = i
  · subst e; exact hl
  · exact h.1 j hj hj0 e
theorem hp_head (irr : ∀ a : α, ¬ lt a a) (letr : ∀ {a b c : α}, ¬ lt b a → ¬ lt c b → ¬ lt c a) {l : List α} (h : Hp lt l) (h0 : 0 < l.length) : ∀ j (hj : j < l.length), ¬ lt l[j] l[0] := by
  intro j
  induction j using Nat.strongRecOn with
  | _ j ih =>
    intro hj
    by_cases e : j = 0
    · subst e; exact irr _
    · exact letr (ih ((j - 1) / 2) (by omega) (by omega)) (h j hj (by omega))
theorem hp_least (irr : ∀ a : α, ¬ lt a a) (letr : ∀ {a b c : α}, ¬ lt b a → ¬ lt c b → ¬ lt c a) {l : List α} (h : Hp lt l) (h0 : 0 < l.length) {x : α} (hx : x ∈ l) : ¬ lt x l[0] := by
  obtain ⟨j, hj, rfl⟩ := List.mem_iff_getElem.1 hx
  exact hp_head irr letr h h0 j hj
/-- The least of one and its two below. -/
def Least (lt : α → α → Prop) (l : List α) (i k : Nat) : Prop :=
  ∃ (hi : i < l.length) (hk : k < l.length), (k = i ∨ k = 2 * i + 1 ∨ k = 2 * i + 2) ∧ ¬ lt l[i] l[k] ∧ (∀ h : 2 * i + 1 < l.length, ¬ lt l[2 * i + 1] l[k]) ∧ (∀ h : 2 * i + 2 < l.length, ¬ lt l[2 * i + 2] l[k])
def DnI (lt : α → α → Prop) (l : List α) (i : Nat) : Prop :=
  (∀ j (h : j < l.length), 0 < j → (j - 1) / 2 ≠ i → ¬ lt l[j] (l[(j - 1) / 2]'(by omega))) ∧
  (∀ j (h : j < l.length), 0 < j → 0 < i → (hp : (j - 1) / 2 = i) → ¬ lt l[j] (l[(i - 1) / 2]'(by omega)))
theorem dn_start {l : List α} (h : Hp lt l) (h0 : 0 < l.length) : DnI lt ((sw l 0 (l.length - 1) h0 (by omega)).take (l.length - 1)) 0 := by
  refine ⟨fun j hj hj0 hn => ?_, fun j hj hj0 hi hp => by omega⟩
  rw [List.length_take, sw_len] at hj
  rw [List.getElem_take, List.getElem_take, sw_get, sw_get, if_neg (by omega), if_neg (by omega), if_neg (by omega), if_neg (by omega)]
  exact h j (by omega) hj0
theorem dn_perm {l : List α} (h0 : 0 < l.length) : l.Perm (l[0] :: (sw l 0 (l.length - 1) h0 (by omega)).take (l.length - 1)) := by
  have hp := (sw_perm l 0 (l.length - 1) h0 (by omega)).symm
  have hl := sw_len l 0 (l.length - 1) h0 (by omega)
  have hx : (sw l 0 (l.length - 1) h0 (by omega))[l.length - 1]'(by omega) = l[0] := by rw [sw_get, if_pos rfl]
  obtain ⟨m, hm⟩ : ∃ m, sw l 0 (l.length - 1) h0 (by omega) = m := ⟨_, rfl⟩
  simp only [hm] at hp hl hx ⊢
  have e : m = m.take (l.length - 1) ++ [l[0]] := by
    rw [← hx, ← List.take_succ_eq_append_getElem (by omega)]
    exact (List.take_of_length_le (by omega)).symm
  refine hp.trans ?_
  conv => lhs; rw [e]
  exact (List.perm_append_comm (l₁ := m.take (l.length - 1)) (l₂ := [l[0]]))
theorem dn_step {l : List α} {i k : Nat} (h : DnI lt l i) (hL : Least lt l i k) (hne : k ≠ i) (hi : i < l.length) (hk : k < l.length) : DnI lt (sw l i k hi hk) k := by
  obtain ⟨h1, h2⟩ := h
  obtain ⟨_, _, hk2, hli, hl1, hl2⟩ := hL
  refine ⟨fun j hj hj0 hn => ?_, fun j hj hj0 hu hp => ?_⟩
  · have hj' : j < l.length := by rwa [sw_len] at hj
    rw [sw_get, sw_get, if_neg hn]
    by_cases e : j = k
    · subst e
      rw [if_pos rfl, if_pos (by omega)]; exact hli
    · rw [if_neg e]
      by_cases e2 : (j - 1) / 2 = i
      · rw [if_pos e2, if_neg (by omega)]
        rcases (by omega : j = 2 * i + 1 ∨ j = 2 * i + 2) with rfl | rfl
        · exact hl1 hj'
        · exact hl2 hj'
      · rw [if_neg e2]
        by_cases e3 : j = i
        · subst e3
          rw [if_pos rfl]
          exact h2 k hk (by omega) hj0 (by omega)
        · rw [if_neg e3]; exact h1 j hj' hj0 e2
  · have hj' : j < l.length := by rwa [sw_len] at hj
    rw [sw_get, sw_get, if_neg (by omega), if_neg (by omega), if_neg (by omega), if_pos (by omega)]
    have := h1 j hj' hj0 (by omega)
    simp only [hp] at this
    exact this
theorem dn_end {l : List α} {i : Nat} (h : DnI lt l i) (hL : Least lt l i i) : Hp lt l := fun j hj hj0 => by
  obtain ⟨_, _, _, _, hl1, hl2⟩ := hL
  by_cases e : (j - 1) / 2 = i
  · simp only [e]
    rcases (by omega : j = 2 * i + 1 ∨ j = 2 * i + 2) with rfl | rfl
    · exact hl1 hj
    · exact hl2 hj
  · exact h.1 j hj hj0 e
theorem dn_out {l : List α} {i : Nat} (h : DnI lt l i) (hi : l.length ≤ i) : Hp lt l := fun j hj hj0 => h.1 j hj hj0 (by omega)
/-- Rising. -/
def Ris (lt : α → α → Prop) (l : List α) : Prop := l.Pairwise fun a b => ¬ lt b a
theorem ris_head {x : α} {l : List α} (h : Ris lt (x :: l)) {y : α} (hy : y ∈ x :: l) (irr : ∀ a : α, ¬ lt a a) : ¬ lt y x := by
  rcases List.mem_cons.1 hy with rfl | hy
  · exact irr _
  · exact (List.pairwise_cons.1 h).1 y hy
/-- One put into a rising list, behind all that it's not ahead of. -/
theorem ris_put (asym : ∀ {a b : α}, lt a b → ¬ lt b a) (letr : ∀ {a b c : α}, ¬ lt b a → ¬ lt c b → ¬ lt c a) {l : List α} (h : Ris lt l) (x : α) (k : Nat) (hk : k ≤ l.length) (ha : ∀ j (hj : j < l.length), k ≤ j → lt x l[j]) (hb : ∀ h0 : 0 < k, ¬ lt x (l[k - 1]'(by omega))) : Ris lt (l.take k ++ (x :: l.drop k)) := by
  unfold Ris at *
  rw [List.pairwise_append, List.pairwise_cons]
  have hx1 : ∀ a ∈ l.drop k, ¬ lt a x := fun a ha' => by
    obtain ⟨j, hj, rfl⟩ := List.mem_iff_getElem.1 ha'
    rw [List.getElem_drop]
    rw [List.length_drop] at hj
    exact asym (ha (k + j) (by omega) (by omega))
  have hx2 : ∀ a ∈ l.take k, ¬ lt x a := fun a ha' => by
    obtain ⟨j, hj, rfl⟩ := List.mem_iff_getElem.1 ha'
    rw [List.getElem_take]
    rw [List.length_take] at hj
    by_cases e : j = k - 1
    · subst e; exact hb (by omega)
    · exact letr (List.pairwise_iff_getElem.1 h j (k - 1) (by omega) (by omega) (by omega)) (hb (by omega))
  have hs : (l.take k ++ l.drop k).Pairwise fun a b => ¬ lt b a := by rw [List.take_append_drop]; exact h
  rw [List.pairwise_append] at hs
  refine ⟨hs.1, ⟨hx1, hs.2.1⟩, fun a ha' b hb' => ?_⟩
  rcases List.mem_cons.1 hb' with rfl | hb'
  · exact hx2 a ha'
  · exact hs.2.2 a ha' b hb'
theorem put_perm {l : List α} (x : α) (k : Nat) : (l.take k ++ (x :: l.drop k)).Perm (x :: l) := by
  refine List.perm_middle.trans ?_
  rw [List.take_append_drop]
end Go.Proofs.Ytkjapmafipnmpaa.HpL
