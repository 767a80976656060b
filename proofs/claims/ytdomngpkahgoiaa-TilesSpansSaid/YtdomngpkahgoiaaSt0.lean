/- Stable sorting, plainly: rows as functions of tagged elements; blocks that change places; merges. -/
import Derived.Test.YtdomngpkahgoiaaBase
namespace Go.Proofs.Ytdomngpkahgoiaa.St
set_option linter.unusedVariables false
set_option linter.unusedSimpArgs false
section
variable {α : Type}
/-- A strict weak order. -/
structure SWO (lt : α → α → Bool) : Prop where
  asymm : ∀ a b, lt a b = true → lt b a = false
  trans : ∀ a b c, lt a b = true → lt b c = true → lt a c = true
  ntrans : ∀ a b c, lt b a = false → lt c b = false → lt c a = false
/-- Ahead, or alike and earlier. -/
def lex (lt : α → α → Bool) (x y : α × Nat) : Prop := lt x.1 y.1 = true ∨ (lt y.1 x.1 = false ∧ x.2 < y.2)
theorem lex_trans {lt : α → α → Bool} (h : SWO lt) {x y z : α × Nat} (h1 : lex lt x y) (h2 : lex lt y z) : lex lt x z := by
  rcases h1 with h1 | ⟨h1, h1'⟩
  · rcases h2 with h2 | ⟨h2, h2'⟩
    · exact .inl (h.trans _ _ _ h1 h2)
    · left
      cases hc : lt x.1 z.1 with
      | true => rfl
      | false => have := h.ntrans _ _ _ h2 hc; rw [h1] at this; cases this
  · rcases h2 with h2 | ⟨h2, h2'⟩
    · left
      cases hc : lt x.1 z.1 with
      | true => rfl
      | false => have := h.ntrans _ _ _ hc h1; rw [h2] at this; cases this
    · exact .inr ⟨h.ntrans _ _ _ h1 h2, by omega⟩
theorem lex_lt {lt : α → α → Bool} {x y : α × Nat} (h : lt x.1 y.1 = true) : lex lt x y := .inl h
theorem lex_tag {lt : α → α → Bool} {x y : α × Nat} (h : lt y.1 x.1 = false) (ht : x.2 < y.2) : lex lt x y := .inr ⟨h, ht⟩
theorem lex_asymm {lt : α → α → Bool} (h : SWO lt) {x y : α × Nat} (h1 : lex lt x y) (h2 : lex lt y x) : False := by
  rcases h1 with h1 | ⟨h1, h1'⟩
  · rcases h2 with h2 | ⟨h2, h2'⟩
    · rw [h.asymm _ _ h1] at h2; cases h2
    · rw [h1] at h2; cases h2
  · rcases h2 with h2 | ⟨h2, h2'⟩
    · rw [h2] at h1; cases h1
    · omega
end
section
variable {β : Type}
abbrev Row (β : Type) := Nat → β
def seg (f : Row β) (a b : Nat) : List β := (List.range' a (b - a)).map f
theorem mem_seg {f : Row β} {a b : Nat} {x : β} : x ∈ seg f a b ↔ ∃ k, a ≤ k ∧ k < b ∧ f k = x := by
  simp only [seg, List.mem_map, List.mem_range'_1]
  constructor
  · rintro ⟨k, ⟨h1, h2⟩, rfl⟩; exact ⟨k, h1, by omega, rfl⟩
  · rintro ⟨k, h1, h2, rfl⟩; exact ⟨k, ⟨h1, by omega⟩, rfl⟩
theorem seg_append (f : Row β) {a m b : Nat} (h1 : a ≤ m) (h2 : m ≤ b) : seg f a b = seg f a m ++ seg f m b := by
  unfold seg
  rw [← List.map_append]
  congr 1
  have : b - a = (m - a) + (b - m) := by omega
  rw [this, ← List.range'_append_1, show a + (m - a) = m by omega]
theorem seg_congr {f g : Row β} {a b : Nat} (h : ∀ k, a ≤ k → k < b → f k = g k) : seg f a b = seg g a b := by
  unfold seg
  refine List.map_congr_left fun k hk => ?_
  rw [List.mem_range'_1] at hk
  exact h k hk.1 (by omega)
theorem seg_shift (f : Row β) (a b d : Nat) : seg (fun k => f (k + d)) a b = seg f (a + d) (b + d) := by
  unfold seg
  rw [show b + d - (a + d) = b - a by omega]
  refine List.ext_getElem (by simp) fun i h1 h2 => ?_
  simp only [List.getElem_map, List.getElem_range']
  congr 1
  omega
/-- Elements of a to b in another order, all others as they were. -/
structure Mix (f g : Row β) (a b : Nat) : Prop where
  out : ∀ k, ¬ (a ≤ k ∧ k < b) → g k = f k
  perm : (seg g a b).Perm (seg f a b)
theorem Mix.refl (f : Row β) (a b : Nat) : Mix f f a b := ⟨fun _ _ => rfl, List.Perm.refl _⟩
theorem Mix.trans {f g h : Row β} {a b : Nat} (h1 : Mix f g a b) (h2 : Mix g h a b) : Mix f h a b :=
  ⟨fun k hk => (h2.out k hk).trans (h1.out k hk), h2.perm.trans h1.perm⟩
theorem Mix.wide {f g : Row β} {a b a' b' : Nat} (h : Mix f g a b) (ha : a' ≤ a) (hab : a ≤ b) (hb : b ≤ b') : Mix f g a' b' := by
  refine ⟨fun k hk => h.out k (fun hh => hk ⟨by omega, by omega⟩), ?_⟩
  rw [seg_append g ha (by omega : a ≤ b'), seg_append f ha (by omega : a ≤ b'), seg_append g hab hb, seg_append f hab hb]
  rw [seg_congr (f := g) (g := f) (a := a') (b := a) (fun k h1 h2 => h.out k (by omega)), seg_congr (f := g) (g := f) (a := b) (b := b') (fun k h1 h2 => h.out k (by omega))]
  exact (h.perm.append_right _).append_left _
theorem Mix.mem {f g : Row β} {a b : Nat} (h : Mix f g a b) {k : Nat} (h1 : a ≤ k) (h2 : k < b) : ∃ j, a ≤ j ∧ j < b ∧ g k = f j := by
  have : g k ∈ seg f a b := h.perm.mem_iff.1 (mem_seg.2 ⟨k, h1, h2, rfl⟩)
  obtain ⟨j, h3, h4, h5⟩ := mem_seg.1 this
  exact ⟨j, h3, h4, h5.symm⟩
/-- Two change places. -/
def sw (f : Row β) (i j : Nat) : Row β := fun k => if k = i then f j else if k = j then f i else f k
/-- n from i on change places with n from j on. -/
def swR (f : Row β) (i j n : Nat) : Row β := fun k => if i ≤ k ∧ k < i + n then f (k - i + j) else if j ≤ k ∧ k < j + n then f (k - j + i) else f k
theorem swR_zero (f : Row β) (i j : Nat) : swR f i j 0 = f := by
  funext k; unfold swR; rw [if_neg (by omega), if_neg (by omega)]
theorem swR_succ (f : Row β) {i j n : Nat} (h : i + n < j ∨ j + n < i) : sw (swR f i j n) (i + n) (j + n) = swR f i j (n + 1) := by
  funext x
  unfold sw swR
  repeat' split
  all_goals first | (exfalso; omega) | (congr 1; omega) | rfl
/-- a to m and m to b change places. -/
def rot (f : Row β) (a m b : Nat) : Row β := fun k => if a ≤ k ∧ k < a + (b - m) then f (k - a + m) else if a + (b - m) ≤ k ∧ k < b then f (k - (b - m)) else f k
theorem rot_gt (f : Row β) {m i j : Nat} (h : j < i) (him : i ≤ m) : rot (swR f (m - i) m j) (m - (i - j)) m (m + j) = rot f (m - i) m (m + j) := by
  funext x
  unfold rot swR
  repeat' split
  all_goals first | (exfalso; omega) | (congr 1; omega) | rfl
theorem rot_lt (f : Row β) {m i j : Nat} (h : i < j) (him : i ≤ m) : rot (swR f (m - i) (m + j - i) i) (m - i) m (m + (j - i)) = rot f (m - i) m (m + j) := by
  funext x
  unfold rot swR
  repeat' split
  all_goals first | (exfalso; omega) | (congr 1; omega) | rfl
theorem rot_eq (f : Row β) {m i : Nat} (him : i ≤ m) : swR f (m - i) m i = rot f (m - i) m (m + i) := by
  funext x
  unfold rot swR
  repeat' split
  all_goals first | (exfalso; omega) | (congr 1; omega) | rfl
theorem mix_rot (f : Row β) {a m b : Nat} (h1 : a ≤ m) (h2 : m ≤ b) : Mix f (rot f a m b) a b := by
  refine ⟨fun k hk => ?_, ?_⟩
  · unfold rot; rw [if_neg (by omega), if_neg (by omega)]
  · rw [seg_append _ (show a ≤ a + (b - m) by omega) (by omega : a + (b - m) ≤ b)]
    have e1 : seg (rot f a m b) a (a + (b - m)) = seg f m b := by
      rw [seg_congr (g := fun k => f (k + (m - a))) (fun k h1 h2 => by unfold rot; rw [if_pos (by omega)]; congr 1; omega), seg_shift]
      congr 1 <;> omega
    have e2 : seg (rot f a m b) (a + (b - m)) b = seg f a m := by
      have := seg_shift (fun k => rot f a m b k) a m (b - m)
      rw [show m + (b - m) = b by omega] at this
      rw [← this]
      refine seg_congr fun k h1 h2 => ?_
      show rot f a m b (k + (b - m)) = f k
      unfold rot
      rw [if_neg (by omega), if_pos (by omega)]
      congr 1; omega
    rw [e1, e2, seg_append f h1 h2]
    exact List.perm_append_comm
theorem rot_left {f : Row β} {a m b k : Nat} (h : a ≤ k) (h2 : k < a + (b - m)) : rot f a m b k = f (k - a + m) := by unfold rot; rw [if_pos ⟨h, h2⟩]
theorem rot_right {f : Row β} {a m b k : Nat} (h : a + (b - m) ≤ k) (h2 : k < b) : rot f a m b k = f (k - (b - m)) := by unfold rot; rw [if_neg (by omega), if_pos ⟨h, h2⟩]
theorem sw_rot (f : Row β) (i : Nat) : sw f i (i + 1) = rot f i (i + 1) (i + 2) := by
  funext x
  unfold sw rot
  repeat' split
  all_goals first | (exfalso; omega) | (congr 1; omega) | rfl
theorem sw_comm (f : Row β) (i j : Nat) : sw f i j = sw f j i := by
  funext x
  unfold sw
  repeat' split
  all_goals first | (exfalso; omega) | (congr 1; omega) | rfl
theorem mix_sw (f : Row β) (i : Nat) : Mix f (sw f i (i + 1)) i (i + 2) := by rw [sw_rot]; exact mix_rot f (by omega) (by omega)
/-- The first goes behind the k next ones, step by step. -/
theorem rot_step (f : Row β) {a k : Nat} (h : a < k) : sw (rot f a (a + 1) k) (k - 1) k = rot f a (a + 1) (k + 1) := by
  funext x
  unfold sw rot
  repeat' split
  all_goals first | (exfalso; omega) | (congr 1; omega) | rfl
end
end Go.Proofs.Ytdomngpkahgoiaa.St
