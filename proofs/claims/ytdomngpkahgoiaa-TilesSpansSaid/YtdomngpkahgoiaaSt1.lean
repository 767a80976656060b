/- Stable sorting, plainly: one put in its place, merges, blocks; the sorted list is the one. -/
import Derived.Test.YtdomngpkahgoiaaSt0
namespace Go.Proofs.Ytdomngpkahgoiaa.St
set_option linter.unusedVariables false
set_option linter.unusedSimpArgs false
theorem rot_back {β : Type} (f : Row β) {k m : Nat} (h : 0 < k) (hk : k ≤ m) : sw (rot f k m (m + 1)) k (k - 1) = rot f (k - 1) m (m + 1) := by
  funext x
  unfold sw rot
  repeat' split
  all_goals first | (exfalso; omega) | (congr 1; omega) | rfl
theorem rot_none {β : Type} (f : Row β) (a m : Nat) : rot f a m m = f := by
  funext x
  unfold rot
  repeat' split
  all_goals first | (exfalso; omega) | (congr 1; omega) | rfl
theorem rot_none' {β : Type} (f : Row β) (m b : Nat) : rot f m m b = f := by
  funext x
  unfold rot
  repeat' split
  all_goals first | (exfalso; omega) | (congr 1; omega) | rfl
section
variable {α : Type} {lt : α → α → Bool} {f g h : Row (α × Nat)} {a m b : Nat}
def Sorted (lt : α → α → Bool) (f : Row (α × Nat)) (a b : Nat) : Prop := ∀ i j, a ≤ i → i < j → j < b → lex lt (f i) (f j)
def TagLt (f : Row (α × Nat)) (a m b : Nat) : Prop := ∀ i j, a ≤ i → i < m → m ≤ j → j < b → (f i).2 < (f j).2
theorem Sorted.congr (hs : Sorted lt f a b) (hc : ∀ k, a ≤ k → k < b → g k = f k) : Sorted lt g a b := fun i j h1 h2 h3 => by
  rw [hc i h1 (by omega), hc j (by omega) h3]; exact hs i j h1 h2 h3
theorem Sorted.sub (hs : Sorted lt f a b) {a' b' : Nat} (ha : a ≤ a') (hb : b' ≤ b) : Sorted lt f a' b' := fun i j h1 h2 h3 => hs i j (by omega) h2 (by omega)
theorem Sorted.le (w : SWO lt) (hs : Sorted lt f a b) {i j k : Nat} (x : α × Nat) (h1 : a ≤ i) (h2 : i ≤ j) (h3 : j < b) (hx : lex lt (f j) x) : lex lt (f i) x := by
  rcases Nat.lt_or_ge i j with h4 | h4
  · exact lex_trans w (hs i j h1 h4 h3) hx
  · have : i = j := by omega
    subst this; exact hx
theorem Sorted.ge (w : SWO lt) (hs : Sorted lt f a b) {i j : Nat} (x : α × Nat) (h1 : a ≤ i) (h2 : i ≤ j) (h3 : j < b) (hx : lex lt x (f i)) : lex lt x (f j) := by
  rcases Nat.lt_or_ge i j with h4 | h4
  · exact lex_trans w hx (hs i j h1 h4 h3)
  · have : i = j := by omega
    subst this; exact hx
/-- Sorted on both sides, each of the left ahead of each of the right. -/
theorem sorted_join (h1 : Sorted lt f a m) (h2 : Sorted lt f m b) (hx : ∀ i j, a ≤ i → i < m → m ≤ j → j < b → lex lt (f i) (f j)) : Sorted lt f a b := fun i j h3 h4 h5 => by
  rcases Nat.lt_or_ge j m with h6 | h6
  · exact h1 i j h3 h4 h6
  · rcases Nat.lt_or_ge i m with h7 | h7
    · exact hx i j h3 h7 h6 h5
    · exact h2 i j h7 h4 h5
/-- The last one, put in its place. -/
theorem put_last (w : SWO lt) (hs : Sorted lt f a m) (ht : TagLt f a m (m + 1)) {i : Nat} (h1 : a ≤ i) (h2 : i ≤ m) (hl : a < i → lt (f m).1 (f (i - 1)).1 = false) (hr : i < m → lt (f m).1 (f i).1 = true) :
    Sorted lt (rot f i m (m + 1)) a (m + 1) ∧ Mix f (rot f i m (m + 1)) a (m + 1) := by
  refine ⟨fun j k h3 h4 h5 => ?_, (mix_rot f h2 (by omega)).wide h1 (by omega) (by omega)⟩
  have hlo : ∀ j, a ≤ j → j < i → lex lt (f j) (f m) := fun j h6 h7 => hs.le (k := 0) w (f m) h6 (show j ≤ i - 1 by omega) (by omega) (lex_tag (hl (by omega)) (ht _ _ (by omega) (by omega) (by omega) (by omega)))
  have hhi : ∀ j, i ≤ j → j < m → lex lt (f m) (f j) := fun j h6 h7 => hs.ge w (f m) h1 h6 h7 (lex_lt (hr (by omega)))
  have e1 : ∀ k, k < i → rot f i m (m + 1) k = f k := fun k hk => by unfold rot; rw [if_neg (by omega), if_neg (by omega)]
  have e2 : rot f i m (m + 1) i = f m := by rw [rot_left (by omega) (by omega)]; congr 1; omega
  have e3 : ∀ k, i < k → k < m + 1 → rot f i m (m + 1) k = f (k - 1) := fun k h6 h7 => by rw [rot_right (by omega) h7]; congr 1; omega
  rcases Nat.lt_trichotomy k i with c | c | c
  · rw [e1 j (by omega), e1 k c]; exact hs j k h3 h4 (by omega)
  · subst c; rw [e1 j (by omega), e2]; exact hlo j h3 h4
  · rw [e3 k c h5]
    rcases Nat.lt_trichotomy j i with d | d | d
    · rw [e1 j d]; exact hs j (k - 1) h3 (by omega) (by omega)
    · subst d; rw [e2]; exact hhi (k - 1) (by omega) (by omega)
    · rw [e3 j d (by omega)]; exact hs (j - 1) (k - 1) (by omega) (by omega) (by omega)
/-- The first one, put in its place. -/
theorem put_first (w : SWO lt) (hs : Sorted lt f (a + 1) b) (ht : TagLt f a (a + 1) b) {i : Nat} (h1 : a + 1 ≤ i) (h2 : i ≤ b) (hl : a + 1 < i → lt (f (i - 1)).1 (f a).1 = true) (hr : i < b → lt (f i).1 (f a).1 = false) :
    Sorted lt (rot f a (a + 1) i) a b ∧ Mix f (rot f a (a + 1) i) a b := by
  refine ⟨fun j k h3 h4 h5 => ?_, (mix_rot f (by omega) h1).wide (by omega) (by omega) h2⟩
  have hlo : ∀ j, a + 1 ≤ j → j < i → lex lt (f j) (f a) := fun j h6 h7 => hs.le (k := 0) w (f a) h6 (show j ≤ i - 1 by omega) (by omega) (lex_lt (hl (by omega)))
  have hhi : ∀ j, i ≤ j → j < b → lex lt (f a) (f j) := fun j h6 h7 => hs.ge w (f a) h1 h6 h7 (lex_tag (hr (by omega)) (ht _ _ (by omega) (by omega) (by omega) (by omega)))
  have e1 : ∀ k, a ≤ k → k < i - 1 → rot f a (a + 1) i k = f (k + 1) := fun k h6 hk => by rw [rot_left h6 (by omega)]; congr 1; omega
  have e2 : rot f a (a + 1) i (i - 1) = f a := by rw [rot_right (by omega) (by omega)]; congr 1; omega
  have e3 : ∀ k, i ≤ k → rot f a (a + 1) i k = f k := fun k h6 => by unfold rot; rw [if_neg (by omega), if_neg (by omega)]
  rcases Nat.lt_trichotomy k (i - 1) with c | c | c
  · rw [e1 j h3 (by omega), e1 k (by omega) c]; exact hs (j + 1) (k + 1) (by omega) (by omega) (by omega)
  · subst c; rw [e1 j h3 h4, e2]; exact hlo (j + 1) (by omega) (by omega)
  · rw [e3 k (by omega)]
    rcases Nat.lt_trichotomy j (i - 1) with d | d | d
    · rw [e1 j h3 d]; exact hs (j + 1) k (by omega) (by omega) (by omega)
    · subst d; rw [e2]; exact hhi k (by omega) h5
    · rw [e3 j (by omega)]; exact hs j k (by omega) h4 h5
/-- The two halves of a merge. -/
theorem halves (w : SWO lt) (h1 : Sorted lt f a m) (h2 : Sorted lt f m b) (ht : TagLt f a m b) {s e mid : Nat} (hs1 : a ≤ s) (hs2 : s ≤ m) (he1 : m ≤ e) (he2 : e ≤ b) (hmid : s + e = mid + m)
    (hl : a < s → e < b → lt (f e).1 (f (s - 1)).1 = false) (hr : s < m → m < e → lt (f (e - 1)).1 (f s).1 = true) :
    Sorted lt (rot f s m e) a s ∧ Sorted lt (rot f s m e) s mid ∧ TagLt (rot f s m e) a s mid ∧ Sorted lt (rot f s m e) mid e ∧ Sorted lt (rot f s m e) e b ∧ TagLt (rot f s m e) mid e b ∧ Mix f (rot f s m e) a b ∧
      ∀ i j, a ≤ i → i < mid → mid ≤ j → j < b → lex lt (rot f s m e i) (rot f s m e j) := by
  have e1 : ∀ k, k < s → rot f s m e k = f k := fun k hk => by unfold rot; rw [if_neg (by omega), if_neg (by omega)]
  have e2 : ∀ k, s ≤ k → k < mid → rot f s m e k = f (k - s + m) := fun k h3 h4 => rot_left h3 (by omega)
  have e3 : ∀ k, mid ≤ k → k < e → rot f s m e k = f (k - (e - m)) := fun k h3 h4 => rot_right (by omega) h4
  have e4 : ∀ k, e ≤ k → rot f s m e k = f k := fun k hk => by unfold rot; rw [if_neg (by omega), if_neg (by omega)]
  refine ⟨?_, ?_, ?_, ?_, ?_, ?_, (mix_rot f hs2 he1).wide hs1 (by omega) he2, ?_⟩
  · intro i j h3 h4 h5; rw [e1 i (by omega), e1 j h5]; exact h1 i j h3 h4 (by omega)
  · intro i j h3 h4 h5; rw [e2 i h3 (by omega), e2 j (by omega) h5]; exact h2 _ _ (by omega) (by omega) (by omega)
  · intro i j h3 h4 h5 h6; rw [e1 i h4, e2 j h5 h6]; exact ht _ _ h3 (by omega) (by omega) (by omega)
  · intro i j h3 h4 h5; rw [e3 i h3 (by omega), e3 j (by omega) h5]; exact h1 _ _ (by omega) (by omega) (by omega)
  · intro i j h3 h4 h5; rw [e4 i h3, e4 j (by omega)]; exact h2 i j (by omega) h4 h5
  · intro i j h3 h4 h5 h6; rw [e3 i h3 h4, e4 j h5]; exact ht _ _ (by omega) (by omega) (by omega) h6
  · intro i j h3 h4 h5 h6
    rcases Nat.lt_or_ge i s with c | c
    · rw [e1 i c]
      rcases Nat.lt_or_ge j e with d | d
      · rw [e3 j h5 d]; exact h1 _ _ h3 (by omega) (by omega)
      · rw [e4 j d]
        refine h1.le (k := 0) w _ h3 (show i ≤ s - 1 by omega) (by omega) ?_
        exact h2.ge w _ he1 d h6 (lex_tag (hl (by omega) (by omega)) (ht _ _ (by omega) (by omega) he1 (by omega)))
    · rw [e2 i c h4]
      rcases Nat.lt_or_ge j e with d | d
      · rw [e3 j h5 d]
        refine h2.le (k := 0) w _ (by omega) (show i - s + m ≤ e - 1 by omega) (by omega) ?_
        exact h1.ge w _ hs1 (show s ≤ j - (e - m) by omega) (by omega) (lex_lt (hr (by omega) (by omega)))
      · rw [e4 j d]; exact h2 _ _ (by omega) (by omega) h6
/-- Both halves sorted: all is. -/
theorem halves_end {mid : Nat} (ha : a ≤ mid) (hb : mid ≤ b) (hx : ∀ i j, a ≤ i → i < mid → mid ≤ j → j < b → lex lt (f i) (f j)) (h1 : Mix f g a mid) (s1 : Sorted lt g a mid) (h2 : Mix g h mid b) (s2 : Sorted lt h mid b) : Sorted lt h a b ∧ Mix f h a b := by
  refine ⟨sorted_join (s1.congr fun k h3 h4 => h2.out k (by omega)) s2 fun i j h3 h4 h5 h6 => ?_, (h1.wide (Nat.le_refl _) ha hb).trans (h2.wide ha hb (Nat.le_refl _))⟩
  rw [h2.out i (by omega)]
  obtain ⟨j', h7, h8, e⟩ := h2.mem h5 h6
  rw [e, h1.out j' (by omega)]
  obtain ⟨i', h9, h10, e2⟩ := h1.mem h3 h4
  rw [e2]
  exact hx _ _ h9 h10 h7 h8
/-- Tags are in their block. -/
def TagIn (f : Row (α × Nat)) (bs lo n : Nat) : Prop := ∀ i, lo ≤ i → i < n → (f i).2 / bs = i / bs
/-- From lo to x each block is sorted. -/
def SB (lt : α → α → Bool) (f : Row (α × Nat)) (bs lo x : Nat) : Prop := ∀ i j, lo ≤ i → i < j → j < x → i / bs = j / bs → lex lt (f i) (f j)
theorem div_in {bs q i : Nat} (hb : 0 < bs) : i / bs = q ↔ q * bs ≤ i ∧ i < q * bs + bs := by
  rw [Nat.div_eq_iff hb]
  constructor
  · rintro ⟨h1, h2⟩; exact ⟨h1, by omega⟩
  · rintro ⟨h1, h2⟩; exact ⟨h1, by omega⟩
theorem TagIn.mix {bs lo n q : Nat} (hb : 0 < bs) (ht : TagIn f bs lo n) (hm : Mix f g a b) (ha : a = q * bs) (hab : b ≤ a + bs) (hbn : b ≤ n) (hlo : lo ≤ a) : TagIn g bs lo n := fun i h1 h2 => by
  by_cases c : a ≤ i ∧ i < b
  · obtain ⟨j, h3, h4, e⟩ := hm.mem c.1 c.2
    rw [e, ht j (by omega) (by omega), (div_in (q := q) hb).2 ⟨by omega, by omega⟩, (div_in (q := q) hb).2 ⟨by omega, by omega⟩]
  · rw [hm.out i c]; exact ht i h1 h2
theorem SB.mix {bs q : Nat} (hb : 0 < bs) (hs : SB lt f bs 0 a) (hm : Mix f g a b) (ha : a = q * bs) (hg : Sorted lt g a b) : SB lt g bs 0 b := fun i j _ h2 h3 h4 => by
  rcases Nat.lt_or_ge j a with c | c
  · rw [hm.out i (by omega), hm.out j (by omega)]; exact hs i j (Nat.zero_le _) h2 c h4
  · have h5 : q ≤ j / bs := (Nat.le_div_iff_mul_le hb).2 (by omega)
    rw [← h4] at h5
    have h6 := (Nat.le_div_iff_mul_le hb).1 h5
    exact hg i j (by omega) h2 h3
theorem TagIn.dbl {bs lo n : Nat} (ht : TagIn f bs lo n) : TagIn f (2 * bs) lo n := fun i h1 h2 => by
  rw [Nat.mul_comm, ← Nat.div_div_eq_div_mul, ← Nat.div_div_eq_div_mul, ht i h1 h2]
theorem SB.far {bs lo lo' x : Nat} (hs : SB lt f bs lo x) (hm : ∀ k, lo' ≤ k → g k = f k) (h : lo ≤ lo') : SB lt g bs lo' x := fun i j h1 h2 h3 h4 => by
  rw [hm i h1, hm j (by omega)]; exact hs i j (by omega) h2 h3 h4
theorem TagIn.far {bs lo lo' n : Nat} (ht : TagIn f bs lo n) (hm : ∀ k, lo' ≤ k → g k = f k) (h : lo ≤ lo') : TagIn g bs lo' n := fun i h1 h2 => by
  rw [hm i h1]; exact ht i (by omega) h2
/-- A block's halves may be merged. -/
theorem merge_pre {bs n q : Nat} (hb : 0 < bs) (ha : a = q * (2 * bs)) (hs : SB lt f bs a n) (ht : TagIn f bs a n) (h1 : a + bs ≤ b) (h2 : b ≤ a + 2 * bs) (h3 : b ≤ n) : Sorted lt f a (a + bs) ∧ Sorted lt f (a + bs) b ∧ TagLt f a (a + bs) b := by
  have ha2 : a = (2 * q) * bs := by rw [ha, ← Nat.mul_assoc, Nat.mul_comm q 2]
  have hm : (2 * q + 1) * bs = a + bs := by rw [Nat.succ_mul, ← ha2]
  refine ⟨fun i j h4 h5 h6 => hs i j h4 h5 (by omega) ?_, fun i j h4 h5 h6 => hs i j (by omega) h5 (by omega) ?_, fun i j h4 h5 h6 h7 => ?_⟩
  · rw [(div_in (q := 2 * q) hb).2 ⟨by omega, by omega⟩, (div_in (q := 2 * q) hb).2 ⟨by omega, by omega⟩]
  · rw [(div_in (q := 2 * q + 1) hb).2 ⟨by omega, by omega⟩, (div_in (q := 2 * q + 1) hb).2 ⟨by omega, by omega⟩]
  · have e1 := (ht i h4 (by omega)).trans ((div_in (q := 2 * q) hb).2 ⟨by omega, by omega⟩)
    have e2 := (ht j (by omega) (by omega)).trans ((div_in (q := 2 * q + 1) hb).2 ⟨by omega, by omega⟩)
    have e3 := (div_in hb).1 e1
    have e4 := (div_in hb).1 e2
    omega
/-- What is left is one half block: it is sorted. -/
theorem last_half {bs n q : Nat} (hb : 0 < bs) (ha : a = q * (2 * bs)) (hs : SB lt f (2 * bs) 0 a) (hs2 : SB lt f bs a n) (hn : n ≤ a + bs) : SB lt f (2 * bs) 0 n := fun i j h1 h2 h3 h4 => by
  rcases Nat.lt_or_ge j a with c | c
  · exact hs i j h1 h2 c h4
  · have ha2 : a = (2 * q) * bs := by rw [ha, ← Nat.mul_assoc, Nat.mul_comm q 2]
    have h5 : q ≤ j / (2 * bs) := (Nat.le_div_iff_mul_le (by omega)).2 (by omega)
    rw [← h4] at h5
    have h6 := (Nat.le_div_iff_mul_le (by omega)).1 h5
    refine hs2 i j (by omega) h2 h3 ?_
    rw [(div_in (q := 2 * q) hb).2 ⟨by omega, by omega⟩, (div_in (q := 2 * q) hb).2 ⟨by omega, by omega⟩]
theorem SB.all {bs n : Nat} (hb : n ≤ bs) (hs : SB lt f bs 0 n) : Sorted lt f 0 n := fun i j h1 h2 h3 => hs i j h1 h2 h3 (by rw [Nat.div_eq_of_lt (by omega), Nat.div_eq_of_lt (by omega)])
end
/-- The row's list. -/
def lst {α : Type} (n : Nat) (f : Row (α × Nat)) : List α := (List.range n).map fun i => (f i).1
theorem lst_len {α : Type} (n : Nat) (f : Row (α × Nat)) : (lst n f).length = n := by simp [lst]
theorem lst_get {α : Type} {n : Nat} (f : Row (α × Nat)) {i : Nat} (h : i < (lst n f).length) : (lst n f)[i] = (f i).1 := by simp [lst]
theorem lst_sw {α : Type} {n : Nat} (f : Row (α × Nat)) {i j : Nat} (hi : i < n) (hj : j < n) : ((lst n f).set i (f j).1).set j (f i).1 = lst n (sw f i j) := by
  refine List.ext_getElem (by simp [lst]) fun k h1 h2 => ?_
  rw [lst_get, List.getElem_set, List.getElem_set]
  unfold sw
  have h3 : k < (lst n f).length := by simpa using h1
  rw [lst_get f h3]
  by_cases c1 : j = k
  · subst c1
    rw [if_pos rfl]
    by_cases c2 : j = i
    · rw [if_pos c2, c2]
    · rw [if_neg c2, if_pos rfl]
  · rw [if_neg c1]
    by_cases c2 : i = k
    · rw [if_pos c2, if_pos c2.symm]
    · rw [if_neg c2, if_neg (fun e => c2 e.symm), if_neg (fun e => c1 e.symm)]
/-- The beginning: each with its place. -/
def row0 {α : Type} (L : List α) (d : α) : Row (α × Nat) := fun i => (L[i]?.getD d, i)
theorem lst_row0 {α : Type} (L : List α) (d : α) : lst L.length (row0 L d) = L := by
  refine List.ext_getElem (by simp [lst]) fun i h1 h2 => ?_
  simp [lst, row0, h2]
/-- A sorted row is the list, sorted. -/
theorem sorted_is {α : Type} {lt : α → α → Bool} (w : SWO lt) (L : List α) (d : α) {f : Row (α × Nat)} (hm : Mix (row0 L d) f 0 L.length) (hs : Sorted lt f 0 L.length) : lst L.length f = L.mergeSort (fun a b => !lt b a) := by
  have tr : ∀ a b c : α, (!lt b a) = true → (!lt c b) = true → (!lt c a) = true := fun a b c h1 h2 => by
    simp only [Bool.not_eq_true'] at *
    exact w.ntrans _ _ _ h1 h2
  have tot : ∀ a b : α, ((!lt b a) || (!lt a b)) = true := fun a b => by
    cases h : lt b a with
    | false => rfl
    | true => rw [w.asymm _ _ h]; rfl
  have hz : seg (row0 L d) 0 L.length = L.zipIdx := by
    refine List.ext_getElem (by simp [seg]) fun i h1 h2 => ?_
    have h3 : i < L.length := by simpa [seg] using h1
    simp [seg, row0, h3]
  have hp : (seg f 0 L.length).Perm L.zipIdx := hz ▸ hm.perm
  have h1 : (seg f 0 L.length).Pairwise (fun x y => List.zipIdxLE (fun a b => !lt b a) x y = true) := by
    rw [List.pairwise_iff_getElem]
    intro i j hi hj hij
    have hj' : j < L.length := by simpa [seg] using hj
    have := hs i j (Nat.zero_le _) hij hj'
    simp only [seg, List.getElem_map, List.getElem_range', Nat.zero_add, Nat.one_mul, List.zipIdxLE]
    rcases this with h | ⟨h, ht⟩
    · rw [w.asymm _ _ h, h]; rfl
    · rw [h]
      cases hh : lt (f i).1 (f j).1 with
      | true => rfl
      | false => simp; omega
  have h2 := List.pairwise_mergeSort (le := List.zipIdxLE (fun a b => !lt b a)) (List.zipIdxLE_trans tr) (List.zipIdxLE_total tot) L.zipIdx
  have heq : seg f 0 L.length = L.zipIdx.mergeSort (List.zipIdxLE (fun a b => !lt b a)) := by
    refine List.Perm.eq_of_pairwise (le := fun x y => List.zipIdxLE (fun a b => !lt b a) x y = true) ?_ h1 h2 (hp.trans (List.mergeSort_perm _ _).symm)
    intro x y hx hy hxy hyx
    have hx' := hp.mem_iff.1 hx
    have hy' := (List.mergeSort_perm _ _).mem_iff.1 hy
    obtain ⟨x1, x2⟩ := x
    obtain ⟨y1, y2⟩ := y
    have e : x2 = y2 := by
      simp only [List.zipIdxLE] at hxy hyx
      split at hxy
      · split at hxy
        · rename_i c1 c2
          rw [if_pos c2, if_pos c1] at hyx
          simp only [decide_eq_true_eq] at hxy hyx
          omega
        · rename_i c1 c2
          rw [if_neg c2] at hyx
          cases hyx
      · cases hxy
    subst e
    have a1 : L[x2]? = some x1 := List.mem_zipIdx_iff_getElem?.1 hx'
    have a2 : L[x2]? = some y1 := List.mem_zipIdx_iff_getElem?.1 hy'
    rw [a1] at a2
    injection a2 with a2
    rw [a2]
  refine Eq.trans ?_ List.mergeSort_zipIdx
  rw [← heq]
  simp [seg, lst, List.range_eq_range']
end Go.Proofs.Ytdomngpkahgoiaa.St
