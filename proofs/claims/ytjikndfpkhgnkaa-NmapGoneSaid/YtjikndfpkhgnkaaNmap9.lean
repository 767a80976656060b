/- NmapGone: the plain law. -/
import Derived.Test.YtjikndfpkhgnkaaNmap8
namespace Go.Proofs.Ytjikndfpkhgnkaa.Nm
open Go.RowKit
set_option linter.unusedVariables false
set_option linter.unusedSimpArgs false

theorem idl_rng (f : Nat → Int) (k : Nat) : ∀ x ∈ idl f k, 1 ≤ x ∧ x < k := by
  induction k with
  | zero => intro x h; simp [idl] at h
  | succ k ih =>
    intro x h
    unfold idl at h
    split at h
    · rename_i hc
      rcases List.mem_append.1 h with h | h
      · have := ih x h; omega
      · have : x = (k : Int) := by simpa using h
        omega
    · have := ih x h; omega
theorem idl_has {f : Nat → Int} {i : Nat} (h0 : 0 < i) (h1 : f i ≠ 0) : ∀ {k : Nat}, i < k → (i : Int) ∈ idl f k
  | 0, h => by omega
  | k + 1, h => by
    unfold idl
    by_cases e : i = k
    · subst e; rw [if_pos ⟨h0, h1⟩]; simp
    · have := idl_has h0 h1 (k := k) (by omega)
      split
      · exact List.mem_append_left _ this
      · exact this
theorem idl_none {f : Nat → Int} : ∀ {k : Nat}, (∀ i, 0 < i → i < k → f i = 0) → idl f k = []
  | 0, _ => rfl
  | k + 1, h => by
    rw [idl_no (fun hc => hc.2 (h k hc.1 (by omega)))]
    exact idl_none fun i h0 hk => h i h0 (by omega)
def goneL (l : List Int) : List EntS := l.map fun x => ⟨2, x⟩
def backL (l : List Int) : List EntS := l.map fun x => ⟨1, x⟩
theorem ent_ok {z x : Int} (hz : z = 1 ∨ z = 2) (h : 1 ≤ x ∧ x ≤ 255) : (EntS.mk z x).odd = false := by simp [EntS.odd]; omega
theorem ap_gone (J : List Int) : ∀ (f : Nat → Int) (a : List Int), (∀ x ∈ J, 1 ≤ x ∧ x ≤ 255) → ∃ g, apAll (f, a) (goneL J) = some (g, a) ∧ ∀ i : Nat, g i = if (i : Int) ∈ J then 0 else f i := by
  induction J with
  | nil => intro f a _; exact ⟨f, rfl, fun i => by simp⟩
  | cons x J ih =>
    intro f a h
    have hx := h x (by simp)
    obtain ⟨g, h1, h2⟩ := ih (upd f x 0) a fun y hy => h y (by simp [hy])
    refine ⟨g, ?_, fun i => ?_⟩
    · unfold apAll goneL at *
      rw [List.map_cons, List.foldlM_cons, apStep_gone (ent_ok (.inr rfl) hx) (by simp)]
      exact h1
    · rw [h2 i]
      unfold upd
      by_cases e : (i : Int) = x
      · rw [if_pos (show 1 ≤ x ∧ x < 256 ∧ (i : Int) = x by omega)]
        simp [e]
      · rw [if_neg (show ¬ (1 ≤ x ∧ x < 256 ∧ (i : Int) = x) by omega)]
        simp [e]
theorem ap_back (F : Nat → Int) (J : List Int) : ∀ (g : Nat → Int), (∀ x ∈ J, 1 ≤ x ∧ x ≤ 255) → ∃ h, apAll (g, secs F J) (backL J) = some (h, []) ∧ ∀ i : Nat, h i = if (i : Int) ∈ J then F i else g i := by
  induction J with
  | nil => intro g _; exact ⟨g, rfl, fun i => by simp⟩
  | cons x J ih =>
    intro g h
    have hx := h x (by simp)
    obtain ⟨g', h1, h2⟩ := ih (upd g x (F x.toNat)) fun y hy => h y (by simp [hy])
    refine ⟨g', ?_, fun i => ?_⟩
    · have e : apStep (g, secs F (x :: J)) ⟨1, x⟩ = some (upd g x (F x.toNat), secs F J) := apStep_kept (ent_ok (.inl rfl) hx) rfl
      unfold apAll backL at *
      rw [List.map_cons, List.foldlM_cons, e]
      exact h1
    · rw [h2 i]
      unfold upd
      by_cases e : (i : Int) = x
      · rw [if_pos (show 1 ≤ x ∧ x < 256 ∧ (i : Int) = x by omega)]
        have : x.toNat = i := by omega
        simp [e, this]
      · rw [if_neg (show ¬ (1 ≤ x ∧ x < 256 ∧ (i : Int) = x) by omega)]
        simp [e]
/-- All are told to be gone, and written again. -/
theorem gone_law (f : Nat → Int) : ∃ g h : Nat → Int, apF f (goneL (idl f 256)) [] = g ∧ apB f (goneL (idl f 256)) [] = true ∧ apF g (backL (idl f 256)) (secs f (idl f 256)) = h ∧ apB g (backL (idl f 256)) (secs f (idl f 256)) = true ∧
    idl g 256 = [] ∧ ∀ i, i < 256 → h i = f i := by
  have hr : ∀ x ∈ idl f 256, 1 ≤ x ∧ x ≤ 255 := fun x hx => by have := idl_rng f 256 x hx; omega
  obtain ⟨g, g1, g2⟩ := ap_gone (idl f 256) f [] hr
  obtain ⟨h, h1, h2⟩ := ap_back f (idl f 256) g hr
  refine ⟨g, h, (ap_all g1).1, (ap_all g1).2, (ap_all h1).1, (ap_all h1).2, idl_none fun i h0 hi => ?_, fun i hi => ?_⟩
  · rw [g2 i]
    split
    · rfl
    · rename_i hn
      cases hd : decide (f i = 0)
      · exact absurd (idl_has h0 (of_decide_eq_false hd) hi) hn
      · exact of_decide_eq_true hd
  · rw [h2 i]
    split
    · rfl
    · rename_i hn
      rw [g2 i, if_neg hn]
theorem goneL_succ (l : List Int) (k : Nat) (h : k < l.length) : goneL (l.take (k + 1)) = goneL (l.take k) ++ [⟨2, l[k]⟩] := by unfold goneL; rw [List.take_succ_eq_append_getElem h, List.map_append]; rfl
theorem backL_succ (l : List Int) (k : Nat) (h : k < l.length) : backL (l.take (k + 1)) = backL (l.take k) ++ [⟨1, l[k]⟩] := by unfold backL; rw [List.take_succ_eq_append_getElem h, List.map_append]; rfl
theorem secs_succ (f : Nat → Int) (l : List Int) (k : Nat) (h : k < l.length) : secs f (l.take (k + 1)) = secs f (l.take k) ++ [f l[k].toNat] := by unfold secs; rw [List.take_succ_eq_append_getElem h, List.map_append]; rfl
theorem rd_one_n {w : World} {n : Nat} (hn : n = w.heap.size) (x : EntS) (t : TypeId) : Rd (w.alloc (.cells #[.int .i64 x.kind, .int .i64 x.id] t)) (some ⟨n, 0, none⟩) ([x].flatMap EntS.cells) := by
  subst hn; exact rd_one w x t _ rfl
theorem own_grown {W W' : World} {base n size : Nat} {e : TypeId} {v : Value} {xs : List Value} {row : Option Nat} (h : W.ownsRow base e size v n xs) (hg : W.grownBy W' row) (hne : ∀ q, v.ownBlock = some q → some q ≠ row) : W'.ownsRow base e size v n xs :=
  own_move h fun q hq => hg.block q (own_lt h q hq) (hne q hq)
theorem own_apart {W : World} {base base' n n' size size' : Nat} {e e' : TypeId} {v v' : Value} {xs xs' : List Value} (h : W.ownsRow base e size v n xs) (h' : W.ownsRow base' e' size' v' n' xs') (hne : e ≠ e') (q : Nat) (hq : v.ownBlock = some q) : some q ≠ v'.ownBlock := fun e => by
  obtain ⟨c1, hc1⟩ := own_typed h q hq
  exact own_ne_block h' hc1 (fun x => hne x.symm) e.symm
theorem rd_grown {W W' : World} {A : Option Addr} {xs : List Value} {row : Option Nat} (h : Rd W A xs) (hg : W.grownBy W' row) (hne : ∀ ad, A = some ad → some ad.block ≠ row) : Rd W' A xs := fun i hi => by
  obtain ⟨ad, e, hc⟩ := h i hi
  refine ⟨ad, e, ?_⟩
  rw [List.getElem?_eq_getElem hi] at hc ⊢
  rw [World.cell?_of_block (hg.block (ad.add i).block (World.block_lt_of_cell? W _ hc) (by rw [add_block]; exact hne ad e))]
  exact hc
end Go.Proofs.Ytjikndfpkhgnkaa.Nm
