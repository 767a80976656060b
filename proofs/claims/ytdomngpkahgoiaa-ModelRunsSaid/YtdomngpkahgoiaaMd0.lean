/- Package model, plainly. -/
import Derived.Test.YtdomngpkahgoiaaPs1
import Derived.Test.YtdomngpkahgoiaaPt8
import Derived.Test.YtdomngpkahgoiaaSt11
namespace Go.Proofs.Ytdomngpkahgoiaa.Md
open Go.RowKit Pt St
set_option linter.unusedVariables false
set_option linter.unusedSimpArgs false
theorem byId_perm (l : List PtS) : (byId l).Perm l := List.mergeSort_perm _ _
theorem byId_length (l : List PtS) : (byId l).length = l.length := sort_len l
theorem byId_snoc (A : List PtS) (p : PtS) : byId (byId A ++ [p]) = byId (A ++ [p]) := sort_snoc swo_id A p
/-- The place of an Id. -/
abbrev at_ (l : List PtS) (id : Int) : Int := fidx (fun x : PtS => x.id == id) l
/-- What Insert answers, and the points then. -/
def insC (p : PtS) (l : List PtS) : Int := if p.chk ≠ 0 then p.chk else if 0 ≤ at_ l p.id then 22 else 0
def insL (p : PtS) (l : List PtS) : List PtS := if insC p l = 0 then byId (l ++ [p]) else l
theorem at_iff (l : List PtS) (id : Int) : 0 ≤ at_ l id ↔ id ∈ l.map PtS.id := by
  have := fidx_nn (fun x : PtS => x.id == id) l
  rw [← decide_eq_true_iff (p := 0 ≤ at_ l id), this, List.any_eq_true]
  simp [List.mem_map]
theorem new_once (m : Nat) : ∀ (l o : List PtS), o.length + l.length ≤ m → l.foldl (fun o p => insL p o) (byId o) = byId (l.foldl (onceS m) o)
  | [], o, _ => rfl
  | p :: l, o, h => by
    rw [List.length_cons] at h
    rw [List.foldl_cons, List.foldl_cons]
    have hm : ∀ id, id ∈ (byId o).map PtS.id ↔ id ∈ o.map PtS.id := fun id => ((byId_perm o).map PtS.id).mem_iff
    have e : insL p (byId o) = byId (onceS m o p) ∧ (onceS m o p).length ≤ o.length + 1 := by
      by_cases h1 : p.chk = 0
      · by_cases h2 : p.id ∈ o.map PtS.id
        · have h3 : 0 ≤ at_ (byId o) p.id := (at_iff _ _).2 ((hm _).2 h2)
          have hc : insC p (byId o) = 22 := by unfold insC; rw [if_neg (fun h => h h1), if_pos h3]
          unfold insL onceS
          rw [hc, if_neg (by decide), if_neg (fun h => h.2.2 h2)]
          exact ⟨rfl, by omega⟩
        · have h3 : ¬ 0 ≤ at_ (byId o) p.id := fun h => h2 ((hm _).1 ((at_iff _ _).1 h))
          have hc : insC p (byId o) = 0 := by unfold insC; rw [if_neg (fun h => h h1), if_neg h3]
          unfold insL onceS
          rw [hc, if_pos rfl, if_pos ⟨by omega, h1, h2⟩]
          exact ⟨byId_snoc o p, by simp⟩
      · have hc : insC p (byId o) ≠ 0 := by unfold insC; rw [if_pos h1]; exact h1
        unfold insL onceS
        rw [if_neg hc, if_neg (fun h => h1 h.2.1)]
        exact ⟨rfl, by omega⟩
    rw [e.1]
    exact new_once m l _ (by have := e.2; omega)
theorem new_is (l : List PtS) (h : l.length ≤ 30) : l.foldl (fun o p => insL p o) [] = byId (onceL 30 l) := by
  have := new_once 30 l [] (by simpa using h)
  rw [show byId [] = [] by simp [byId]] at this
  exact this
end Go.Proofs.Ytdomngpkahgoiaa.Md
