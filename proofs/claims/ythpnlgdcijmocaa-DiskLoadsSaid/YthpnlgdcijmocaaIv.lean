/- Slices of ints that are read; croftplain.In. -/
import Derived.Test.YthpnlgdcijmocaaArr
namespace Go.Proofs.Ythpnlgdcijmocaa
open Go.RowKit
set_option linter.unusedVariables false
set_option linter.unusedSimpArgs false

def iv (l : List Int) : List Value := l.map (Value.int .i64)
theorem iv_length (l : List Int) : (iv l).length = l.length := by simp [iv]
theorem iv_append (a b : List Int) : iv (a ++ b) = iv a ++ iv b := by simp [iv]
theorem iv_get (l : List Int) (i : Nat) : (iv l)[i]? = (l[i]?).map (Value.int .i64) := by simp [iv]
theorem iv_one (l : List Int) : ∀ u ∈ iv l, u.oneCell' = true := by
  intro u hu
  simp only [iv, List.mem_map] at hu
  obtain ⟨c, _, rfl⟩ := hu
  rfl
theorem info_i64 : (Try.prog.info? 3).map (fun i => (i.zero, i.size, i.bytes)) = some (some (.int .i64 0), 1, 8) := by kernel_rfl
/-- A slice value of ints that is read. -/
def IRd (w : World) (v : Value) (l : List Int) : Prop := ∃ A c, v = .slice A l.length c ∧ l.length ≤ c ∧ Rd w A (iv l)
theorem IRd.below {w w1 : World} {v : Value} {l : List Int} (h : IRd w v l) (hb : Below w.heap.size w w1) : IRd w1 v l := by
  obtain ⟨A, c, e, h1, h2⟩ := h
  exact ⟨A, c, e, h1, h2.below hb⟩
theorem ird_nil (w : World) : IRd w (.slice none 0 0) [] := ⟨none, 0, rfl, Nat.le_refl _, Rd.nil _ _⟩
theorem ird_own {w : World} {base n : Nat} {e : TypeId} {v : Value} {l : List Int} (h : w.ownsRow base e 1 v n (iv l)) : IRd w v l := by
  obtain ⟨A, c, e, h1, h2, h3, h4⟩ := own_rd h
  have hl : l.length = n := by have := h.1; rw [iv_length] at this; omega
  subst hl
  exact ⟨A, c, e, h1, h3⟩
theorem IRd.get {w : World} {A : Option Addr} {n c : Nat} {l : List Int} (h : IRd w (.slice A n c) l) {k : Nat} (hk : k < l.length) : ∃ ad, A = some ad ∧ w.cell? (ad.add k) = some (.int .i64 l[k]) := by
  obtain ⟨A', c', e, _, hr⟩ := h
  injection e with e1 e2 e3
  subst e1
  obtain ⟨ad, e, hc⟩ := hr.at_ (i := k) (by rw [iv_length]; exact hk)
  exact ⟨ad, e, by rw [hc]; simp [iv]⟩
theorem IRd.len {w : World} {A : Option Addr} {n c : Nat} {l : List Int} (h : IRd w (.slice A n c) l) : n = l.length ∧ n ≤ c := by
  obtain ⟨A', c', e, h1, _⟩ := h
  injection e with e1 e2 e3
  omega
theorem mem_take_succ (l : List Int) (n : Int) (k : Nat) (hk : k < l.length) : decide (n ∈ l.take (k + 1)) = (decide (n ∈ l.take k) || l[k] == n) := by
  rw [List.take_succ_eq_append_getElem hk, Bool.eq_iff_iff]
  simp only [List.mem_append, List.mem_singleton, decide_eq_true_eq, Bool.or_eq_true, beq_iff_eq]
  exact ⟨fun h => h.imp id Eq.symm, fun h => h.imp id Eq.symm⟩
theorem mem_of_take (l : List Int) (n : Int) (k : Nat) (h : n ∈ l.take k) : n ∈ l := List.mem_of_mem_take h
end Go.Proofs.Ythpnlgdcijmocaa
