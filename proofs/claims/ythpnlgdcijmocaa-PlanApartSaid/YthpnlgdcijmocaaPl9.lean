/- PlanRoom, plainly: written entries can go just if there is room for them. -/
import Derived.Test.YthpnlgdcijmocaaPl8
namespace Go.Proofs.Ythpnlgdcijmocaa.Pl
open Go.RowKit Rg
set_option linter.unusedVariables false
set_option linter.unusedSimpArgs false
theorem takeL_ones (r : Nat) (hr : r ≤ 64) : ∀ (l : List EntS) (n : Nat), (∀ e ∈ l, needL e = 1) → n + 1 ≤ r → takeL (r : Int) n ((n : Int) + 1) l = (min (n + l.length) (r - 1), ((min (n + l.length) (r - 1) : Nat) : Int) + 1)
  | [], n, _, h => by
    have e : min (n + ([] : List EntS).length) (r - 1) = n := by simp only [List.length_nil]; omega
    rw [e]; rfl
  | e :: t, n, he, h => by
    have h1 := he e List.mem_cons_self
    unfold takeL
    rw [h1]
    by_cases hn : n + 1 = r
    · rw [if_pos (.inr (by omega))]
      have e : min (n + (e :: t).length) (r - 1) = n := by simp only [List.length_cons]; omega
      rw [e]
    · rw [if_neg (by omega)]
      have ih := takeL_ones r hr t (n + 1) (fun x hx => he x (List.mem_cons_of_mem _ hx)) (by omega)
      rw [show ((n : Int) + 1 + 1) = (((n + 1 : Nat) : Int) + 1) by omega, ih]
      have e : n + 1 + t.length = n + (e :: t).length := by simp only [List.length_cons]; omega
      rw [e]
theorem allL_room (g : GeS) (h4 : 4 ≤ g.siz) (h32 : g.siz ≤ 32) : ∀ (k : Nat) (p : PlcS) (free : List Int) (l : List EntS), l.length ≤ k → (∀ e ∈ l, needL e = 1) → 0 ≤ p.off → p.off ≤ g.siz →
    ((allL g k p free l).isSome = true ↔ (l.length : Int) ≤ max (g.siz - p.off - 1) 0 + free.length * (g.siz - 1))
  | k, p, free, [], _, _, _, h2 => by
    rw [allL_nil]
    have := Int.mul_nonneg (show (0 : Int) ≤ free.length by omega) (show 0 ≤ g.siz - 1 by omega)
    simp only [Option.isSome_some, List.length_nil, true_iff]
    omega
  | 0, p, free, e :: t, h, _, _, _ => by simp at h
  | k + 1, p, free, e :: t, hk, he, h1, h2 => by
    cases hon : onL g p free with
    | none =>
      rw [allL_on_none hon]
      unfold onL at hon
      split at hon
      · cases hon
      · rename_i hs
        cases free with
        | cons a b => cases hon
        | nil =>
          simp only [Option.isSome_none, Bool.false_eq_true, List.length_cons, List.length_nil, false_iff]
          have e0 : ((0 : Nat) : Int) * (g.siz - 1) = 0 := by simp
          rw [e0]
          omega
    | some y =>
      obtain ⟨p1, f1⟩ := y
      obtain ⟨r1, r2, _⟩ := onL_room hon h1 h4
      obtain ⟨r, hr⟩ := Int.eq_ofNat_of_zero_le (show 0 ≤ g.siz - p1.off by omega)
      have htk := takeL_ones r (by omega) (e :: t) 0 he (by omega)
      simp only [Nat.zero_add, Int.natCast_zero, Int.zero_add] at htk
      rw [← hr] at htk
      have hst := allL_step (k := k) hon htk []
      rw [preL_nil] at hst
      obtain ⟨m, hm⟩ : ∃ m, min (e :: t).length (r - 1) = m := ⟨_, rfl⟩
      rw [hm] at hst
      have hpos : 0 < (e :: t).length := by simp
      have ih := allL_room g h4 h32 k ⟨p1.seg, p1.off + ((m : Int) + 1), p1.next⟩ f1 ((e :: t).drop m) (by rw [List.length_drop]; omega) (fun x hx => he x (List.mem_of_mem_drop hx)) (by show 0 ≤ p1.off + ((m : Int) + 1); omega) (by show p1.off + ((m : Int) + 1) ≤ g.siz; omega)
      rw [hst]
      have hpre : ∀ (ds : List PartD) R, (preL ds R).isSome = R.isSome := fun ds R => by cases R with | none => rfl | some z => obtain ⟨a, b, c⟩ := z; rfl
      rw [hpre, ih, List.length_drop]
      generalize (e :: t).length = n at *
      show ((n - m : Nat) : Int) ≤ max (g.siz - (p1.off + ((m : Int) + 1)) - 1) 0 + f1.length * (g.siz - 1) ↔ _
      unfold onL at hon
      split at hon
      · simp only [Option.some.injEq, Prod.mk.injEq] at hon
        obtain ⟨rfl, rfl⟩ := hon
        have := Int.mul_nonneg (show (0 : Int) ≤ free.length by omega) (show 0 ≤ g.siz - 1 by omega)
        generalize (free.length : Int) * (g.siz - 1) = F at *
        omega
      · cases free with
        | nil => cases hon
        | cons a b =>
          simp only [Option.some.injEq, Prod.mk.injEq] at hon
          obtain ⟨rfl, rfl⟩ := hon
          have := Int.mul_nonneg (show (0 : Int) ≤ b.length by omega) (show 0 ≤ g.siz - 1 by omega)
          have e2 : (((a :: b).length : Nat) : Int) * (g.siz - 1) = b.length * (g.siz - 1) + (g.siz - 1) := by
            rw [List.length_cons, Int.natCast_add, Int.add_mul]; simp
          rw [e2]
          simp only at hr
          show ((n - m : Nat) : Int) ≤ max (g.siz - (0 + ((m : Int) + 1)) - 1) 0 + b.length * (g.siz - 1) ↔ _
          generalize (b.length : Int) * (g.siz - 1) = F at *
          omega
end Go.Proofs.Ythpnlgdcijmocaa.Pl
