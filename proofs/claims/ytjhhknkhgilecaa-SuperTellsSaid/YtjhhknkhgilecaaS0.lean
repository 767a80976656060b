/- Heads of disks, plainly: what is read of a text. -/
import Derived.Test.YtjhhknkhgilecaaF8
namespace Go.Proofs.Ytjhhknkhgilecaa.Su
open Go.RowKit Lt Fm
set_option linter.unusedVariables false
set_option linter.unusedSimpArgs false
/-- Two numbers of one octet each, and nothing behind: what an In tells. -/
theorem two_of (T : List UInt8) : ((((inOk T).next 1).next 1).tells = 0 ∧ (((inOk T).next 1).next 1).b.length = 0 ↔ T.length = 2) ∧
    (T.length = 2 → getB ((inOk T).got 1) = (T.getD 0 0).toNat ∧ getB (((inOk T).next 1).got 1) = (T.getD 1 0).toNat) ∧
    (¬ T.length = 2 → (((inOk T).next 1).next 1).tells = 0 → 0 < (((inOk T).next 1).next 1).b.length) := by
  match T with
  | [] =>
    have e : (inOk ([] : List UInt8)).next 1 = inBad := by rw [inOk_next]; rfl
    rw [e, inBad_next]
    refine ⟨⟨fun h => absurd h.1 (by decide), fun h => absurd h (by decide)⟩, fun h => absurd h (by decide), fun _ h => absurd h (by decide)⟩
  | [x] =>
    have e : (inOk [x]).next 1 = inOk [] := by rw [inOk_next]; rfl
    have e2 : (inOk ([] : List UInt8)).next 1 = inBad := by rw [inOk_next]; rfl
    rw [e, e2]
    refine ⟨⟨fun h => absurd h.1 (by decide), fun h => absurd h (by simp)⟩, fun h => absurd h (by simp), fun _ h => absurd h (by decide)⟩
  | x :: y :: l =>
    have e : (inOk (x :: y :: l)).next 1 = inOk (y :: l) := by rw [inOk_next, if_neg (by simp)]; rfl
    have e2 : (inOk (y :: l)).next 1 = inOk l := by rw [inOk_next, if_neg (by simp)]; rfl
    have g1 : (inOk (x :: y :: l)).got 1 = [x] := by rw [inOk_got, if_neg (by simp)]; rfl
    have g2 : (inOk (y :: l)).got 1 = [y] := by rw [inOk_got, if_neg (by simp)]; rfl
    rw [e, e2, g1, g2]
    have hb : (inOk l).b.length = l.length := rfl
    rw [hb]
    refine ⟨⟨fun h => by simp only [List.length_cons]; omega, fun h => ⟨rfl, by simp only [List.length_cons] at h; omega⟩⟩, fun _ => ⟨by simp [getB], by simp [getB]⟩, fun h _ => by simp only [List.length_cons] at h; omega⟩
end Go.Proofs.Ytjhhknkhgilecaa.Su
