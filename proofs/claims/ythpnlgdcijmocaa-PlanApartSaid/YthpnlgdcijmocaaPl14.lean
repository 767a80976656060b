/- PlanTells, plainly. -/
import Derived.Test.YthpnlgdcijmocaaPl13
namespace Go.Proofs.Ythpnlgdcijmocaa.Pl
open Go.RowKit Rg
set_option linter.unusedVariables false
set_option linter.unusedSimpArgs false
theorem odd_or (e : EntS) : e.odd = decide (e.kind < 1 ∨ 2 < e.kind ∨ e.id < 1 ∨ 255 < e.id) := by
  rw [Bool.eq_iff_iff, decide_eq_true_iff]
  simp [EntS.odd]
  omega
/-- What is left of the parts when m are behind. -/
def RemE (R : Option (List PartD × PlcS × List Int)) (m : Nat) : Option (List PartD × PlcS × List Int) := match R with
  | none => none
  | some (ds, q, f) => some (ds.drop m, q, f)
theorem rem_zero (R : Option (List PartD × PlcS × List Int)) : R = RemE R 0 := by
  cases R with
  | none => rfl
  | some y => obtain ⟨a, b, c⟩ := y; simp [RemE]
theorem pre_none {ds : List PartD} {R : Option (List PartD × PlcS × List Int)} (h : preL ds R = none) : R = none := by
  cases R with
  | none => rfl
  | some y => obtain ⟨a, b, c⟩ := y; cases h
theorem pre_some {d : PartD} {R : Option (List PartD × PlcS × List Int)} {ds : List PartD} {q : PlcS} {f : List Int} {m : Nat} (h : preL [d] R = some (ds.drop m, q, f)) : ds[m]? = some d ∧ R = RemE (some (ds, q, f)) (m + 1) := by
  cases R with
  | none => cases h
  | some y =>
    obtain ⟨a, b, c⟩ := y
    simp only [preL, Option.some.injEq, Prod.mk.injEq] at h
    obtain ⟨h1, rfl, rfl⟩ := h
    have h2 : ds[m]? = some d := by
      have := congrArg (fun x => x[0]?) h1
      simpa using this.symm
    refine ⟨h2, ?_⟩
    have h3 : ds.drop (m + 1) = a := by
      have := congrArg (fun x => x.drop 1) h1
      simpa using this.symm
    rw [RemE, h3]
/-- One round of the law. -/
theorem round_all {g : GeS} {K : Nat} {p p1 : PlcS} {f f1 : List Int} {l : List EntS} {i : Nat} (hi : i < l.length) (hK : l.length - i ≤ K) {R : Option (List PartD × PlcS × List Int)} {m : Nat} (h : allL g K p f (l.drop i) = RemE R m)
    (hon : onL g p f = some (p1, f1)) {n : Nat} {s : Int} (ht : takeL (g.siz - p1.off) 0 1 (l.drop i) = (n, s)) (hn : 1 ≤ n) (hn2 : i + n ≤ l.length) :
    (∀ m', R = none → l.length - (i + n) ≤ K - 1 ∧ allL g (K - 1) ⟨p1.seg, p1.off + s, p1.next⟩ f1 (l.drop (i + n)) = RemE R m') ∧
    (∀ ds q fr, R = some (ds, q, fr) → ds[m]? = some ⟨p1, decide (i + n = l.length), (l.drop i).take n⟩ ∧ l.length - (i + n) ≤ K - 1 ∧ allL g (K - 1) ⟨p1.seg, p1.off + s, p1.next⟩ f1 (l.drop (i + n)) = RemE R (m + 1)) := by
  obtain ⟨k, rfl⟩ : ∃ k, K = k + 1 := ⟨K - 1, by omega⟩
  have hd : (l.drop i).drop n = l.drop (i + n) := by rw [List.drop_drop]
  have hlen : (l.drop i).length = l.length - i := List.length_drop
  have hb : (n == (l.drop i).length) = decide (i + n = l.length) := by
    rw [Bool.eq_iff_iff, beq_iff_eq, decide_eq_true_iff, hlen]; omega
  rw [List.drop_eq_getElem_cons hi] at h ht
  have hst := allL_step (k := k) hon ht []
  rw [preL_nil, h, List.nil_append] at hst
  rw [← List.drop_eq_getElem_cons hi, hd, hb] at hst
  have hk1 : k + 1 - 1 = k := by omega
  rw [hk1]
  refine ⟨fun m' e => ?_, fun ds q fr e => ?_⟩
  · subst e
    exact ⟨by omega, pre_none hst.symm⟩
  · subst e
    have := pre_some (m := m) (show preL [_] _ = some (ds.drop m, q, fr) from hst.symm)
    exact ⟨this.1, by omega, this.2⟩
theorem round_none {g : GeS} {K : Nat} {p : PlcS} {f : List Int} {l : List EntS} {i : Nat} (hi : i < l.length) {R : Option (List PartD × PlcS × List Int)} {m : Nat} (h : allL g K p f (l.drop i) = RemE R m) (hK : l.length - i ≤ K) (hon : onL g p f = none) : R = none := by
  obtain ⟨k, rfl⟩ : ∃ k, K = k + 1 := ⟨K - 1, by omega⟩
  rw [List.drop_eq_getElem_cons hi, allL_on_none hon] at h
  cases R with
  | none => rfl
  | some y => obtain ⟨a, b, c⟩ := y; cases h
theorem round_end {g : GeS} {K : Nat} {p : PlcS} {f : List Int} {l : List EntS} {R : Option (List PartD × PlcS × List Int)} {m : Nat} (h : allL g K p f (l.drop l.length) = RemE R m) : ∃ ds, R = some (ds, p, f) ∧ ds.length ≤ m := by
  rw [List.drop_length, allL_nil] at h
  cases R with
  | none => cases h
  | some y =>
    obtain ⟨a, b, c⟩ := y
    simp only [RemE, Option.some.injEq, Prod.mk.injEq] at h
    obtain ⟨h1, rfl, rfl⟩ := h
    exact ⟨a, rfl, by simpa using h1.symm⟩
theorem allL_len (g : GeS) : ∀ (k : Nat) (p : PlcS) (free : List Int) (l : List EntS) (ds : List PartD) (q : PlcS) (f : List Int), allL g k p free l = some (ds, q, f) → ds.length ≤ k
  | k, p, free, [], ds, q, f, h => by
    rw [allL_nil] at h
    simp only [Option.some.injEq, Prod.mk.injEq] at h
    rw [← h.1]; exact Nat.zero_le _
  | 0, p, free, e :: t, ds, q, f, h => by cases h
  | k + 1, p, free, e :: t, ds, q, f, h => by
    unfold allL at h
    cases hon : onL g p free with
    | none => rw [hon] at h; cases h
    | some y =>
      obtain ⟨p1, f1⟩ := y
      rw [hon] at h
      simp only at h
      split at h
      · cases h
      · rename_i ps q' f' heq
        have ih := allL_len g k _ _ _ _ _ _ heq
        simp only [Option.some.injEq, Prod.mk.injEq] at h
        rw [← h.1]
        simpa using ih
theorem partsE_shape {B : Nat} {g : GeS} {p : PlcS} {free : List Int} {l : List EntS} {e : Ending} {w' : World} (h : PartsE B g p free l e w') :
    ∃ (E : Int) (q : PlcS) (Ao : Option Addr) (no co : Nat) (Ar : Option Addr) (nr cr : Nat), e = .returned (.tuple #[.slice Ao no co, plv q, .slice Ar nr cr, .int .i64 E]) := by
  rcases h with ⟨E, rfl, _⟩ | ⟨_, _, ds, p', f', vf, vo, ps, hR, rfl, hi, hO, _⟩
  · exact ⟨E, PlcS.zero, none, 0, 0, none, 0, 0, rfl⟩
  · obtain ⟨A, c, rfl, _⟩ := own_rd hO
    obtain ⟨Af, cf, rfl, _⟩ := hi
    exact ⟨0, p', A, _, c, Af, _, cf, rfl⟩
end Go.Proofs.Ythpnlgdcijmocaa.Pl
