/- What Spans and Order give, plainly. -/
import Derived.Test.YtdomngpkahgoiaaTi13
import Derived.Test.YtdomngpkahgoiaaSt11
namespace Go.Proofs.Ytdomngpkahgoiaa.Ti
open Go.RowKit Rg St Zw
set_option linter.unusedVariables false
set_option linter.unusedSimpArgs false
theorem ordL_mem {l : List CeS} {d : CeS} : d ∈ ordL l ↔ ∃ c ∈ l, c.fix = d := by
  unfold ordL
  rw [(List.mergeSort_perm (l.map CeS.fix) _).mem_iff, List.mem_map]
theorem ordL_pw (l : List CeS) : (ordL l).Pairwise fun a b => ¬ CLt b a := by
  have h := sort_pw swo_c (l.map CeS.fix)
  unfold ordL
  refine h.imp fun {a b} h => ?_
  rw [Bool.not_eq_true'] at h
  exact (ltc_cf b a).1 h
theorem ordL_step (l : List CeS) (i : Nat) (h : i + 1 < (ordL l).length) : begC (ordL l)[i] ≤ begC (ordL l)[i + 1] ∧ (begC (ordL l)[i] = begC (ordL l)[i + 1] → (ordL l)[i].l ≤ (ordL l)[i + 1].l) := by
  have h1 := List.pairwise_iff_getElem.1 (ordL_pw l) i (i + 1) (by omega) h (by omega)
  unfold CLt at h1
  omega
theorem beg_end {c : CeS} (h : c.good) : begC c ≤ endC c := by
  have hf := h.1
  have hx := good_x h
  have := Zm.rows c.x c.y c.x c.y (lv c.l) hf.1 hf.2.1 hf.1 hf.2.1 (lv_le c.l)
  have h2 := this.symm.trans (decide_eq_true ⟨rfl, rfl⟩)
  rw [Bool.and_eq_true, decide_eq_true_iff, decide_eq_true_iff] at h2
  have h3 := h2.2
  rw [hx.1, hx.2.1] at h3
  unfold begC endC CeS.rect
  rw [hx.1, hx.2.1]
  exact h3
theorem has_row {c : CeS} (h : c.good) {u v : Nat} (hu : u < 4294967296) (hv : v < 4294967296) : c.has u v = (decide (begC c ≤ Zm.joinN u v) && decide (Zm.joinN u v ≤ endC c)) := by
  have hf := h.1
  have hx := good_x h
  have := Zm.rows c.x c.y u v (lv c.l) hf.1 hf.2.1 hu hv (lv_le c.l)
  unfold begC endC CeS.rect CeS.has
  rw [this, hx.1, hx.2.1]
theorem spans_all {l : List CeS} (hf : ∀ c ∈ l, c.fine) :
    (∀ e ∈ spansOf l, e.1 ≤ e.2) ∧ ((spansOf l).Pairwise fun e f => e.2 + 2 ≤ f.1) ∧ ∀ u v, u < 4294967296 → v < 4294967296 → ((∃ e ∈ spansOf l, e.1 ≤ Zm.joinN u v ∧ Zm.joinN u v ≤ e.2) ↔ ∃ c ∈ l, c.has u v = true) := by
  have hg : ∀ d ∈ ordL l, d.good := fun d hd => by
    obtain ⟨c, hc, rfl⟩ := ordL_mem.1 hd
    exact fix_good (hf c hc)
  obtain ⟨h1, h2, h3⟩ := spanL_ok (I := (ordL l).map ivC) (fun i hi => by
    obtain ⟨d, hd, rfl⟩ := List.mem_map.1 hi
    exact beg_end (hg d hd)) (by
    rw [List.pairwise_map]
    refine (ordL_pw l).imp fun {a b} h => ?_
    show begC a ≤ begC b
    unfold CLt at h
    omega)
  refine ⟨h1, h2, fun u v hu hv => ?_⟩
  refine Iff.trans (h3 (Zm.joinN u v)) ?_
  unfold inI
  constructor
  · rintro ⟨e, he, h4, h5⟩
    obtain ⟨d, hd, rfl⟩ := List.mem_map.1 he
    obtain ⟨c, hc, rfl⟩ := ordL_mem.1 hd
    refine ⟨c, hc, ?_⟩
    rw [← fix_has, has_row (fix_good (hf c hc)) hu hv, Bool.and_eq_true, decide_eq_true_iff, decide_eq_true_iff]
    exact ⟨h4, h5⟩
  · rintro ⟨c, hc, h⟩
    rw [← fix_has, has_row (fix_good (hf c hc)) hu hv, Bool.and_eq_true, decide_eq_true_iff, decide_eq_true_iff] at h
    exact ⟨ivC c.fix, List.mem_map.2 ⟨_, ordL_mem.2 ⟨c, hc, rfl⟩, rfl⟩, h.1, h.2⟩
def anyHas (l : List CeS) (u v k : Nat) : Bool := (l.take k).any fun c => c.has u v
def anyIn (S : List (Nat × Nat)) (z k : Nat) : Bool := (S.take k).any fun e => decide (e.1 ≤ z) && decide (z ≤ e.2)
theorem any_snoc {α : Type} (L : List α) (p : α → Bool) (k : Nat) (h : k < L.length) : (L.take (k + 1)).any p = ((L.take k).any p || p L[k]) := by
  rw [List.take_succ_eq_append_getElem h, List.any_append]
  simp
theorem any_same {l : List CeS} (hf : ∀ c ∈ l, c.fine) {u v : Nat} (hu : u < 4294967296) (hv : v < 4294967296) : anyHas l u v l.length = anyIn (spansOf l) (Zm.joinN u v) (spansOf l).length := by
  unfold anyHas anyIn
  rw [List.take_length, List.take_length, Bool.eq_iff_iff, List.any_eq_true, List.any_eq_true, ← (spans_all hf).2.2 u v hu hv]
  simp only [Bool.and_eq_true, decide_eq_true_iff]
theorem span_lt {l : List CeS} (e : Nat × Nat) (h : e ∈ spansOf l) : e.1 < 18446744073709551616 ∧ e.2 < 18446744073709551616 := by
  have key : ∀ (I M : List (Nat × Nat)), (∀ e ∈ M, e.1 < 18446744073709551616 ∧ e.2 < 18446744073709551616) → (∀ e ∈ I, e.1 < 18446744073709551616 ∧ e.2 < 18446744073709551616) → ∀ e ∈ I.foldl spanS M, e.1 < 18446744073709551616 ∧ e.2 < 18446744073709551616 := by
    intro I
    induction I with
    | nil => intro M hM _; exact hM
    | cons i I ih =>
      intro M hM hI
      refine ih _ ?_ (fun e he => hI e (by simp [he]))
      have hi := hI i (by simp)
      cases M with
      | nil => intro e he; rw [List.mem_singleton.1 he]; exact hi
      | cons f N =>
        intro e he
        have hf := hM f (by simp)
        unfold spanS at he
        simp only at he
        split at he
        · rcases List.mem_cons.1 he with rfl | he
          · simp only; omega
          · exact hM e (by simp [he])
        · rcases List.mem_cons.1 he with rfl | he
          · exact hi
          · exact hM e he
  unfold spansOf spanL spanF at h
  refine key _ [] (by simp) (fun e he => ?_) e (List.mem_reverse.1 h)
  obtain ⟨d, _, rfl⟩ := List.mem_map.1 he
  exact ⟨Zm.join_lt _ _, Zm.join_lt _ _⟩
end Go.Proofs.Ytdomngpkahgoiaa.Ti
