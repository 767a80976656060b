/- The walk over nmap.Ids. -/
import Derived.Test.YtjikndfpkhgnkaaNmap
import Derived.Test.YtjikndfpkhgnkaaInts
namespace Go.Proofs.Ytjikndfpkhgnkaa.Nm
open Go.RowKit
set_option linter.unusedVariables false
set_option linter.unusedSimpArgs false

/-- The Ids below k that are somewhere. -/
def idl (f : Nat → Int) : Nat → List Int
  | 0 => []
  | k + 1 => if 0 < k ∧ f k ≠ 0 then idl f k ++ [(k : Int)] else idl f k
theorem idl_len (f : Nat → Int) : ∀ k, (idl f k).length ≤ k
  | 0 => Nat.le_refl _
  | k + 1 => by
    have := idl_len f k
    unfold idl
    split
    · simp; omega
    · omega
theorem idl_yes {f : Nat → Int} {k : Nat} (h : 0 < k) (h2 : f k ≠ 0) : idl f (k + 1) = idl f k ++ [(k : Int)] := by rw [idl, if_pos ⟨h, h2⟩]
theorem idl_no {f : Nat → Int} {k : Nat} (h : ¬ (0 < k ∧ f k ≠ 0)) : idl f (k + 1) = idl f k := by rw [idl, if_neg h]
set_option maxHeartbeats 4000000 in
set_option maxRecDepth 100000 in
theorem ids_ok (f : Nat → Int) (w : World) : Calls Try.prog 17 #[.agg (lsI 256 f).toArray] w fun e w' =>
    ∃ v, e = .returned v ∧ Below w.heap.size w w' ∧ w'.ownsRow w.heap.size 3 1 v (idl f 256).length (iv (idl f 256)) := by
  have hix : ∀ (k : Nat), k < 256 → ∀ W, (Instr.index 22 (.agg (lsI 256 f).toArray) (.int .i64 k)).run Try.prog W = .ok (.int .i64 (f k)) W := fun k hk W => idx f k hk W
  have hif := inf f
  generalize (lsI 256 f) = L at *
  have HX := Lib.hid (And.intro hix hif); clear hix hif
  go_enter Try.func17, Try.ntmps17
  go_wp2_with (with_reducible refine wpList_load_row rfl 22 _ rfl w.heap.size rfl 22 L.toArray (0, 0) _ (alloc_at _ rfl) Try.underlying22 rfl HX.out.2 ?_)
  go_loopw [3, 7] (fun vo vi W => ∃ k : Nat, k ≤ 256 ∧ vi = .int .i64 k ∧ W.ownsRow w.heap.size 3 1 vo (idl f k).length (iv (idl f k)) ∧ Below w.heap.size w W) (fun _ vi _ => 256 - (intOf vi).toNat)
  case atStart => exact ⟨0, by omega, rfl, ⟨rfl, .inl ⟨rfl, rfl⟩⟩, below_alloc1 _ _⟩
  obtain ⟨k, hk, rfl, hown, hbel⟩ := hrel
  obtain ⟨A0, c0, rfl, hc0, _, _, _⟩ := own_rd hown
  have hsz := hbel.size
  have hll := idl_len f k
  have HO := Lib.hid (And.intro hown hbel); clear hown hbel
  by_cases hlt : k < 256
  · have d : decide ((k : Int) < 256) = true := decide_eq_true (by omega)
    have hi := HX.out.1 k hlt
    by_cases h : 0 < k ∧ f k ≠ 0
    · have hn := idl_yes h.1 h.2
      have h0 := h.1
      have d2 : (f k != 0) = true := by simpa using h.2
      have d3 : decide ((0 : Int) < k) = true := decide_eq_true (by omega)
      have HN := Lib.hid hn; clear hn h
      generalize f k = y at *
      go_wp2_with (at_builtin; refine wpList_app rfl _ _ 24 rfl w.heap.size 3 (.int .i64 0) 1 8 Try.underlying24 info_i64 rfl (by decide) (by decide) (.slice A0 (idl f k).length c0) (idl f k).length (iv (idl f k)) rfl (some ⟨wr.heap.size, 0, none⟩) 1 1 (iv [(k : Int)]) rfl ?_ rfl ?_ (iv_one _) (by omega) ?_ ?_)
      · exact own_move HO.out.1 (fun b hb => ((Below.refl wr.heap.size wr).alloc (Nat.le_refl _) _).block b (own_lt HO.out.1 b hb))
      · exact rd_new _ _ _ _ rfl
      · simp; omega
      intro A1 c1 w1 hown hgrow hat
      rw [← iv_append, ← HN.out] at hown
      have hl : (idl f k).length + 1 = (idl f (k + 1)).length := by rw [HN.out]; simp
      rw [hl] at hown ⊢
      have hbel : Below w.heap.size w w1 := below_grown (HO.out.2.alloc hsz _) hgrow (fun b e => own_base HO.out.1 b e)
      have HM := Lib.hid (And.intro hown hbel); clear hown hgrow hat hbel hl
      go_wp2
      exact ⟨⟨k + 1, by omega, by simp, HM.out.1, HM.out.2⟩, by simp [intOf]; omega⟩
    · have hn := idl_no h
      by_cases h0 : 0 < k
      · have d2 : (f k != 0) = false := by simpa [h0] using h
        have d3 : decide ((0 : Int) < k) = true := decide_eq_true (by omega)
        have HN := Lib.hid hn; clear hn h
        generalize f k = y at *
        go_wp2
        exact ⟨⟨k + 1, by omega, by simp, by rw [HN.out]; exact HO.out.1, HO.out.2⟩, by simp [intOf]; omega⟩
      · have d3 : decide ((0 : Int) < k) = false := decide_eq_false (by omega)
        have HN := Lib.hid hn; clear hn h
        generalize f k = y at *
        go_wp2
        exact ⟨⟨k + 1, by omega, by simp, by rw [HN.out]; exact HO.out.1, HO.out.2⟩, by simp [intOf]; omega⟩
  · have hkl : k = 256 := by omega
    subst hkl
    go_wp2
    go_ret
    exact ⟨_, rfl, HO.out.2, HO.out.1⟩
end Go.Proofs.Ytjikndfpkhgnkaa.Nm
