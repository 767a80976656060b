/- The walk over slices.Clone of points, at any length. -/
import Derived.Test.YtdomngpkahgoiaaSt2
import Derived.Lib.LazyBuf
namespace Go.Proofs.Ytdomngpkahgoiaa.St
open Go.RowKit Rg Pt
set_option linter.unusedVariables false
set_option linter.unusedSimpArgs false
abbrev PRow (w : World) (v : Value) (l : List PtS) : Prop := SRd 4 PtS.cells w v l
theorem info_pt4 : (Try.prog.info? 56).map (fun i => (i.zero, i.size, i.bytes)) = some (some (.agg #[.int .i64 0, .int .u32 0, .int .u32 0, .string ⟨#[]⟩]), 4, 32) := by kernel_rfl
set_option maxHeartbeats 4000000 in
set_option maxRecDepth 100000 in
theorem pclone_ok (v : Value) (l : List PtS) (w : World) (h : PRow w v l) (hl : l.length ≤ 4398046511104) :
    Calls Try.prog 59 #[v] w fun e w' => ∃ v', e = .returned v' ∧ w'.ownsRow w.heap.size 56 4 v' l.length (l.flatMap PtS.cells) ∧ Below w.heap.size w w' := by
  have HV := Lib.hid h
  obtain ⟨A, c, rfl, hc, hr⟩ := h
  clear hr
  cases A with
  | none =>
    have hl0 : l = [] := by
      obtain ⟨A', c', e, _, h2⟩ := HV.out
      cases e
      cases l with
      | nil => rfl
      | cons a t =>
        obtain ⟨ad, e, _⟩ := h2 0 (by simp [PtS.cells])
        cases e
    subst hl0
    have qT : ∀ w : World, (binOp .eql 49 (.slice none 0 c) (.slice none 0 0)).run Try.prog w = .ok (.bool true) w := fun w => run_eql_slice_nil w _ _ _ _ _ Try.underlying49
    go_enter Try.func59, Try.ntmps59
    go_wp2
    go_ret
    exact ⟨_, rfl, ⟨rfl, .inl ⟨rfl, rfl⟩⟩, Below.refl _ _⟩
  | some a =>
    have qT : ∀ w : World, (binOp .eql 49 (.slice (some a) l.length c) (.slice none 0 0)).run Try.prog w = .ok (.bool false) w := fun w => run_eql_slice_nil w _ _ _ _ _ Try.underlying49
    have HA := Lib.hid (HV.out.below (below_alloc1 w (.cells #[] 56)))
    go_enter Try.func59, Try.ntmps59
    go_wp2_with (at_builtin; refine wpList_app rfl _ _ 49 rfl w.heap.size 56 (.agg #[.int .i64 0, .int .u32 0, .int .u32 0, .string ⟨#[]⟩]) 4 32 Try.underlying49 info_pt4 rfl (by decide) (by decide) (.slice (some ⟨w.heap.size, 0, none⟩) 0 0) 0 [] rfl (some a) l.length c (l.flatMap PtS.cells) rfl (own_zero _ _ _) (by rw [flat_len PtS.cells_len]) ?_ (flat_one PtS.cells_one _) (by omega) (below_alloc1 _ _).size ?_)
    · obtain ⟨A', c', e, _, h2⟩ := HA.out
      cases e
      exact h2
    intro A1 c1 w1 hown hgrow _
    (try simp only [Nat.zero_add, List.nil_append] at hown)
    have hb := below_grown (below_alloc1 w (.cells #[] 56)) hgrow (fun k e => by cases e; exact Nat.le_refl _)
    have HO := Lib.hid (And.intro hown hb)
    clear hown hgrow hb
    go_wp2
    go_ret
    exact ⟨_, rfl, HO.out⟩
end Go.Proofs.Ytdomngpkahgoiaa.St
