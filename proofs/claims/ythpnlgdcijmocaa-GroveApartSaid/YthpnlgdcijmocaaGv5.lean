/- The walks over (*Grove).Fresh, Ids. -/
import Derived.Test.YthpnlgdcijmocaaGv4
import Derived.Test.YthpnlgdcijmocaaIv
namespace Go.Proofs.Ythpnlgdcijmocaa.Gv
open Go.RowKit Lt Pt Rg Nd Mp
set_option linter.unusedVariables false
set_option linter.unusedSimpArgs false
/-- The numbers below k that have a node. -/
def idsL (m : Int → Option NdS) (k : Nat) : List Int := (List.range k).filterMap fun (i : Nat) => if 1 ≤ i ∧ (m (i : Int)).isSome = true then some (i : Int) else none
theorem idsL_succ (m : Int → Option NdS) (k : Nat) (h1 : 1 ≤ k) : idsL m (k + 1) = idsL m k ++ (if (m (k : Int)).isSome = true then [(k : Int)] else []) := by
  unfold idsL
  rw [List.range_succ, List.filterMap_append]
  congr 1
  simp only [List.filterMap_cons, List.filterMap_nil]
  by_cases h : (m (k : Int)).isSome = true
  · rw [if_pos ⟨h1, h⟩, if_pos h]
  · rw [if_neg (fun e => h e.2), if_neg h]
theorem idsL_one (m : Int → Option NdS) : idsL m 1 = [] := by
  unfold idsL
  simp
theorem idsL_len (m : Int → Option NdS) (k : Nat) : (idsL m k).length ≤ k := by
  unfold idsL
  have := List.length_filterMap_le (fun i : Nat => if 1 ≤ i ∧ (m (i : Int)).isSome = true then some (i : Int) else none) (List.range k)
  simpa using this
theorem idsL_mem (m : Int → Option NdS) (k : Nat) (a : Int) : a ∈ idsL m k ↔ 1 ≤ a ∧ a < k ∧ (m a).isSome = true := by
  unfold idsL
  simp only [List.mem_filterMap, List.mem_range]
  constructor
  · rintro ⟨i, hi, h⟩
    split at h
    · rename_i h2
      cases h
      exact ⟨by omega, by omega, h2.2⟩
    · cases h
  · rintro ⟨h1, h2, h3⟩
    refine ⟨a.toNat, by omega, ?_⟩
    have e : ((a.toNat : Nat) : Int) = a := by omega
    rw [e, if_pos ⟨by omega, h3⟩]
def FreshR (m : Int → Option NdS) (e : Ending) : Prop :=
  (∃ k : Nat, 1 ≤ k ∧ k < 256 ∧ m (k : Int) = none ∧ (∀ j : Nat, 1 ≤ j → j < k → (m (j : Int)).isSome = true) ∧ e = .returned (.tuple #[.int .i64 k, .int .i64 0])) ∨
  ((∀ j : Nat, 1 ≤ j → j < 256 → (m (j : Int)).isSome = true) ∧ e = .returned (.tuple #[.int .i64 0, .int .i64 10]))
theorem isNone_of {α : Type} {o : Option α} (h : o.isSome = false) : o = none := by
  cases o
  · rfl
  · cases h
set_option maxHeartbeats 4000000 in
set_option maxRecDepth 100000 in
theorem fresh_ok {W : World} {p b n : Nat} {m : Int → Option NdS} (h : GvAt W p b n m) :
    Calls Try.prog 30 #[.pointer (some ⟨p, 0, none⟩)] W fun e w' => FreshR m e ∧ Below W.heap.size W w' := by
  have HG := Lib.hid h
  have HIs := Lib.hid (is_ok h.1)
  clear h
  go_enter Try.func30, Try.ntmps30
  go_wp2_with fail
  (with_reducible refine HIs.out.mono ?_); rintro e w2 ⟨rfl, rfl⟩
  go_wp2_with fail
  go_loopw [4] (fun vi W' => ∃ i : Nat, vi = .int .i64 i ∧ 1 ≤ i ∧ i ≤ 256 ∧ (∀ j : Nat, 1 ≤ j → j < i → (m (j : Int)).isSome = true) ∧ Below W.heap.size W W') (fun vi _ => 256 - (intOf vi).toNat)
  case atStart => exact ⟨1, rfl, by omega, by omega, fun j h1 h2 => by omega, Below.refl _ _⟩
  case round =>
  obtain ⟨i, rfl, hi1, hi2, hP, hb⟩ := hrel
  have HB := Lib.hid hb
  have HP := Lib.hid hP
  clear hb hP
  by_cases hi : i < 256
  · have d1 : decide ((i : Int) < 256) = true := decide_eq_true (by omega)
    have hg := HG.out.up HB.out
    have hlk := hg.look (id := i) ⟨by omega, by omega⟩
    have hp0 : wr.cell? ⟨p, 0, none⟩ = some (.map (some b)) := by rw [cell_block hg.1]; rfl
    have hpr := (hg.prd i).1
    obtain ⟨x, hx⟩ : ∃ x, (m (i : Int)).getD NdS.zero = x := ⟨_, rfl⟩
    rw [hx] at hlk hpr
    have HSo := Lib.hid (show (m (i : Int)).isSome = (m (i : Int)).isSome from rfl)
    obtain ⟨B, hB⟩ : ∃ y, (m (i : Int)).isSome = y := ⟨_, rfl⟩
    rw [hB] at hlk
    have HBm := Lib.hid hB
    clear hx hB hg HSo
    obtain ⟨lf, v, pts, next, ks, cs⟩ := x
    simp only at hlk hpr
    obtain ⟨A, c, rfl, _, _⟩ := hpr
    have HB2 := Lib.hid (below_alloc HB.out (.cells (ncells ⟨lf, .slice A pts.length c, pts, next, ks, cs⟩) 49))
    cases B
    · have hR : Hid (m (i : Int) = none) := Lib.hid (isNone_of HBm.out)
      go_wp2
      go_ret2
      exact ⟨.inl ⟨i, hi1, hi, hR.out, HP.out, rfl⟩, HB2.out⟩
    · have hS : Hid (∀ j : Nat, 1 ≤ j → j < i + 1 → (m (j : Int)).isSome = true) := Lib.hid (fun j h1 h2 => by
        rcases Nat.lt_or_ge j i with h3 | h3
        · exact HP.out j h1 h3
        · obtain rfl : j = i := by omega
          exact HBm.out)
      go_wp2
      exact ⟨⟨i + 1, by go_num, by omega, by omega, hS.out, HB2.out⟩, by simp [intOf]; omega⟩
  · obtain rfl : i = 256 := by omega
    go_wp2
    go_ret2
    exact ⟨.inr ⟨HP.out, rfl⟩, HB.out⟩
set_option maxHeartbeats 4000000 in
set_option maxRecDepth 100000 in
theorem ids_ok {W : World} {p b n : Nat} {m : Int → Option NdS} (h : GvAt W p b n m) :
    Calls Try.prog 27 #[.pointer (some ⟨p, 0, none⟩)] W fun e w' => ∃ v, e = .returned v ∧ w'.ownsRow W.heap.size 3 1 v (idsL m 256).length (iv (idsL m 256)) ∧ Below W.heap.size W w' := by
  have HG := Lib.hid h
  have HIs := Lib.hid (is_ok h.1)
  clear h
  go_enter Try.func27, Try.ntmps27
  go_wp2_with fail
  (with_reducible refine HIs.out.mono ?_); rintro e w2 ⟨rfl, rfl⟩
  go_wp2_with fail
  go_loopw [3, 4] (fun vo vi W' => ∃ i : Nat, vi = .int .i64 i ∧ 1 ≤ i ∧ i ≤ 256 ∧ W'.ownsRow W.heap.size 3 1 vo (idsL m i).length (iv (idsL m i)) ∧ Below W.heap.size W W') (fun _ vi _ => 256 - (intOf vi).toNat)
  case atStart => exact ⟨1, rfl, by omega, by omega, by rw [idsL_one]; exact ⟨rfl, .inl ⟨rfl, rfl⟩⟩, Below.refl _ _⟩
  case round =>
  obtain ⟨i, rfl, hi1, hi2, ho, hb⟩ := hrel
  have HB := Lib.hid hb
  have HO := Lib.hid ho
  have hL := idsL_len m i
  obtain ⟨Ao, co, rfl, _⟩ := own_rd ho
  clear hb ho
  by_cases hi : i < 256
  · have d1 : decide ((i : Int) < 256) = true := decide_eq_true (by omega)
    have hg := HG.out.up HB.out
    have hlk := hg.look (id := i) ⟨by omega, by omega⟩
    have hp0 : wr.cell? ⟨p, 0, none⟩ = some (.map (some b)) := by rw [cell_block hg.1]; rfl
    have hpr := (hg.prd i).1
    have hsu := idsL_succ m i hi1
    obtain ⟨x, hx⟩ : ∃ x, (m (i : Int)).getD NdS.zero = x := ⟨_, rfl⟩
    rw [hx] at hlk hpr
    obtain ⟨B, hB⟩ : ∃ y, (m (i : Int)).isSome = y := ⟨_, rfl⟩
    rw [hB] at hlk hsu
    have HSu := Lib.hid hsu
    clear hx hB hg hsu
    obtain ⟨lf, v, pts, next, ks, cs⟩ := x
    simp only at hlk hpr
    obtain ⟨A, c, rfl, _, _⟩ := hpr
    have HB2 := Lib.hid (below_alloc HB.out (.cells (ncells ⟨lf, .slice A pts.length c, pts, next, ks, cs⟩) 49))
    have HO2 := Lib.hid (own_below HO.out (below_alloc1 wr (.cells (ncells ⟨lf, .slice A pts.length c, pts, next, ks, cs⟩) 49)))
    cases B
    · have hO3 : Hid (idsL m (i + 1) = idsL m i) := Lib.hid (by rw [HSu.out]; simp)
      go_wp2
      exact ⟨⟨i + 1, by go_num, by omega, by omega, by rw [hO3.out]; exact HO2.out, HB2.out⟩, by simp [intOf]; omega⟩
    · have hO3 : Hid (idsL m (i + 1) = idsL m i ++ [(i : Int)]) := Lib.hid (by rw [HSu.out]; simp)
      go_upto_region 9 with (fail)
      generalize World.alloc wr _ = w1 at *
      clear hlk hp0
      have HN := Lib.hid (rd_new w1 #[.int .i64 (i : Int)] 3 (iv [(i : Int)]) rfl)
      have HO4 := Lib.hid (own_below HO2.out (below_alloc1 w1 (.cells #[.int .i64 (i : Int)] 3)))
      have HB4 := Lib.hid (below_alloc HB2.out (.cells #[.int .i64 (i : Int)] 3))
      go_wp2_with (at_builtin; refine wpList_app rfl _ _ 29 rfl W.heap.size 3 (.int .i64 0) 1 8 Try.underlying29 info_i64 rfl (by decide) (by decide) (.slice Ao (idsL m i).length co) (idsL m i).length (iv (idsL m i)) rfl _ 1 1 (iv [(i : Int)]) rfl HO4.out rfl HN.out (iv_one _) (by omega) HB4.out.size ?_; intro A5 c5 w5 hown hgrow hat; have HO5 := Lib.hid hown; have HB5 := Lib.hid (below_grown HB4.out hgrow (fun k e => own_base HO4.out k e)); clear hown hgrow hat)
      exact ⟨⟨i + 1, by go_num, by omega, by omega, by rw [hO3.out, iv_append, List.length_append]; exact HO5.out, HB5.out⟩, by simp [intOf]; omega⟩
  · obtain rfl : i = 256 := by omega
    go_wp2
    go_ret
    exact ⟨_, rfl, HO.out, HB.out⟩
end Go.Proofs.Ythpnlgdcijmocaa.Gv
