/- The walk over disk's Odd. -/
import Derived.Test.YthpnlgdcijmocaaDk9
namespace Go.Proofs.Ythpnlgdcijmocaa.Dk
open Go.RowKit Rg Mp
set_option linter.unusedVariables false
set_option linter.unusedSimpArgs false
def oddN (d : DkS) (k : Nat) : List Int := ((List.range k).filter fun i => d.odd.getD i false).map fun (i : Nat) => (i : Int)
theorem oddN_succ (d : DkS) (k : Nat) : oddN d (k + 1) = oddN d k ++ if d.odd.getD k false = true then [(k : Int)] else [] := by
  unfold oddN
  rw [List.range_succ, List.filter_append, List.map_append]
  split <;> simp_all
theorem oddN_le (d : DkS) (k : Nat) : (oddN d k).length ≤ k := by
  unfold oddN
  rw [List.length_map]
  exact Nat.le_trans (List.length_filter_le _ _) (by simp)
theorem zbool (W : World) : (zeroValue 4).run Try.prog W = .ok (.bool false) W := by kernel_rfl
theorem oddF_get (d : DkS) (k : Nat) : (oddF d (k : Nat)).getD (.bool false) = .bool (d.odd.getD k false) := by
  unfold oddF
  have e : ((k : Nat) : Int).toNat = k := by omega
  rw [e]
  cases h : d.odd.getD k false with
  | true => rw [if_pos ⟨by omega, rfl⟩]; rfl
  | false => rw [if_neg (fun hc => by cases hc.2)]; rfl
section
variable {L : Int → Prop} {W W' : World} {base N g r : Nat} {vs vw vf : Value} {d d' : DkS}
set_option maxHeartbeats 2000000 in
set_option maxRecDepth 100000 in
theorem dodd_ok (h : DAt L W base N g vs vw r d) : Calls Try.prog 45 #[.pointer (some ⟨g, 0, none⟩)] W fun e w' => ∃ v, e = .returned v ∧ w'.ownsRow W.heap.size 3 1 v (oddN d d.sure.length).length (iv (oddN d d.sure.length)) ∧ Below W.heap.size W w' := by
  obtain ⟨vf, lf, cl, hb, hq, _⟩ := h.ex
  have HI := Lib.hid (is_ok (cell_block hb 0))
  have hm := h.ok.many
  obtain ⟨As, cs, rfl, _⟩ := hq.s.slice
  obtain ⟨⟨_, c1, _, c3, _⟩, _⟩ := db_cells hb
  have HX := Lib.hid (And.intro hb hq.m)
  clear hb hq h
  go_enter Try.func45, Try.ntmps45
  go_wp2_with fail
  (with_reducible refine HI.out.mono ?_); rintro e w1 ⟨rfl, rfl⟩
  go_wp2_with fail
  clear c1 c3
  go_loopw [3, 13] (fun vo vi Wx => ∃ k : Nat, k ≤ d.sure.length ∧ vi = .int .i64 k ∧ Wx.ownsRow W.heap.size 3 1 vo (oddN d k).length (iv (oddN d k)) ∧ Below W.heap.size W Wx) (fun _ vi _ => d.sure.length - (intOf vi).toNat)
  case atStart => exact ⟨0, by omega, rfl, ⟨rfl, .inl ⟨rfl, rfl⟩⟩, Below.refl _ _⟩
  case round =>
  obtain ⟨k, hk, rfl, ho, hbl⟩ := hrel
  obtain ⟨Ao, co, rfl, hco, _, _, _⟩ := own_rd ho
  have HO := Lib.hid (And.intro ho hbl)
  have hol := oddN_le d k
  clear ho hbl
  by_cases hlt : k < d.sure.length
  · have dd : decide ((k : Int) < d.sure.length) = true := decide_eq_true (by omega)
    have dn : decide (k < d.sure.length) = true := decide_eq_true hlt
    have c3 := cell_block (block_up HX.out.1 HO.out.2) 3
    simp only [List.getElem?_toArray, List.getElem?_cons_succ, List.getElem?_cons_zero] at c3
    have hlk := (HX.out.2.up HO.out.2).look1 keyD mapD (zbool wr) (a := (k : Nat)) ⟨by omega, by omega⟩
    rw [oddF_get] at hlk
    have hs := oddN_succ d k
    obtain ⟨O1, hO1⟩ : ∃ O, oddN d (k + 1) = O := ⟨_, rfl⟩
    rw [hO1] at hs
    have HO1 := Lib.hid hO1
    clear hO1
    generalize oddN d k = O at *
    cases hod : d.odd.getD k false with
    | true =>
      rw [hod] at hlk hs
      rw [if_pos rfl] at hs
      have HS := Lib.hid hs
      clear hs hod
      have hba := below_alloc1 wr (.cells #[.int .i64 (k : Nat)] 3)
      have HRd := Lib.hid (rd_new wr #[.int .i64 (k : Nat)] 3 (iv [(k : Int)]) rfl)
      have HO3 := Lib.hid (And.intro (own_below HO.out.1 hba) (below_up HO.out.2 hba))
      have hal := wr.heap.size
      clear hba
      go_wp2_with (at_builtin; refine wpList_app rfl _ _ 29 rfl W.heap.size 3 (.int .i64 0) 1 8 Try.underlying29 info_i64 rfl (by decide) (by decide) (.slice Ao O.length co) O.length (iv O) rfl (some ⟨wr.heap.size, 0, none⟩) 1 1 (iv [(k : Int)]) rfl HO3.out.1 rfl HRd.out (iv_one _) (by omega) HO3.out.2.size ?_)
      intro A1 c1 w9 hown hgrow hat
      have HR : Hid (w9.ownsRow W.heap.size 3 1 (.slice A1 (O.length + 1) c1) O1.length (iv O1) ∧ Below W.heap.size W w9) := Lib.hid ⟨by rw [HS.out, List.length_append, iv_append]; exact hown, below_grown HO3.out.2 hgrow (fun k e => own_base HO3.out.1 k e)⟩
      clear hown hgrow hat
      go_wp2
      exact ⟨⟨k + 1, by omega, by go_num, by rw [HO1.out]; exact HR.out.1, HR.out.2⟩, by simp [intOf]; omega⟩
    | false =>
      rw [hod] at hlk hs
      rw [if_neg (by decide), List.append_nil] at hs
      have HS := Lib.hid hs
      clear hs hod
      go_wp2
      exact ⟨⟨k + 1, by omega, by go_num, by rw [HO1.out, HS.out]; exact HO.out.1, HO.out.2⟩, by simp [intOf]; omega⟩
  · have hkl : k = d.sure.length := by omega
    subst hkl
    have dd : decide ((d.sure.length : Int) < d.sure.length) = false := decide_eq_false (by omega)
    have dn : decide (d.sure.length < d.sure.length) = false := decide_eq_false (by omega)
    go_wp2
    go_ret
    exact ⟨_, rfl, HO.out⟩
end
end Go.Proofs.Ythpnlgdcijmocaa.Dk
