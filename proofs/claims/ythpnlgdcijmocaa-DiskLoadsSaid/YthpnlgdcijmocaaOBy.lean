/- Arguments opened: lists of octets. -/
import Derived.Test.YthpnlgdcijmocaaOpen3
import Derived.Test.YthpnlgdcijmocaaDk2
namespace Go.Proofs.Ythpnlgdcijmocaa
open Go.RowKit
set_option linter.unusedVariables false
theorem u8_opens : OpensAs Try.prog 5 (fun c : UInt8 => [Value.int .u8 c.toNat]) (fun _ _ => True) := fun encH w fuel cs x h hw => by
  obtain ⟨m, h4, _, h5⟩ := DataW.trod_int Try.underlying5 h
  have hb : 0 ≤ m ∧ m ≤ 255 := by simpa [Lit.wf, IntKind.min, IntKind.max, IntKind.signed, IntKind.bits] using h5
  refine ⟨UInt8.ofNat m.toNat, ?_, trivial⟩
  rw [h4]
  have : ((UInt8.ofNat m.toNat).toNat : Int) = m := by
    rw [UInt8.toNat_ofNat']
    omega
  show _ = [Value.int .u8 ((UInt8.ofNat m.toNat).toNat : Int)]
  rw [this]
theorem bv_flat (l : List UInt8) : l.flatMap (fun c : UInt8 => [Value.int .u8 c.toNat]) = bv l := by
  unfold bv
  induction l with
  | nil => rfl
  | cons a l ih => rw [List.flatMap_cons, ih]; rfl
theorem bytes_opens : OpensAs Try.prog 78 (fun v : Value => [v]) (fun w v => ∃ l, BRd w v l ∧ l.length ≤ 140737488351232) := fun encH w fuel cs x h hw => by
  obtain ⟨v, l, h1, h2, _, h3⟩ := cells_slice u8_opens Try.underlying78 (by kernel_rfl : _ = 1) (by decide) (fun _ => rfl) h hw
  have hby : Try.prog.bytesOf 5 = 1 := by kernel_rfl
  have hr : reachBytes = 140737488351232 := by decide
  rw [hby, hr, Nat.mul_one] at h3
  obtain ⟨A, c, e, hc, hrd⟩ := h2
  rw [bv_flat] at hrd
  exact ⟨v, h1, l, ⟨A, c, e, hc, hrd, fun ad e' hne => Rd.brd c hrd hne ad e'⟩, h3⟩
/-- Lists of octets out of what opens. -/
theorem slAt_open {w : World} {v : Value} {l : List Value} (h : SRd 1 (fun v : Value => [v]) w v l) (hf : ∀ a ∈ l, ∃ b, BRd w a b ∧ b.length ≤ 140737488351232) : ∃ ls : List (List UInt8), ls.length = l.length ∧ Dk.SlAt w v ls ∧ ∀ b ∈ ls, b.length ≤ 140737488351232 := by
  have h1 : ∀ i, i < l.length → ∃ b, BRd w (l.getD i undef) b ∧ b.length ≤ 140737488351232 := fun i hi => by
    rw [List.getD_eq_getElem?_getD, List.getElem?_eq_getElem hi]
    exact hf _ (List.getElem_mem hi)
  obtain ⟨F, hF⟩ := Deep.choose_lt h1
  obtain ⟨A, c, e, hc, hrd⟩ := h
  have hfl : l.flatMap (fun v : Value => [v]) = l := by
    clear e hc hrd hF hf h1
    induction l with
    | nil => rfl
    | cons a l ih => rw [List.flatMap_cons, ih]; rfl
  rw [hfl] at hrd
  refine ⟨(List.range l.length).map F, by simp, ⟨A, c, by rw [e]; simp, fun i hi => ?_⟩, fun b hb => ?_⟩
  · have hi' : i < l.length := by simpa using hi
    obtain ⟨ad, e1, e2⟩ := hrd.at_ hi'
    refine ⟨ad, _, e1, e2, ?_⟩
    have := (hF i hi').1
    rw [List.getD_eq_getElem?_getD, List.getElem?_eq_getElem hi'] at this
    simpa using this
  · obtain ⟨i, hi, rfl⟩ := List.mem_map.1 hb
    exact (hF i (List.mem_range.1 hi)).2
end Go.Proofs.Ythpnlgdcijmocaa
