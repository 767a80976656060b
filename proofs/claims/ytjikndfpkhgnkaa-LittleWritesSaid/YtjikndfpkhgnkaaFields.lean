/- The fields of package little's laws, as data. -/
import Derived.Test.YtjikndfpkhgnkaaOpen
import Derived.Test.YtjikndfpkhgnkaaLlaws
namespace Go.Proofs.Ytjikndfpkhgnkaa.Lt
open Go.RowKit
set_option linter.unusedVariables false
structure FieldS where
  kind : Int
  n : Int
  size : Int
  s : ByteArray
deriving Inhabited
namespace FieldS
def cells (f : FieldS) : List Value := [.int .i64 f.kind, .int .i64 f.n, .int .i64 f.size, .string f.s]
def fine (f : FieldS) : Prop := (-9223372036854775808 ≤ f.kind ∧ f.kind ≤ 9223372036854775807) ∧ (-9223372036854775808 ≤ f.n ∧ f.n ≤ 9223372036854775807) ∧ (-9223372036854775808 ≤ f.size ∧ f.size ≤ 9223372036854775807) ∧ f.s.size ≤ 140737488351232
end FieldS
def FieldsAt (w : World) (v : Value) (F : List FieldS) : Prop := ∃ A cap, v = .slice A F.length cap ∧ F.length ≤ 140737488351232 ∧ (∀ f ∈ F, f.fine) ∧ ∀ i (h : i < F.length), ∀ j, j < 4 → ∃ ad, A = some ad ∧ w.cell? (ad.add (i * 4 + j)) = F[i].cells[j]?
theorem FieldsAt.get {w : World} {A : Option Addr} {n cap : Nat} {F : List FieldS} (h : FieldsAt w (.slice A n cap) F) {k : Nat} (hk : k < F.length) : ∃ g o, A = some ⟨g, o, none⟩ ∧ F[k].fine ∧
    w.cell? ⟨g, o + k * 4, none⟩ = some (.int .i64 F[k].kind) ∧ w.cell? ⟨g, o + k * 4 + 1, none⟩ = some (.int .i64 F[k].n) ∧ w.cell? ⟨g, o + k * 4 + 2, none⟩ = some (.int .i64 F[k].size) ∧ w.cell? ⟨g, o + k * 4 + 3, none⟩ = some (.string F[k].s) := by
  obtain ⟨A', cap', e, hl, hf, hc⟩ := h
  injection e with e1 e2 e3
  subst e1
  obtain ⟨ad, rfl, h0⟩ := hc 0 (by omega) 0 (by omega)
  have hsp := World.cell?_spot h0
  obtain ⟨g, o, sp⟩ := ad
  have hsp : sp = none := by simpa [Addr.add] using hsp
  subst hsp
  have hj : ∀ j, j < 4 → w.cell? ⟨g, o + k * 4 + j, none⟩ = F[k].cells[j]? := fun j hj => by
    obtain ⟨ad, e, h1⟩ := hc k hk j hj
    injection e with e
    subst e
    rw [add_plain, ← Nat.add_assoc] at h1
    exact h1
  exact ⟨g, o, rfl, hf _ (List.getElem_mem hk), hj 0 (by omega), hj 1 (by omega), hj 2 (by omega), hj 3 (by omega)⟩
section
variable {H : Type} {enc : TypeId × Value → H} {w : World}
set_option maxRecDepth 100000 in
theorem fields_open {r : Reach} {b0 : Nat} {v : Value} {d : DataW H} {ps : List MemPlace} (hval : Value.okWide Try.prog w r b0 46 v) (hd : DataW.Trod enc Try.prog w 0 (fun _ => true) true 46 v d ps)
    (hw : ∀ m ∈ d.weights Try.prog 46, m ≤ reachBytes) : ∃ F : List FieldS, FieldsAt w v F ∧ F.length ≤ reachBytes := by
  have hc : Try.prog.cellsOf 52 = 4 := by kernel_rfl
  have hby : 1 ≤ Try.prog.bytesOf 52 := by decide +kernel
  obtain ⟨A, len, cap, rfl, hl, hby', hel⟩ := open_rows Try.underlying46 hval hd hw
  have hlen : len ≤ reachBytes := Nat.le_trans (Nat.le_mul_of_pos_right _ hby) hby'
  rw [hc] at hel
  have h1 : ∀ i, i < len → ∃ f : FieldS, f.fine ∧ ∀ j, j < 4 → ∃ ad, A = some ad ∧ w.cell? (ad.add (i * 4 + j)) = f.cells[j]? := fun i hi => by
    obtain ⟨cs, n, x, hcl, h2, h3, h4⟩ := hel i hi
    obtain ⟨k, k1, k2⟩ := fld_int Try.underlying52 h3 0 _ rfl Try.underlying3 (by kernel_rfl)
    obtain ⟨m, m1, m2⟩ := fld_int Try.underlying52 h3 1 _ rfl Try.underlying3 (by kernel_rfl)
    obtain ⟨z, z1, z2⟩ := fld_int Try.underlying52 h3 2 _ rfl Try.underlying3 (by kernel_rfl)
    obtain ⟨s, s1, s2⟩ := fld_string Try.underlying52 h3 h4 3 _ rfl Try.underlying9 (by kernel_rfl)
    refine ⟨⟨k, m, z, s⟩, ⟨bounds_i64 k2, bounds_i64 m2, bounds_i64 z2, s2⟩, fun j hj => ?_⟩
    obtain ⟨ad, e1, e2⟩ := h2 j hj
    refine ⟨ad, e1, ?_⟩
    rw [e2]
    rcases (by omega : j = 0 ∨ j = 1 ∨ j = 2 ∨ j = 3) with rfl | rfl | rfl | rfl
    · exact k1
    · exact m1
    · exact z1
    · exact s1
  obtain ⟨G, hG⟩ := Deep.choose_lt h1
  refine ⟨(List.range len).map G, ⟨A, cap, by simp, by rw [List.length_map, List.length_range]; exact Nat.le_trans hlen (by decide), ?_, ?_⟩, by simpa using hlen⟩
  · intro f hf
    obtain ⟨i, hi, rfl⟩ := List.mem_map.1 hf
    exact (hG i (List.mem_range.1 hi)).1
  · intro i hi j hj
    have hi' : i < len := by simpa using hi
    obtain ⟨ad, e1, e2⟩ := (hG i hi').2 j hj
    exact ⟨ad, e1, by rw [e2]; simp⟩
end
end Go.Proofs.Ytjikndfpkhgnkaa.Lt
