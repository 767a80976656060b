/- Steps that are arguments. -/
import Derived.Test.YtkjapmafipnmpaaOpen3
import Derived.Test.YtkjapmafipnmpaaC0
namespace Go.Proofs.Ytkjapmafipnmpaa
open Go.RowKit Cd
set_option linter.unusedVariables false
theorem int_opens : OpensAs Try.prog 3 (fun n : Int => [.int .i64 n]) (fun _ n => -9223372036854775808 ≤ n ∧ n ≤ 9223372036854775807) := fun encH w fuel cs x h hw => by
  obtain ⟨m, h4, _, h5⟩ := DataW.trod_int Try.underlying3 h
  exact ⟨m, h4, bounds_i64 h5⟩
theorem flat_iv : ∀ l : List Int, (l.flatMap fun n : Int => [Value.int .i64 n]) = iv l
  | [] => rfl
  | a :: l => by rw [List.flatMap_cons, flat_iv l]; rfl
theorem ird_of {w : World} {v : Value} {l : List Int} (h : SRd 1 (fun n : Int => [.int .i64 n]) w v l) : IRd w v l := by
  obtain ⟨A, c, e, h1, h2⟩ := h
  rw [flat_iv] at h2
  exact ⟨A, c, e, h1, h2⟩
theorem list8 {cs : List Value} {a b c d e f g h : Value} (hl : cs.length = 8) (h0 : cs[0]? = some a) (h1 : cs[1]? = some b) (h2 : cs[2]? = some c) (h3 : cs[3]? = some d) (h4 : cs[4]? = some e) (h5 : cs[5]? = some f) (h6 : cs[6]? = some g) (h7 : cs[7]? = some h) : cs = [a, b, c, d, e, f, g, h] := by
  match cs, hl with
  | [x1, x2, x3, x4, x5, x6, x7, x8], _ => simp at h0 h1 h2 h3 h4 h5 h6 h7; rw [h0, h1, h2, h3, h4, h5, h6, h7]
theorem stp_opens : OpensAs Try.prog 45 StepS.cells (fun w e => e.fine w) := fun encH w fuel cs x h hw => by
  obtain ⟨k, k1, k2⟩ := fld_int Try.underlying45 h 0 _ rfl Try.underlying3 (by kernel_rfl)
  obtain ⟨a, a1, a2⟩ := fld_int Try.underlying45 h 1 _ rfl Try.underlying3 (by kernel_rfl)
  obtain ⟨p, p1, p2⟩ := fld_int Try.underlying45 h 2 _ rfl Try.underlying42 (by kernel_rfl)
  obtain ⟨q, q1, q2⟩ := fld_int Try.underlying45 h 3 _ rfl Try.underlying42 (by kernel_rfl)
  obtain ⟨r, r1, r2⟩ := fld_int Try.underlying45 h 4 _ rfl Try.underlying42 (by kernel_rfl)
  obtain ⟨t, t1, t2⟩ := fld_int Try.underlying45 h 5 _ rfl Try.underlying42 (by kernel_rfl)
  obtain ⟨s, s1, s2⟩ := fld_string Try.underlying45 h hw 6 _ rfl Try.underlying9 (by kernel_rfl)
  obtain ⟨v, l, v1, v2, v3, v4⟩ := fld_slice int_opens Try.underlying45 h hw 7 _ rfl Try.underlying43 (by kernel_rfl) (by kernel_rfl : _ = 1) (by decide) (fun _ => rfl)
  have hl : cs.length = 8 := (struct_len Try.underlying45 h).trans (by kernel_rfl)
  have p3 : 0 ≤ p ∧ p ≤ 4294967295 := bounds_u32 p2
  have q3 : 0 ≤ q ∧ q ≤ 4294967295 := bounds_u32 q2
  have r3 : 0 ≤ r ∧ r ≤ 4294967295 := bounds_u32 r2
  have t3 : 0 ≤ t ∧ t ≤ 4294967295 := bounds_u32 t2
  obtain ⟨P, rfl⟩ := Int.eq_ofNat_of_zero_le p3.1
  obtain ⟨Q, rfl⟩ := Int.eq_ofNat_of_zero_le q3.1
  obtain ⟨R, rfl⟩ := Int.eq_ofNat_of_zero_le r3.1
  obtain ⟨T, rfl⟩ := Int.eq_ofNat_of_zero_le t3.1
  rw [show Try.prog.bytesOf 3 = 8 from by kernel_rfl, show reachBytes = 140737488351232 from by decide] at v4
  refine ⟨⟨k, a, P, Q, R, T, s, v, l⟩, list8 hl k1 a1 p1 q1 r1 t1 s1 v1, bounds_i64 k2, bounds_i64 a2, ⟨?_, ?_, ?_, ?_⟩, Nat.le_trans s2 (by decide), ird_of v2, v3, ?_⟩
  · show P < _; omega
  · show Q < _; omega
  · show R < _; omega
  · show T < _; omega
  · show l.length ≤ _; omega
end Go.Proofs.Ytkjapmafipnmpaa
