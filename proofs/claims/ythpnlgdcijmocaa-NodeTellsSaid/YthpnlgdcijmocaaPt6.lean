/- Plain laws of points: what is put, what is got. -/
import Derived.Test.YthpnlgdcijmocaaPt5
namespace Go.Proofs.Ythpnlgdcijmocaa.Pt
open Go.RowKit Lt
set_option linter.unusedVariables false
set_option linter.unusedSimpArgs false
theorem sz4 : sz 4 = 4 := by decide
theorem sz1 : sz 1 = 1 := by decide
theorem str_len (d : ByteArray) : d.data.toList.length = d.size := by rw [Array.length_toList]; rfl
theorem ptB_len (p : PtS) : (ptB p).length = 13 + p.d.size := by
  unfold ptB; simp [numB_len]; omega
theorem putP_ok {R : Int} {b : List UInt8} {p : PtS} (hc : p.chk = 0) (hf : p.fine) (hr : (b.length : Int) + 13 + p.d.size ≤ R) : putP (outOk R b) p = outOk R (b ++ ptB p) := by
  obtain ⟨c1, c2, c3⟩ := chk_zero hc
  obtain ⟨_, f3, f4, _⟩ := hf
  obtain ⟨id, x, y, d⟩ := p
  simp only at c1 c2 c3 f3 f4 hr
  obtain ⟨I, rfl⟩ := Int.eq_ofNat_of_zero_le (by omega : 0 ≤ id)
  unfold putP ptB
  simp only [Int.toNat_natCast]
  rw [outOk_num I 4 (by rw [sz4]; omega) (by rw [sz4]; omega), outOk_num x 4 (by rw [sz4]; omega) (by rw [sz4, List.length_append, numB_len]; omega), outOk_num y 4 (by rw [sz4]; omega) (by rw [sz4]; simp only [List.length_append, numB_len]; omega), outOk_byte d.size (by omega) (by rw [sz4]; simp only [List.length_append, numB_len]; omega), outOk_put (by rw [sz4, str_len]; simp only [List.length_append, numB_len, List.length_cons, List.length_nil]; omega), sz4]
  rw [Nat.mod_eq_of_lt (by omega)]
  simp [List.append_assoc]
theorem got4 {b : List UInt8} (h : 4 ≤ b.length) : (inOk b).next 4 = inOk (b.drop 4) ∧ (inOk b).got 4 = b.take 4 := by
  rw [inOk_next, inOk_got, if_neg (by omega), if_neg (by omega)]; exact ⟨rfl, rfl⟩
theorem got1 {b : List UInt8} (h : 1 ≤ b.length) : (inOk b).next 1 = inOk (b.drop 1) ∧ (inOk b).got 1 = b.take 1 := by
  rw [inOk_next, inOk_got, if_neg (by omega), if_neg (by omega)]; exact ⟨rfl, rfl⟩
theorem get_one {b : List UInt8} (h : 13 ≤ b.length) : getB ((b.drop 12).take 1) = (b.getD 12 0).toNat := by
  have h12 : 12 < b.length := by omega
  have e : (b.drop 12).take 1 = [b[12]] := by rw [List.drop_eq_getElem_cons h12]; rfl
  rw [e]
  simp [getB, List.getD, List.getElem?_eq_getElem h12]
/-- Octets enough: what is got. -/
theorem rdP_full {b : List UInt8} (h : 13 ≤ b.length) : rdP (inOk b) = ⟨⟨(getB (b.take 4) : Nat), getB ((b.take 8).drop 4), getB ((b.take 12).drop 8), bstr ((inOk (b.drop 13)).got (b.getD 12 0).toNat)⟩, (inOk (b.drop 13)).next (b.getD 12 0).toNat⟩ := by
  unfold rdP
  have a1 := got4 (b := b) (by omega)
  have a2 := got4 (b := b.drop 4) (by rw [List.length_drop]; omega)
  have a3 := got4 (b := (b.drop 4).drop 4) (by simp only [List.length_drop]; omega)
  have a4 := got1 (b := ((b.drop 4).drop 4).drop 4) (by simp only [List.length_drop]; omega)
  have e1 := get_one h
  simp only [List.drop_drop] at a2 a3 a4
  simp only [a1.1, a1.2, a2.1, a2.2, a3.1, a3.2, a4.1, a4.2, List.drop_drop, e1, List.drop_take]
/-- Too few octets: none is got. -/
theorem rdP_short {b : List UInt8} (h : b.length < 13) : (rdP (inOk b)).s = inBad := by
  have key : ((((inOk b).next 4).next 4).next 4).next 1 = inBad := by
    by_cases h4 : b.length < 4
    · rw [inOk_next, if_pos h4, inBad_next, inBad_next, inBad_next]
    · rw [(got4 (b := b) (by omega)).1]
      by_cases h8 : b.length < 8
      · rw [inOk_next, if_pos (by rw [List.length_drop]; omega), inBad_next, inBad_next]
      · rw [(got4 (b := b.drop 4) (by rw [List.length_drop]; omega)).1]
        by_cases h12 : b.length < 12
        · rw [inOk_next, if_pos (by simp only [List.length_drop]; omega), inBad_next]
        · rw [(got4 (b := (b.drop 4).drop 4) (by simp only [List.length_drop]; omega)).1, inOk_next, if_pos (by simp only [List.length_drop]; omega)]
  unfold rdP
  simp only
  rw [key, inBad_next]
theorem ok_bad {r : RdP} (h : r.s = inBad) : r.ok = false := decide_eq_false (by rw [h, inBad_tells]; rintro ⟨h, _⟩; cases h)
/-- What is got is what the page says. -/
theorem rdP_gpt (b : List UInt8) : (rdP (inOk b)).out = (gpt b).1 ∧ (rdP (inOk b)).ok = decide (0 < (gpt b).2) ∧ (0 < (gpt b).2 → (rdP (inOk b)).s = inOk (b.drop (gpt b).2) ∧ (gpt b).2 ≤ b.length) := by
  unfold gpt
  by_cases h : b.length < 13
  · rw [if_pos h]
    have e := ok_bad (rdP_short h)
    exact ⟨by unfold RdP.out; rw [e]; rfl, by rw [e]; rfl, fun h => absurd h (by decide)⟩
  · rw [if_neg h, rdP_full (by omega)]
    generalize (b.getD 12 0).toNat = n
    by_cases hn : b.length < 13 + n
    · rw [if_pos hn]
      have hb : (inOk (b.drop 13)).next n = inBad := by rw [inOk_next, if_pos (by rw [List.length_drop]; omega)]
      rw [hb]
      have e := ok_bad (r := ⟨⟨(getB (b.take 4) : Nat), getB ((b.take 8).drop 4), getB ((b.take 12).drop 8), bstr ((inOk (b.drop 13)).got n)⟩, inBad⟩) rfl
      exact ⟨by unfold RdP.out; rw [e]; rfl, by rw [e]; rfl, fun h => absurd h (by decide)⟩
    · rw [if_neg hn]
      have hb : (inOk (b.drop 13)).next n = inOk (b.drop (13 + n)) := by rw [inOk_next, if_neg (by rw [List.length_drop]; omega), List.drop_drop]
      have hg : (inOk (b.drop 13)).got n = (b.take (13 + n)).drop 13 := by rw [inOk_got, if_neg (by rw [List.length_drop]; omega), List.drop_take, Nat.add_sub_cancel_left]
      rw [hb, hg]
      by_cases hc : (gptP b n).chk = 0
      · rw [if_pos hc]
        have e : RdP.ok ⟨gptP b n, inOk (b.drop (13 + n))⟩ = true := decide_eq_true ⟨rfl, hc⟩
        refine ⟨?_, ?_, fun _ => ⟨rfl, by show 13 + n ≤ _; omega⟩⟩
        · show RdP.out ⟨gptP b n, _⟩ = _; unfold RdP.out; rw [e]; rfl
        · show RdP.ok ⟨gptP b n, _⟩ = _; rw [e]; simp; omega
      · rw [if_neg hc]
        have e : RdP.ok ⟨gptP b n, inOk (b.drop (13 + n))⟩ = false := decide_eq_false (fun h => hc h.2)
        refine ⟨?_, ?_, fun h => absurd h (by decide)⟩
        · show RdP.out ⟨gptP b n, _⟩ = _; unfold RdP.out; rw [e]; rfl
        · show RdP.ok ⟨gptP b n, _⟩ = _; rw [e]; rfl
end Go.Proofs.Ythpnlgdcijmocaa.Pt
