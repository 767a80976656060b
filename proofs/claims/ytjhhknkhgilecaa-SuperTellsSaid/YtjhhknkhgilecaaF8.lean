/- What is sealed is opened, plainly. -/
import Derived.Test.YtjhhknkhgilecaaF5
namespace Go.Proofs.Ytjhhknkhgilecaa.Fm
open Go.RowKit Lt
set_option linter.unusedVariables false
set_option linter.unusedSimpArgs false
theorem getB_numB' : ∀ (k N : Nat), getB (numB k N) = N % 256 ^ k
  | 0, N => by simp [numB, getB, Nat.mod_one]
  | k + 1, N => by
    have h3 : (UInt8.ofNat (N / 256 ^ k % 256)).toNat = N / 256 ^ k % 256 := by simp
    rw [numB_succ, getB_snoc, getB_numB' k N, numB_length, h3, Nat.mod_pow_succ]
theorem getB_numB (k N : Nat) (h : N < 256 ^ k) : getB (numB k N) = N := by rw [getB_numB', Nat.mod_eq_of_lt h]
theorem sec_snd {k : Int} {s : StS} {t : List UInt8} (ht : t.length ≤ 238) : snd (secB k s t) = true := by
  have hl := secB_len k s t ht
  have hb := body_len k s t ht
  unfold snd
  refine decide_eq_true ⟨hl, ?_⟩
  unfold secB
  rw [List.drop_left' hb, List.take_left' hb, getB_numB 4 _ (by have := crc_lt (body k s t); omega)]
theorem sec_back {k : Int} {s : StS} {t : List UInt8} (hb : ¬ bad k s) (ht : t.length ≤ 238) : okR (secB k s t) ∧ (kOf (secB k s t) : Int) = k ∧ sOf (secB k s t) = s ∧ tOf (secB k s t) = t := by
  have hat := body_at (k := k) (s := s) ht
  have hn : nOf (secB k s t) = t.length := by unfold nOf; rw [hat.1]; simp; omega
  have hb' := hb
  unfold bad at hb'
  have e : ∃ r, secB k s t = numB 2 21059 ++ ([UInt8.ofNat k.toNat] ++ (numB 4 s.ep.toNat ++ (numB 4 s.sq.toNat ++ (numB 2 s.pos.toNat ++ r)))) := by
    refine ⟨[UInt8.ofNat t.length] ++ t ++ List.replicate (238 - t.length) 0 ++ numB 4 (Crc.crc (body k s t)), ?_⟩
    show body k s t ++ numB 4 (Crc.crc (body k s t)) = _
    generalize numB 4 (Crc.crc (body k s t)) = cs
    unfold body hdr
    simp only [List.append_assoc]
  obtain ⟨r, e⟩ := e
  have h2 : numB 2 21059 = [67, 82] := by decide
  have d3 : (secB k s t).drop 3 = numB 4 s.ep.toNat ++ (numB 4 s.sq.toNat ++ (numB 2 s.pos.toNat ++ r)) := by rw [e, h2]; rfl
  have d7 : (secB k s t).drop 7 = numB 4 s.sq.toNat ++ (numB 2 s.pos.toNat ++ r) := by
    rw [show (7 : Nat) = 3 + 4 from rfl, ← List.drop_drop, d3, List.drop_left' (numB_length _ _)]
  have d11 : (secB k s t).drop 11 = numB 2 s.pos.toNat ++ r := by
    rw [show (11 : Nat) = 7 + 4 from rfl, ← List.drop_drop, d7, List.drop_left' (numB_length _ _)]
  refine ⟨⟨sec_snd ht, ?_, ?_, by omega, fun j h1 h2 => hat.2.2 j h1 (by omega)⟩, ?_, ?_, ?_⟩
  · rw [e, h2]; rfl
  · rw [e, h2]; rfl
  · unfold kOf
    rw [e, h2]
    have : ([67, 82] ++ ([UInt8.ofNat k.toNat] ++ (numB 4 s.ep.toNat ++ (numB 4 s.sq.toNat ++ (numB 2 s.pos.toNat ++ r))))).getD 2 0 = UInt8.ofNat k.toNat := rfl
    rw [this]
    have h3 : (UInt8.ofNat k.toNat).toNat = k.toNat := by simp; omega
    rw [h3]; omega
  · unfold sOf
    rw [d3, d7, d11, List.take_left' (numB_length _ _), List.take_left' (numB_length _ _), List.take_left' (numB_length _ _), getB_numB 4 _ (by omega), getB_numB 4 _ (by omega), getB_numB 2 _ (by omega)]
    obtain ⟨a, b, c⟩ := s
    simp only at hb' ⊢
    congr 1 <;> omega
  · unfold tOf
    rw [hn]; exact hat.2.1
end Go.Proofs.Ytjhhknkhgilecaa.Fm
