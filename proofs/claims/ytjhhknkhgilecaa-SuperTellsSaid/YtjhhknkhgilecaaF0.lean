/- Sectors as data: what frame.Seal writes, plainly. -/
import Derived.Test.YtjhhknkhgilecaaLio2
import Derived.Test.YtjhhknkhgilecaaCrc4
namespace Go.Proofs.Ytjhhknkhgilecaa.Fm
open Go.RowKit Lt
set_option linter.unusedVariables false
set_option linter.unusedSimpArgs false
structure StS where
  ep : Int
  sq : Int
  pos : Int
deriving DecidableEq, Inhabited
namespace StS
def cells (s : StS) : List Value := [.int .i64 s.ep, .int .i64 s.sq, .int .i64 s.pos]
def fine (s : StS) : Prop := (-9223372036854775808 ≤ s.ep ∧ s.ep ≤ 9223372036854775807) ∧ (-9223372036854775808 ≤ s.sq ∧ s.sq ≤ 9223372036854775807) ∧ (-9223372036854775808 ≤ s.pos ∧ s.pos ≤ 9223372036854775807)
def zero : StS := ⟨0, 0, 0⟩
theorem cells_len (s : StS) : s.cells.length = 3 := rfl
end StS
/-- The stamp's value. -/
abbrev sv (s : StS) : Value := .agg #[.int .i64 s.ep, .int .i64 s.sq, .int .i64 s.pos]
def bad (k : Int) (s : StS) : Prop := (k < 0 ∨ 255 < k) ∨ (s.ep < 0 ∨ 4294967295 < s.ep) ∨ (s.sq < 0 ∨ 4294967295 < s.sq) ∨ (s.pos < 0 ∨ 65535 < s.pos)
instance (k : Int) (s : StS) : Decidable (bad k s) := by unfold bad; infer_instance
/-- The error's number. -/
def secE (k : Int) (s : StS) (n : Nat) : Int := if bad k s then 4 else if 238 < n then 5 else 0
def hdr (k : Int) (s : StS) : List UInt8 := numB 2 21059 ++ [UInt8.ofNat k.toNat] ++ numB 4 s.ep.toNat ++ numB 4 s.sq.toNat ++ numB 2 s.pos.toNat
def body (k : Int) (s : StS) (t : List UInt8) : List UInt8 := hdr k s ++ [UInt8.ofNat t.length] ++ t ++ List.replicate (238 - t.length) 0
def secB (k : Int) (s : StS) (t : List UInt8) : List UInt8 := body k s t ++ numB 4 (Crc.crc (body k s t))
theorem hdr_len (k : Int) (s : StS) : (hdr k s).length = 13 := by unfold hdr; simp [numB_length]
theorem body_len (k : Int) (s : StS) (t : List UInt8) (h : t.length ≤ 238) : (body k s t).length = 252 := by unfold body; simp [hdr_len]; omega
theorem secB_len (k : Int) (s : StS) (t : List UInt8) (h : t.length ≤ 238) : (secB k s t).length = 256 := by unfold secB; simp [body_len k s t h, numB_length]
theorem crc_lt (l : List UInt8) : Crc.crc l < 4294967296 := by unfold Crc.crc; omega
theorem num_idle' {s : OutS} (h : s.err ≠ 0) (n z : Int) : s.num n z = s := by unfold OutS.num; rw [if_pos (.inr h)]
theorem put_idle' {s : OutS} (h : s.err ≠ 0) (l : List UInt8) : s.put l = s := by unfold OutS.put; rw [if_pos (.inr h)]
theorem pad_idle' {s : OutS} (h : s.err ≠ 0) (z : Int) : s.pad z = s := by
  unfold OutS.pad
  split
  · rfl
  · exact put_idle' h _
theorem num_out {R : Int} {b : List UInt8} {n z : Int} (h : n < 0 ∨ (256 : Int) ^ sz z ≤ n) : (outOk R b).num n z = ⟨R, true, 4, b⟩ := by
  unfold OutS.num; rw [if_neg (by simp [outOk]), if_pos h]; rfl
theorem num4 (R : Int) (m : Bool) (b : List UInt8) (n z : Int) : (OutS.mk R m 4 b).num n z = ⟨R, m, 4, b⟩ := num_idle' (by show (4 : Int) ≠ 0; decide) n z
theorem pad_fit {R : Int} {b : List UInt8} {n : Nat} (h : b.length ≤ n) (hR : (n : Int) ≤ R) (hn : n ≤ 65536) : (outOk R b).pad n = outOk R (b ++ List.replicate (n - b.length) 0) := by
  unfold OutS.pad
  by_cases e : n ≤ b.length
  · rw [if_pos (.inr (by show (n : Int) ≤ (b.length : Int); omega)), show n - b.length = 0 by omega]; simp
  · rw [if_neg (by rintro (h | h); · cases h
                   · have : (n : Int) ≤ (b.length : Int) := h; omega)]
    have e2 : min ((n : Int) - ((outOk R b).b.length : Int)).toNat 65537 = n - b.length := by show min ((n : Int) - (b.length : Int)).toNat 65537 = _; omega
    rw [e2, outOk_put (by simp; omega)]
def sealS (k : Int) (s : StS) : OutS := (((((outNew 256).num 21059 2).num k 1).num s.ep 4).num s.sq 4).num s.pos 2
theorem sz1 : sz 1 = 1 := by decide
theorem sz2 : sz 2 = 2 := by decide
theorem sz4 : sz 4 = 4 := by decide
theorem sealS_eq (k : Int) (s : StS) : (bad k s → (sealS k s).err = 4 ∧ (sealS k s).made = true) ∧ (¬ bad k s → sealS k s = outOk 256 (hdr k s)) := by
  unfold sealS
  rw [outNew_ok 256 (by decide) (by decide), show ((21059 : Int)) = ((21059 : Nat) : Int) from rfl, outOk_num 21059 2 (by rw [sz2]; decide) (by rw [sz2]; decide), sz2, List.nil_append]
  have p1 : (256 : Int) ^ sz 1 = 256 := by rw [sz1]; rfl
  have p2 : (256 : Int) ^ sz 2 = 65536 := by rw [sz2]; rfl
  have p4 : (256 : Int) ^ sz 4 = 4294967296 := by rw [sz4]; rfl
  by_cases hk : k < 0 ∨ 255 < k
  · rw [num_out (by rw [p1]; omega)]
    refine ⟨fun _ => ?_, fun h => absurd (.inl hk) h⟩
    simp only [num4]
    exact ⟨trivial, trivial⟩
  obtain ⟨K, rfl⟩ := Int.eq_ofNat_of_zero_le (by omega : 0 ≤ k)
  rw [outOk_byte K (by omega) (by rw [numB_length]; decide)]
  by_cases he : s.ep < 0 ∨ 4294967295 < s.ep
  · rw [num_out (by rw [p4]; omega)]
    refine ⟨fun _ => ?_, fun h => absurd (.inr (.inl he)) h⟩
    simp only [num4]
    exact ⟨trivial, trivial⟩
  obtain ⟨E, hE⟩ := Int.eq_ofNat_of_zero_le (by omega : 0 ≤ s.ep)
  rw [hE, outOk_num E 4 (by rw [sz4]; omega) (by rw [sz4]; simp only [List.length_append, numB_length, List.length_cons, List.length_nil]; decide), sz4]
  by_cases hq : s.sq < 0 ∨ 4294967295 < s.sq
  · rw [num_out (by rw [p4]; omega)]
    refine ⟨fun _ => ?_, fun h => absurd (.inr (.inr (.inl hq))) h⟩
    simp only [num4]
    exact ⟨trivial, trivial⟩
  obtain ⟨Q, hQ⟩ := Int.eq_ofNat_of_zero_le (by omega : 0 ≤ s.sq)
  rw [hQ, outOk_num Q 4 (by rw [sz4]; omega) (by rw [sz4]; simp only [List.length_append, numB_length, List.length_cons, List.length_nil]; decide), sz4]
  by_cases hp : s.pos < 0 ∨ 65535 < s.pos
  · rw [num_out (by rw [p2]; omega)]
    exact ⟨fun _ => ⟨rfl, rfl⟩, fun h => absurd (.inr (.inr (.inr hp))) h⟩
  obtain ⟨P, hP⟩ := Int.eq_ofNat_of_zero_le (by omega : 0 ≤ s.pos)
  rw [hP, outOk_num P 2 (by rw [sz2]; omega) (by rw [sz2]; simp only [List.length_append, numB_length, List.length_cons, List.length_nil]; decide), sz2]
  refine ⟨fun h => ?_, fun _ => ?_⟩
  · rcases h with h | h | h | h
    · exact absurd h hk
    · exact absurd h he
    · exact absurd h hq
    · exact absurd h hp
  · unfold hdr; rw [hE, hQ, hP]; simp only [Int.toNat_natCast]
/-- Behind the head: the text, and the rest. -/
theorem sealF_ok {k : Int} {s : StS} (t : List UInt8) (h : ¬ bad k s) (ht : t.length ≤ 238) : (((sealS k s).num (t.length : Nat) 1).put t).pad 252 = outOk 256 (body k s t) := by
  rw [(sealS_eq k s).2 h, outOk_byte t.length (by omega) (by rw [hdr_len]; decide), outOk_put (by simp [hdr_len]; omega), show (252 : Int) = ((252 : Nat) : Int) from rfl, pad_fit (by simp [hdr_len]; omega) (by decide) (by decide)]
  unfold body
  congr 2
  simp [hdr_len]; omega
theorem sealF_bad {k : Int} {s : StS} (t : List UInt8) (h : bad k s) : (((sealS k s).num (t.length : Nat) 1).put t).pad 252 = sealS k s := by
  have e := ((sealS_eq k s).1 h).1
  have e : (sealS k s).err ≠ 0 := by rw [e]; decide
  rw [num_idle' e, put_idle' e, pad_idle' e]
theorem sealE_ok {k : Int} {s : StS} (t : List UInt8) (ht : t.length ≤ 238) : (outOk 256 (body k s t)).num (Crc.crc (body k s t) : Nat) 4 = outOk 256 (secB k s t) := by
  rw [outOk_num _ 4 (by rw [sz4]; have := crc_lt (body k s t); omega) (by rw [sz4, body_len k s t ht]; decide), sz4]
  rfl
end Go.Proofs.Ytjhhknkhgilecaa.Fm
