/- What a sector has, plainly. -/
import Derived.Test.YtjhhknkhgilecaaF2
namespace Go.Proofs.Ytjhhknkhgilecaa.Fm
open Go.RowKit Lt
set_option linter.unusedVariables false
set_option linter.unusedSimpArgs false
def nOf (b : List UInt8) : Nat := (b.getD 13 0).toNat
def kOf (b : List UInt8) : Nat := (b.getD 2 0).toNat
def sOf (b : List UInt8) : StS := ⟨(getB ((b.drop 3).take 4) : Nat), (getB ((b.drop 7).take 4) : Nat), (getB ((b.drop 11).take 2) : Nat)⟩
def tOf (b : List UInt8) : List UInt8 := (b.drop 14).take (nOf b)
/-- Is it a sector? -/
def okR (b : List UInt8) : Prop := snd b = true ∧ b.getD 0 0 = 67 ∧ b.getD 1 0 = 82 ∧ nOf b ≤ 238 ∧ ∀ j, j < 252 → 14 + nOf b ≤ j → b.getD j 0 = 0
instance (b : List UInt8) : Decidable (okR b) := by unfold okR; infer_instance
theorem gotn {b : List UInt8} {n : Nat} (h : n ≤ b.length) : (inOk b).next n = inOk (b.drop n) ∧ (inOk b).got n = b.take n := by
  rw [inOk_next, inOk_got, if_neg (by omega), if_neg (by omega)]; exact ⟨rfl, rfl⟩
theorem get_at {b : List UInt8} {i : Nat} (h : i < b.length) : getB ((b.drop i).take 1) = (b.getD i 0).toNat := by
  have e : (b.drop i).take 1 = [b[i]] := by rw [List.drop_eq_getElem_cons h]; rfl
  rw [e]
  simp [getB, List.getD, List.getElem?_eq_getElem h]
theorem snd_l {b : List UInt8} (h : snd b = true) : b.length = 256 ∧ getB (b.drop 252) = Crc.crc (b.take 252) := by unfold snd at h; exact of_decide_eq_true h
theorem numB_getB : ∀ (l : List UInt8), numB l.length (getB l) = l := by
  intro l
  have key : ∀ (n : Nat) (l : List UInt8), l.length = n → numB n (getB l) = l := by
    intro n
    induction n with
    | zero => intro l h; rw [List.eq_nil_of_length_eq_zero h]; rfl
    | succ n ih =>
      intro l h
      obtain ⟨l', c, rfl⟩ : ∃ l' c, l = l' ++ [c] := by
        rcases List.eq_nil_or_concat l with h2 | ⟨l', c, h2⟩
        · rw [h2] at h; simp at h
        · exact ⟨l', c, by rw [h2, List.concat_eq_append]⟩
      have hl : l'.length = n := by simpa using h
      have h1 := getB_lt l'
      rw [hl] at h1
      rw [numB_succ, getB_snoc, hl]
      have e1 : (getB l' + 256 ^ n * c.toNat) / 256 ^ n % 256 = c.toNat := by
        rw [Nat.add_mul_div_left _ _ (Nat.pow_pos (by decide)), Nat.div_eq_of_lt h1, Nat.zero_add, Nat.mod_eq_of_lt c.toNat_lt]
      have e2 : numB n (getB l' + 256 ^ n * c.toNat) = numB n (getB l') := by
        unfold numB
        apply List.map_congr_left
        intro i hi
        have hi := List.mem_range.1 hi
        congr 1
        have : 256 ^ n = 256 ^ i * (256 * 256 ^ (n - i - 1)) := by rw [← Nat.mul_assoc, ← Nat.pow_succ, ← Nat.pow_add]; congr 1; omega
        rw [this, Nat.mul_assoc, Nat.add_mul_div_left _ _ (Nat.pow_pos (by decide)), Nat.mul_assoc, Nat.add_mul_mod_self_left]
      rw [e1, e2, ih l' hl]
      simp
  exact key _ _ rfl
theorem numB_get {l : List UInt8} {n : Nat} (h : l.length = n) : numB n (getB l) = l := by rw [← h]; exact numB_getB l
theorem sOf_bnd (b : List UInt8) : getB ((b.drop 3).take 4) < 4294967296 ∧ getB ((b.drop 7).take 4) < 4294967296 ∧ getB ((b.drop 11).take 2) < 65536 := by
  have h : ∀ (l : List UInt8) (n : Nat), l.length ≤ n → getB l < 256 ^ n := fun l n h => Nat.lt_of_lt_of_le (getB_lt l) (Nat.pow_le_pow_right (by decide) h)
  exact ⟨h _ 4 (List.length_take_le _ _), h _ 4 (List.length_take_le _ _), h _ 2 (List.length_take_le _ _)⟩
theorem not_bad (b : List UInt8) : ¬ bad (kOf b : Nat) (sOf b) := by
  have h1 := (b.getD 2 0).toNat_lt
  have h2 := sOf_bnd b
  unfold bad kOf sOf
  simp only
  omega
/-- The head again, of the octets. -/
theorem hdr_of {b : List UInt8} (hl : b.length = 256) (h0 : b.getD 0 0 = 67) (h1 : b.getD 1 0 = 82) : hdr (kOf b : Nat) (sOf b) = b.take 13 := by
  have e2 : b.take 2 = [67, 82] := by
    match b, hl with
    | x :: y :: l, _ =>
      simp [List.getD] at h0 h1
      simp [h0, h1]
  have p1 : numB 4 (getB ((b.drop 3).take 4)) = (b.drop 3).take 4 := numB_get (by simp; omega)
  have p2 : numB 4 (getB ((b.drop 7).take 4)) = (b.drop 7).take 4 := numB_get (by simp; omega)
  have p3 : numB 2 (getB ((b.drop 11).take 2)) = (b.drop 11).take 2 := numB_get (by simp; omega)
  have p4 : [UInt8.ofNat (kOf b)] = (b.drop 2).take 1 := by
    have h : 2 < b.length := by omega
    have e : (b.drop 2).take 1 = [b[2]] := by rw [List.drop_eq_getElem_cons h]; rfl
    rw [e]; unfold kOf; simp [List.getD, List.getElem?_eq_getElem h]
  unfold hdr sOf
  simp only [Int.toNat_natCast]
  rw [p1, p2, p3, p4, show numB 2 21059 = [67, 82] from by decide, ← e2]
  have t1 : b.take 2 ++ (b.drop 2).take 1 = b.take 3 := by rw [← List.take_add]
  have t2 : b.take 3 ++ (b.drop 3).take 4 = b.take 7 := by rw [← List.take_add]
  have t3 : b.take 7 ++ (b.drop 7).take 4 = b.take 11 := by rw [← List.take_add]
  have t4 : b.take 11 ++ (b.drop 11).take 2 = b.take 13 := by rw [← List.take_add]
  rw [t1, t2, t3, t4]
theorem tOf_len {b : List UInt8} (hl : b.length = 256) (hn : nOf b ≤ 238) : (tOf b).length = nOf b := by unfold tOf; simp; omega
/-- A sector is what would be sealed of what it has. -/
theorem sec_of {b : List UInt8} (h : okR b) : secB (kOf b : Nat) (sOf b) (tOf b) = b := by
  obtain ⟨h1, h2, h3, h4, h5⟩ := h
  obtain ⟨hl, hc⟩ := snd_l h1
  have tl := tOf_len hl h4
  have hb : body (kOf b : Nat) (sOf b) (tOf b) = b.take 252 := by
    unfold body
    rw [hdr_of hl h2 h3, tl]
    have p1 : [UInt8.ofNat (nOf b)] = (b.drop 13).take 1 := by
      have h : 13 < b.length := by omega
      have e : (b.drop 13).take 1 = [b[13]] := by rw [List.drop_eq_getElem_cons h]; rfl
      rw [e]; unfold nOf; simp [List.getD, List.getElem?_eq_getElem h]
    have p2 : List.replicate (238 - nOf b) 0 = (b.drop (14 + nOf b)).take (238 - nOf b) := by
      apply List.ext_getElem?
      intro i
      by_cases hi : i < 238 - nOf b
      · have hj : 14 + nOf b + i < b.length := by omega
        rw [List.getElem?_replicate, if_pos hi, List.getElem?_take, if_pos hi, List.getElem?_drop, List.getElem?_eq_getElem hj]
        have := h5 (14 + nOf b + i) (by omega) (by omega)
        rw [List.getD, List.getElem?_eq_getElem hj] at this
        exact congrArg some this.symm
      · rw [List.getElem?_eq_none (by simp; omega), List.getElem?_eq_none (by simp; omega)]
    rw [p1, p2]
    unfold tOf
    have t1 : b.take 13 ++ (b.drop 13).take 1 = b.take 14 := by rw [← List.take_add]
    have t2 : b.take 14 ++ (b.drop 14).take (nOf b) = b.take (14 + nOf b) := by rw [← List.take_add]
    have t3 : b.take (14 + nOf b) ++ (b.drop (14 + nOf b)).take (238 - nOf b) = b.take 252 := by rw [← List.take_add]; congr 1; omega
    rw [t1, t2, t3]
  unfold secB
  rw [hb, ← hc, numB_get (by simp; omega)]
  exact List.take_append_drop 252 b
theorem first_iff {b : List UInt8} (hl : b.length = 256) : getB (b.take 2) = 21059 ↔ b.getD 0 0 = 67 ∧ b.getD 1 0 = 82 := by
  match b, hl with
  | x :: y :: l, _ =>
    simp only [List.take_succ_cons, List.take_zero, List.getD_cons_zero, List.getD_cons_succ]
    have e : getB [x, y] = x.toNat + 256 * y.toNat := by simp [getB]
    rw [e]
    have hx := x.toNat_lt
    have hy := y.toNat_lt
    constructor
    · intro h
      refine ⟨UInt8.toNat_inj.1 ?_, UInt8.toNat_inj.1 ?_⟩
      · show x.toNat = 67; omega
      · show y.toNat = 82; omega
    · rintro ⟨rfl, rfl⟩; rfl
/-- What is sealed has its length, its text, and nothing behind it. -/
theorem body_at {k : Int} {s : StS} {T : List UInt8} (hT : T.length ≤ 238) : (secB k s T).getD 13 0 = UInt8.ofNat T.length ∧ ((secB k s T).drop 14).take T.length = T ∧ ∀ j, j < 252 → 14 + T.length ≤ j → (secB k s T).getD j 0 = 0 := by
  have hh := hdr_len k s
  have e : secB k s T = hdr k s ++ ([UInt8.ofNat T.length] ++ (T ++ (List.replicate (238 - T.length) 0 ++ numB 4 (Crc.crc (body k s T))))) := by
    show body k s T ++ numB 4 (Crc.crc (body k s T)) = _
    generalize numB 4 (Crc.crc (body k s T)) = cs
    unfold body
    simp only [List.append_assoc]
  have e2 : secB k s T = (hdr k s ++ [UInt8.ofNat T.length]) ++ (T ++ (List.replicate (238 - T.length) 0 ++ numB 4 (Crc.crc (body k s T)))) := by rw [e]; simp only [List.append_assoc]
  have e3 : secB k s T = (hdr k s ++ [UInt8.ofNat T.length] ++ T) ++ (List.replicate (238 - T.length) 0 ++ numB 4 (Crc.crc (body k s T))) := by rw [e]; simp only [List.append_assoc]
  refine ⟨?_, ?_, fun j h1 h2 => ?_⟩
  · rw [e, List.getD_eq_getElem?_getD, List.getElem?_append_right (by omega), hh]; rfl
  · rw [e2, List.drop_left' (by simp [hh]), List.take_left' rfl]
  · rw [e3, List.getD_eq_getElem?_getD, List.getElem?_append_right (by simp [hh]; omega), List.getElem?_append_left (by simp [hh]; omega), List.getElem?_replicate]
    split <;> rfl
/-- The program's test is the page's. -/
theorem open_iff {b T : List UInt8} (hs : snd b = true) (hT : T = (inOk (b.drop 14)).got (nOf b)) :
    (getB (b.take 2) = 21059 ∧ secE (kOf b : Nat) (sOf b) T.length = 0 ∧ secB (kOf b : Nat) (sOf b) T = b) ↔ okR b := by
  obtain ⟨hl, hc⟩ := snd_l hs
  have hn := (b.getD 13 0).toNat_lt
  constructor
  · rintro ⟨h1, h2, h3⟩
    have hTl : T.length ≤ 238 := by
      unfold secE at h2
      rw [if_neg (not_bad b)] at h2
      by_cases h : 238 < T.length
      · rw [if_pos h] at h2; cases h2
      · omega
    obtain ⟨g1, g2⟩ := (first_iff hl).1 h1
    have hat := body_at (k := (kOf b : Nat)) (s := sOf b) hTl
    rw [h3] at hat
    have hnT : nOf b = T.length := by
      unfold nOf
      rw [hat.1]
      simp; omega
    exact ⟨hs, g1, g2, by omega, fun j h4 h5 => hat.2.2 j h4 (by omega)⟩
  · intro h
    have h' := h
    obtain ⟨_, g1, g2, g3, g4⟩ := h'
    have hTt : T = tOf b := by rw [hT, (gotn (by simp; omega)).2]; rfl
    rw [hTt]
    refine ⟨(first_iff hl).2 ⟨g1, g2⟩, ?_, sec_of h⟩
    unfold secE
    rw [if_neg (not_bad b), tOf_len hl g3, if_neg (by omega)]
theorem text_of {b T : List UInt8} (h : okR b) (hT : T = (inOk (b.drop 14)).got (nOf b)) : T = tOf b := by
  obtain ⟨hl, _⟩ := snd_l h.1
  have := h.2.2.2.1
  rw [hT, (gotn (by simp; omega)).2]; rfl
end Go.Proofs.Ytjhhknkhgilecaa.Fm
