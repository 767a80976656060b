/- Nodes read from octets, plainly: package node's way and the reference's. -/
import Derived.Test.YthpnlgdcijmocaaNd0
import Derived.Test.YthpnlgdcijmocaaPt6
namespace Go.Proofs.Ythpnlgdcijmocaa.Nd
open Go.RowKit Lt Pt
set_option linter.unusedVariables false
set_option linter.unusedSimpArgs false
/-- k fields of n octets further. -/
def iterI (n : Nat) : Nat → InS → InS
  | 0, s => s
  | k + 1, s => (iterI n k s).next n
theorem iterI_ok (n : Nat) (t : List UInt8) : ∀ k, iterI n k (inOk t) = if n * k ≤ t.length then inOk (t.drop (n * k)) else inBad
  | 0 => by simp [iterI]
  | k + 1 => by
    show (iterI n k (inOk t)).next n = _
    rw [iterI_ok n t k]
    by_cases h : n * k ≤ t.length
    · rw [if_pos h, inOk_next, List.length_drop]
      by_cases h2 : t.length - n * k < n
      · rw [if_pos h2, if_neg (by rw [Nat.mul_succ]; omega)]
      · rw [if_neg h2, if_pos (by rw [Nat.mul_succ]; omega), List.drop_drop, Nat.mul_succ]
    · rw [if_neg h, inBad_next, if_neg (by rw [Nat.mul_succ]; omega)]
/-- The points that are read one behind the other. -/
def rdTo : Nat → InS → List PtS × InS
  | 0, s => ([], s)
  | k + 1, s => ((rdTo k s).1 ++ [(rdP (rdTo k s).2).out], (rdP (rdTo k s).2).s)
def gTo : Nat → List UInt8 → Option (List PtS × List UInt8)
  | 0, r => some ([], r)
  | k + 1, r => match gTo k r with
    | none => none
    | some (l, q) => if (gpt q).2 = 0 then none else some (l ++ [(gpt q).1], q.drop (gpt q).2)
theorem rdTo_len (k : Nat) (s : InS) : (rdTo k s).1.length = k := by
  induction k with
  | zero => rfl
  | succ k ih => show ((rdTo k s).1 ++ [_]).length = _; rw [List.length_append, ih]; rfl
theorem gpt_zero {b : List UInt8} (h : (gpt b).2 = 0) : (gpt b).1 = PtS.zero := by
  unfold gpt at h ⊢
  split
  · rfl
  · rename_i h1
    rw [if_neg h1] at h
    split
    · rfl
    · rename_i h2
      rw [if_neg h2] at h
      split
      · rename_i h3
        rw [if_pos h3] at h
        simp only at h
        omega
      · rfl
theorem zero_chk : PtS.zero.chk ≠ 0 := by decide
theorem gTo_rd (r : List UInt8) : ∀ k, (∀ l q, gTo k r = some (l, q) → rdTo k (inOk r) = (l, inOk q)) ∧ (gTo k r = none → ∃ p ∈ (rdTo k (inOk r)).1, p.chk ≠ 0)
  | 0 => ⟨fun l q h => by simp only [gTo, Option.some.injEq, Prod.mk.injEq] at h; obtain ⟨rfl, rfl⟩ := h; rfl, fun h => by cases h⟩
  | k + 1 => by
    obtain ⟨h1, h2⟩ := gTo_rd r k
    cases hg : gTo k r with
    | none =>
      obtain ⟨p, hp, hc⟩ := h2 hg
      refine ⟨(fun l q h => by simp only [gTo, hg] at h; cases h), fun _ => ⟨p, ?_, hc⟩⟩
      show p ∈ (rdTo k (inOk r)).1 ++ [_]
      exact List.mem_append.2 (.inl hp)
    | some y =>
      obtain ⟨l, q⟩ := y
      have e := h1 l q hg
      obtain ⟨g1, g2, g3⟩ := rdP_gpt q
      by_cases h0 : (gpt q).2 = 0
      · refine ⟨(fun l' q' h => by simp only [gTo, hg, h0, if_true] at h; cases h), fun _ => ⟨PtS.zero, ?_, zero_chk⟩⟩
        show PtS.zero ∈ (rdTo k (inOk r)).1 ++ [(rdP (rdTo k (inOk r)).2).out]
        rw [e]
        simp only [g1, gpt_zero h0, List.mem_append, List.mem_singleton, or_true]
      · refine ⟨fun l' q' h => ?_, fun h => by simp only [gTo, hg, h0, if_false] at h; cases h⟩
        simp only [gTo, hg, h0, if_false, Option.some.injEq, Prod.mk.injEq] at h
        obtain ⟨rfl, rfl⟩ := h
        show ((rdTo k (inOk r)).1 ++ [(rdP (rdTo k (inOk r)).2).out], (rdP (rdTo k (inOk r)).2).s) = _
        rw [e]
        simp only [g1, (g3 (by omega)).1]
/-- A node without the place of its points. -/
structure NdD where
  lf : Bool
  pts : List PtS
  next : Int
  ks : Nat → Int
  cs : Nat → Int
def NdD.nd (d : NdD) (v : Value) : NdS := ⟨d.lf, v, d.pts, d.next, d.ks, d.cs⟩
def NdD.zero : NdD := ⟨false, [], 0, fun _ => 0, fun _ => 0⟩
def NdD.May (d : NdD) : Prop := Nd.May (d.nd (.slice none 0 0))
theorem may_nd (d : NdD) (v : Value) : Nd.May (d.nd v) ↔ d.May := Iff.rfl
def numAt (n : Nat) (s : InS) (i : Nat) : Int := (getB ((iterI n i s).got n) : Nat)
/-- Behind its first octet. -/
def bodyD (kind : Nat) (s : InS) : NdD × InS :=
  if kind = 1 then
    (⟨true, (rdTo (getB ((s.next 1).got 1)) ((s.next 1).next 1)).1, (getB (s.got 1) : Nat), fun _ => 0, fun _ => 0⟩, (rdTo (getB ((s.next 1).got 1)) ((s.next 1).next 1)).2)
  else (⟨false, [], 0, fun i => if i < 4 then numAt 1 s i else 0, fun i => if i < 4 then numAt 2 (iterI 1 4 s) i else 0⟩, iterI 2 4 (iterI 1 4 s))
def ReadsTo (b : List UInt8) (d : NdD) : Prop :=
  getB ((inOk b).got 1) ≤ 1 ∧ d = (bodyD (getB ((inOk b).got 1)) ((inOk b).next 1)).1 ∧ (bodyD (getB ((inOk b).got 1)) ((inOk b).next 1)).2.tells = 0 ∧ (bodyD (getB ((inOk b).got 1)) ((inOk b).next 1)).2.b = [] ∧ d.May
/-- The reference. -/
def refInner (b : List UInt8) : NdD := ⟨false, [], 0, fun i => if i < 4 then ((b.getD (1 + i) 0).toNat : Nat) else 0, fun i => if i < 4 then (getB ((b.drop (5 + 2 * i)).take 2) : Nat) else 0⟩
def refLeaf (b : List UInt8) (l : List PtS) : NdD := ⟨true, l, ((b.getD 1 0).toNat : Nat), fun _ => 0, fun _ => 0⟩
def RefTo (b : List UInt8) (d : NdD) : Prop :=
  (b.length = 13 ∧ b.getD 0 0 = 0 ∧ d = refInner b ∧ d.May) ∨
  (3 ≤ b.length ∧ b.getD 0 0 = 1 ∧ ∃ l, gTo (b.getD 2 0).toNat (b.drop 3) = some (l, []) ∧ d = refLeaf b l ∧ d.May)
theorem getB_one (a : UInt8) : getB [a] = a.toNat := by simp [getB]
theorem getB_nil : getB [] = 0 := rfl
theorem got_one (a : UInt8) (t : List UInt8) : (inOk (a :: t)).got 1 = [a] := by rw [inOk_got, if_neg (by simp)]; rfl
theorem next_one (a : UInt8) (t : List UInt8) : (inOk (a :: t)).next 1 = inOk t := by rw [inOk_next, if_neg (by simp)]; rfl
theorem got_nil : (inOk []).got 1 = [] := by rw [inOk_got]; rfl
theorem next_nil : (inOk []).next 1 = inBad := by rw [inOk_next]; rfl
theorem iterI_bad (n k : Nat) : iterI n k inBad = inBad := by
  induction k with
  | zero => rfl
  | succ k ih => show (iterI n k inBad).next n = _; rw [ih, inBad_next]
theorem take1_get (t : List UInt8) (i : Nat) (h : i < t.length) : (t.drop i).take 1 = [t.getD i 0] := by
  rw [List.drop_eq_getElem_cons h]
  show [t[i]] = [t.getD i 0]
  simp [List.getD, h]
theorem inner_ok (t : List UInt8) (h : t.length = 12) : bodyD 0 (inOk t) = (refInner (0 :: t), inOk []) := by
  unfold bodyD refInner
  rw [if_neg (by decide)]
  have h4 : iterI 1 4 (inOk t) = inOk (t.drop 4) := by rw [iterI_ok, if_pos (by omega)]
  have h8 : iterI 2 4 (inOk (t.drop 4)) = inOk [] := by
    rw [iterI_ok, if_pos (by rw [List.length_drop]; omega), List.drop_drop, List.drop_of_length_le (by omega)]
  rw [h4, h8]
  congr 1
  congr 1
  · funext i
    by_cases hi : i < 4
    · rw [if_pos hi, if_pos hi]
      unfold numAt
      rw [iterI_ok, if_pos (by omega), inOk_got, if_neg (by rw [List.length_drop]; omega), Nat.one_mul, take1_get t i (by omega), getB_one]
      rw [show (1 + i) = i + 1 from Nat.add_comm 1 i, List.getD_cons_succ]
    · rw [if_neg hi, if_neg hi]
  · funext i
    by_cases hi : i < 4
    · rw [if_pos hi, if_pos hi]
      unfold numAt
      rw [iterI_ok, if_pos (by rw [List.length_drop]; omega), inOk_got, if_neg (by rw [List.length_drop, List.length_drop]; omega), List.drop_drop]
      rw [show 5 + 2 * i = (4 + 2 * i) + 1 by omega, List.drop_succ_cons]
    · rw [if_neg hi, if_neg hi]
theorem inner_bad (k : Nat) (hk : k ≠ 1) (t : List UInt8) (h : t.length ≠ 12) : ¬ ((bodyD k (inOk t)).2.tells = 0 ∧ (bodyD k (inOk t)).2.b = []) := by
  unfold bodyD
  rw [if_neg hk]
  show ¬ ((iterI 2 4 (iterI 1 4 (inOk t))).tells = 0 ∧ (iterI 2 4 (iterI 1 4 (inOk t))).b = [])
  rw [iterI_ok]
  split
  · rw [iterI_ok]
    split
    · rename_i h1 h2
      rintro ⟨_, h3⟩
      have h4 : ((t.drop (1 * 4)).drop (2 * 4)) = [] := h3
      rw [List.drop_drop, List.drop_eq_nil_iff] at h4
      rw [List.length_drop] at h2
      omega
    · rintro ⟨h3, _⟩; rw [inBad_tells] at h3; cases h3
  · rw [iterI_bad]
    rintro ⟨h3, _⟩; rw [inBad_tells] at h3; cases h3
/-- Both ways tell the same. -/
theorem reads_ref (b : List UInt8) (d : NdD) : ReadsTo b d ↔ RefTo b d := by
  unfold ReadsTo RefTo
  match b with
  | [] =>
    rw [got_nil, next_nil, getB_nil]
    constructor
    · rintro ⟨_, _, h, _⟩
      unfold bodyD at h
      rw [if_neg (by decide)] at h
      simp only [iterI_bad, inBad_tells] at h
      cases h
    · rintro (⟨h, _⟩ | ⟨h, _⟩)
      · cases h
      · exact absurd h (by decide)
  | a :: t =>
    rw [got_one, next_one, getB_one]
    by_cases h0 : a = 0
    · subst h0
      by_cases ht : t.length = 12
      · rw [show (0 : UInt8).toNat = 0 from rfl, inner_ok t ht]
        constructor
        · rintro ⟨_, h1, _, _, h2⟩
          exact .inl ⟨by simp [ht], rfl, h1, h2⟩
        · rintro (⟨_, _, h1, h2⟩ | ⟨_, h1, _⟩)
          · exact ⟨by decide, h1, rfl, rfl, h2⟩
          · cases h1
      · constructor
        · rintro ⟨_, _, h1, h2, _⟩
          exact absurd ⟨h1, h2⟩ (inner_bad _ (by decide) t ht)
        · rintro (⟨h1, _⟩ | ⟨_, h1, _⟩)
          · exact absurd (by simpa using h1) ht
          · cases h1
    · by_cases h1 : a = 1
      · subst h1
        match t with
        | [] =>
          constructor
          · rintro ⟨_, _, h, _⟩
            unfold bodyD at h
            rw [if_pos (by decide), next_nil, inBad_next, inBad_got, getB_nil] at h
            simp only [rdTo, inBad_tells] at h
            cases h
          · rintro (⟨h, _⟩ | ⟨h, _⟩)
            · simp at h
            · simp at h
        | [c] =>
          constructor
          · rintro ⟨_, _, h, _⟩
            unfold bodyD at h
            rw [if_pos (by decide), next_one, next_nil, got_nil, getB_nil] at h
            simp only [rdTo, inBad_tells] at h
            cases h
          · rintro (⟨h, _⟩ | ⟨h, _⟩)
            · simp at h
            · simp at h
        | c :: m :: r =>
          have hb : bodyD 1 (inOk (c :: m :: r)) = (⟨true, (rdTo m.toNat (inOk r)).1, (c.toNat : Nat), fun _ => 0, fun _ => 0⟩, (rdTo m.toNat (inOk r)).2) := by
            unfold bodyD
            rw [if_pos (by decide), next_one, next_one, got_one, got_one, getB_one, getB_one]
          rw [show (1 : UInt8).toNat = 1 from rfl, hb]
          obtain ⟨g1, g2⟩ := gTo_rd r m.toNat
          constructor
          · rintro ⟨_, h2, h3, h4, h5⟩
            refine .inr ⟨by simp, rfl, ?_⟩
            show ∃ l, gTo m.toNat r = some (l, []) ∧ _
            cases hg : gTo m.toNat r with
            | none =>
              obtain ⟨p, hp, hc⟩ := g2 hg
              rw [h2] at h5
              have h6 : PtsMay (rdTo m.toNat (inOk r)).1 := by
                have : Nd.May (NdD.nd ⟨true, (rdTo m.toNat (inOk r)).1, (c.toNat : Nat), fun _ => 0, fun _ => 0⟩ (.slice none 0 0)) := h5
                unfold Nd.May NdD.nd at this
                simp only [if_true] at this
                exact this.1
              obtain ⟨i, hi, rfl⟩ := List.mem_iff_getElem.1 hp
              exact absurd (h6.1 i hi hi).1 hc
            | some y =>
              obtain ⟨l, q⟩ := y
              have e := g1 l q hg
              rw [e] at h4
              have h7 : q = [] := h4
              subst h7
              refine ⟨l, rfl, ?_, h5⟩
              rw [h2, e]
              rfl
          · rintro (⟨_, h2, _⟩ | ⟨_, _, l, h2, h3, h4⟩)
            · cases h2
            · have e := g1 l [] h2
              rw [e]
              exact ⟨by decide, by rw [h3]; rfl, rfl, rfl, h4⟩
      · constructor
        · rintro ⟨h2, _⟩
          have : a.toNat ≠ 0 := fun h => h0 (UInt8.toNat_inj.1 (by rw [h]; rfl))
          have : a.toNat ≠ 1 := fun h => h1 (UInt8.toNat_inj.1 (by rw [h]; rfl))
          omega
        · rintro (⟨_, h2, _⟩ | ⟨_, h2, _⟩)
          · exact absurd h2 h0
          · exact absurd h2 h1
end Go.Proofs.Ythpnlgdcijmocaa.Nd
