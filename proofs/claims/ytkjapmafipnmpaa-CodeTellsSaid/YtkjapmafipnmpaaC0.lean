/- Steps as data: which may be, and their octets, plainly. -/
import Derived.Test.YtkjapmafipnmpaaLio2
import Derived.Test.YtkjapmafipnmpaaSl
import Derived.Test.YtkjapmafipnmpaaIv
namespace Go.Proofs.Ytkjapmafipnmpaa.Cd
open Go.RowKit Lt
set_option linter.unusedVariables false
set_option linter.unusedSimpArgs false
structure StepS where
  kind : Int
  a : Int
  x : Nat
  y : Nat
  x1 : Nat
  y1 : Nat
  d : ByteArray
  fv : Value
  f : List Int
deriving Inhabited
def oddF (n : Int) : Bool := decide (n < 0) || decide (65535 < n)
namespace StepS
def cells (s : StepS) : List Value := [.int .i64 s.kind, .int .i64 s.a, .int .u32 (s.x : Nat), .int .u32 (s.y : Nat), .int .u32 (s.x1 : Nat), .int .u32 (s.y1 : Nat), .string s.d, s.fv]
def fine (w : World) (s : StepS) : Prop := (-9223372036854775808 ≤ s.kind ∧ s.kind ≤ 9223372036854775807) ∧ (-9223372036854775808 ≤ s.a ∧ s.a ≤ 9223372036854775807) ∧ (s.x < 4294967296 ∧ s.y < 4294967296 ∧ s.x1 < 4294967296 ∧ s.y1 < 4294967296) ∧
  s.d.size ≤ 140737488351232 ∧ IRd w s.fv s.f ∧ (∀ n ∈ s.f, -9223372036854775808 ≤ n ∧ n ≤ 9223372036854775807) ∧ s.f.length ≤ 17592186043904
theorem cells_len (s : StepS) : s.cells.length = 8 := rfl
/-- What code.Check says. -/
def chk (s : StepS) : Int := if s.kind < 1 ∨ 13 < s.kind then 12 else if s.a < 0 ∨ 4294967295 < s.a ∨ s.f.any oddF = true then 4 else if 255 < s.d.size ∨ 255 < s.f.length then 5 else 0
theorem chk_zero {s : StepS} (h : s.chk = 0) : (1 ≤ s.kind ∧ s.kind ≤ 13) ∧ (0 ≤ s.a ∧ s.a ≤ 4294967295) ∧ s.f.any oddF = false ∧ s.d.size ≤ 255 ∧ s.f.length ≤ 255 := by
  unfold chk at h
  by_cases h1 : s.kind < 1 ∨ 13 < s.kind
  · rw [if_pos h1] at h; cases h
  · rw [if_neg h1] at h
    by_cases h2 : s.a < 0 ∨ 4294967295 < s.a ∨ s.f.any oddF = true
    · rw [if_pos h2] at h; cases h
    · rw [if_neg h2] at h
      by_cases h3 : 255 < s.d.size ∨ 255 < s.f.length
      · rw [if_pos h3] at h; cases h
      · refine ⟨by omega, by omega, ?_, by omega, by omega⟩
        cases hb : s.f.any oddF
        · rfl
        · exact absurd (.inr (.inr hb)) h2
end StepS
/-- The parts of which a step's octets are. -/
def ch (s : StepS) : List (List UInt8) := [numB 1 s.kind.toNat, numB 4 s.a.toNat, numB 4 s.x, numB 4 s.y, numB 4 s.x1, numB 4 s.y1, numB 1 s.d.size, s.d.data.toList, numB 1 s.f.length] ++ s.f.map fun n => numB 2 n.toNat
def oct (s : StepS) : List UInt8 := (ch s).flatten
def octs (l : List StepS) : List UInt8 := (l.flatMap ch).flatten
theorem octs_eq (l : List StepS) : octs l = l.flatMap oct := by
  unfold octs
  induction l with
  | nil => rfl
  | cons s l ih => rw [List.flatMap_cons, List.flatten_append, ih, List.flatMap_cons]; rfl
theorem octs_append (a b : List StepS) : octs (a ++ b) = octs a ++ octs b := by rw [octs_eq, octs_eq, octs_eq, List.flatMap_append]
def putF (s : OutS) (l : List Int) : OutS := l.foldl (fun s n => s.num n 2) s
def putC (s : OutS) (x : StepS) : OutS := putF (((((((((s.num x.kind 1).num x.a 4).num (x.x : Nat) 4).num (x.y : Nat) 4).num (x.x1 : Nat) 4).num (x.y1 : Nat) 4).num (x.d.size : Nat) 1).put x.d.data.toList).num (x.f.length : Nat) 1) x.f
theorem num_put (s : OutS) (n z : Int) (h0 : 0 ≤ n) (h : n < (256 : Int) ^ sz z) : s.num n z = s.put (numB (sz z) n.toNat) := by
  unfold OutS.num
  by_cases hi : s.made = false ∨ s.err ≠ 0
  · rw [if_pos hi]; unfold OutS.put; rw [if_pos hi]
  · rw [if_neg hi, if_neg (by omega)]
theorem sz1 : sz 1 = 1 := by decide
theorem sz2 : sz 2 = 2 := by decide
theorem sz4 : sz 4 = 4 := by decide
theorem putF_eq : ∀ (l : List Int) (s : OutS), l.any oddF = false → putF s l = (l.map fun n => numB 2 n.toNat).foldl OutS.put s
  | [], _, _ => rfl
  | n :: l, s, h => by
    rw [List.any_cons, Bool.or_eq_false_iff] at h
    have hn : 0 ≤ n ∧ n ≤ 65535 := by have := h.1; simp [oddF] at this; omega
    show putF (s.num n 2) l = _
    rw [num_put s n 2 hn.1 (by rw [sz2]; show n < 65536; omega), sz2, putF_eq l _ h.2]
    rfl
theorem putC_eq (s : OutS) (x : StepS) (hc : x.chk = 0) (hx : x.x < 4294967296 ∧ x.y < 4294967296 ∧ x.x1 < 4294967296 ∧ x.y1 < 4294967296) : putC s x = (ch x).foldl OutS.put s := by
  obtain ⟨h1, h2, h3, h4, h5⟩ := StepS.chk_zero hc
  unfold putC ch
  rw [List.foldl_append, ← putF_eq _ _ h3]
  have p1 : (256 : Int) ^ sz 1 = 256 := by rw [sz1]; rfl
  have p4 : (256 : Int) ^ sz 4 = 4294967296 := by rw [sz4]; rfl
  rw [num_put s x.kind 1 (by omega) (by rw [p1]; omega), num_put _ x.a 4 (by omega) (by rw [p4]; omega), num_put _ (x.x : Nat) 4 (by omega) (by rw [p4]; omega), num_put _ (x.y : Nat) 4 (by omega) (by rw [p4]; omega), num_put _ (x.x1 : Nat) 4 (by omega) (by rw [p4]; omega), num_put _ (x.y1 : Nat) 4 (by omega) (by rw [p4]; omega), num_put _ (x.d.size : Nat) 1 (by omega) (by rw [p1]; omega), num_put _ (x.f.length : Nat) 1 (by omega) (by rw [p1]; omega), sz1, sz4]
  simp only [Int.toNat_natCast]
  rfl
theorem puts_ok (R : Int) : ∀ (L : List (List UInt8)) (b : List UInt8), (b.length : Int) + L.flatten.length ≤ R → L.foldl OutS.put (outOk R b) = outOk R (b ++ L.flatten)
  | [], b, _ => by simp
  | c :: L, b, h => by
    rw [List.flatten_cons, List.length_append] at h
    rw [List.foldl_cons, outOk_put (by omega), puts_ok R L _ (by rw [List.length_append]; omega), List.flatten_cons, List.append_assoc]
theorem puts_stop : ∀ (L : List (List UInt8)) (s : OutS), s.err = 10 → L.foldl OutS.put s = s
  | [], _, _ => rfl
  | c :: L, s, h => by
    rw [List.foldl_cons]
    have e : s.put c = s := by unfold OutS.put; rw [if_pos (.inr (by rw [h]; decide))]
    rw [e, puts_stop L s h]
theorem puts_full (R : Int) : ∀ (L : List (List UInt8)) (b : List UInt8), (b.length : Int) ≤ R → R < (b.length : Int) + L.flatten.length → (L.foldl OutS.put (outOk R b)).err = 10 ∧ (L.foldl OutS.put (outOk R b)).made = true
  | [], b, h0, h => by simp at h; omega
  | c :: L, b, h0, h => by
    rw [List.flatten_cons, List.length_append] at h
    rw [List.foldl_cons]
    by_cases hc : (b.length : Int) + c.length ≤ R
    · rw [outOk_put hc]
      exact puts_full R L _ (by rw [List.length_append]; omega) (by rw [List.length_append]; omega)
    · have e : ((outOk R b).put c) = ⟨R, true, 10, b⟩ := by
        unfold OutS.put outOk
        rw [if_neg (by simp), if_pos (by simp only; omega)]
      rw [e, puts_stop _ _ rfl]
      exact ⟨rfl, rfl⟩
/-- The first error of some steps. -/
def fe : List StepS → Int
  | [] => 0
  | s :: l => if s.chk ≠ 0 then s.chk else fe l
theorem fe_succ : ∀ (l : List StepS) (k : Nat) (h : k < l.length), fe (l.take (k + 1)) = if fe (l.take k) ≠ 0 then fe (l.take k) else l[k].chk
  | s :: l, 0, _ => by simp [fe]; intro h; exact h.symm
  | s :: l, k + 1, h => by
    have h' : k < l.length := by simpa using h
    have ih := fe_succ l k h'
    rw [List.take_succ_cons, List.take_succ_cons]
    unfold fe
    by_cases hs : s.chk ≠ 0
    · rw [if_pos hs, if_pos hs, if_pos hs]
    · rw [if_neg hs, if_neg hs, ih]; rfl
theorem fe_zero : ∀ (l : List StepS), fe l = 0 → ∀ s ∈ l, s.chk = 0
  | [], _, _, h => by cases h
  | s :: l, h, t, ht => by
    unfold fe at h
    by_cases hs : s.chk ≠ 0
    · rw [if_pos hs] at h; exact absurd h hs
    · rw [if_neg hs] at h
      rcases List.mem_cons.1 ht with rfl | ht
      · simpa using hs
      · exact fe_zero l h t ht
theorem fe_stop : ∀ (l : List StepS) (k : Nat) (h : k < l.length), fe (l.take k) = 0 → l[k].chk ≠ 0 → fe l = l[k].chk
  | s :: l, 0, _, _, hs => by
    have hs' : s.chk ≠ 0 := hs
    show (if s.chk ≠ 0 then s.chk else fe l) = s.chk
    rw [if_pos hs']
  | s :: l, k + 1, h, h0, hs => by
    have h' : k < l.length := by simpa using h
    rw [List.take_succ_cons] at h0
    unfold fe at h0 ⊢
    by_cases hs2 : s.chk ≠ 0
    · rw [if_pos hs2] at h0; exact absurd h0 hs2
    · rw [if_neg hs2] at h0 ⊢
      exact fe_stop l k h' h0 hs
/-- What code.Put tells of some steps. -/
def putE (l : List StepS) : Int := if 256 < l.length then 3 else if fe l ≠ 0 then fe l else if 65536 < (octs l).length then 10 else 0
def putL (s : OutS) (l : List StepS) : OutS := l.foldl putC s
theorem putL_succ (s : OutS) (l : List StepS) (k : Nat) (h : k < l.length) : putL s (l.take (k + 1)) = putC (putL s (l.take k)) l[k] := by
  unfold putL; rw [List.take_succ_eq_append_getElem h, List.foldl_append]; rfl
theorem putL_eq (s : OutS) : ∀ (l : List StepS), (∀ x ∈ l, x.chk = 0) → (∀ x ∈ l, x.x < 4294967296 ∧ x.y < 4294967296 ∧ x.x1 < 4294967296 ∧ x.y1 < 4294967296) → putL s l = (l.flatMap ch).foldl OutS.put s := by
  intro l
  induction l generalizing s with
  | nil => intros; rfl
  | cons x l ih =>
    intro h1 h2
    show putL (putC s x) l = _
    rw [putC_eq s x (h1 x (by simp)) (h2 x (by simp)), ih _ (fun y hy => h1 y (by simp [hy])) (fun y hy => h2 y (by simp [hy])), List.flatMap_cons, List.foldl_append]
/-- All are put: what comes of it. -/
theorem putL_done (l : List StepS) (h : fe l = 0) (h2 : ∀ x ∈ l, x.x < 4294967296 ∧ x.y < 4294967296 ∧ x.x1 < 4294967296 ∧ x.y1 < 4294967296) :
    (putL (outNew 65536) l).made = true ∧ (if 65536 < (octs l).length then (putL (outNew 65536) l).err = 10 else putL (outNew 65536) l = outOk 65536 (octs l)) := by
  rw [putL_eq _ l (fe_zero l h) h2, outNew_ok 65536 (by decide) (by decide)]
  by_cases hf : 65536 < (octs l).length
  · rw [if_pos hf]
    have := puts_full 65536 (l.flatMap ch) [] (by simp) (by unfold octs at hf; rw [List.length_nil]; omega)
    exact ⟨this.2, this.1⟩
  · rw [if_neg hf]
    have := puts_ok 65536 (l.flatMap ch) [] (by unfold octs at hf; rw [List.length_nil]; omega)
    rw [List.nil_append] at this
    rw [this]
    exact ⟨rfl, rfl⟩
end Go.Proofs.Ytkjapmafipnmpaa.Cd
