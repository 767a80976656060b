/- The walk over croftref01.Sector. -/
import Derived.Test.YtjhhknkhgilecaaF2
namespace Go.Proofs.Ytjhhknkhgilecaa.Fm
open Go.RowKit Lt
set_option linter.unusedVariables false
set_option linter.unusedSimpArgs false
theorem rnum (N size : Nat) (w : World) (hN : N ≤ 9223372036854775807) (hs : size ≤ 1000000) :
    Calls Try.prog 49 #[.int .i64 N, .int .i64 size] w fun e w' => ∃ v, e = .returned v ∧ Below w.heap.size w w' ∧ BRd w' v (numB size N) :=
  (refnum_pos N size w hN hs).mono fun e w' ⟨x, h1, h2, h3⟩ => ⟨x, h1, h2, brd_own h3⟩
theorem rcat (u v : Value) (a b : List UInt8) (w : World) (hu : BRd w u a) (hv : BRd w v b) (hl : a.length + b.length ≤ 140737488351232) :
    Calls Try.prog 48 #[u, v] w fun e w' => ∃ x, e = .returned x ∧ Below w.heap.size w w' ∧ w'.ownsRow w.heap.size 5 1 x (a ++ b).length (bv (a ++ b)) :=
  (cat_ok u v a b w hu hv (by omega)).mono fun e w' ⟨x, h1, h2, h3⟩ => ⟨x, h1, h2, by rw [List.length_append]; exact h3⟩
/-- What the reference joins, part by part. -/
def r1 (k : Nat) : List UInt8 := [67, 82] ++ numB 1 k
def r2 (k e : Nat) : List UInt8 := r1 k ++ numB 4 e
def r3 (k e q : Nat) : List UInt8 := r2 k e ++ numB 4 q
def r4 (k e q p : Nat) : List UInt8 := r3 k e q ++ numB 2 p
def r5 (k e q p n : Nat) : List UInt8 := r4 k e q p ++ numB 1 n
def r6 (k e q p : Nat) (t : List UInt8) : List UInt8 := r5 k e q p t.length ++ t
theorem r1_len (k : Nat) : (r1 k).length = 3 := by unfold r1; simp [numB_length]
theorem r2_len (k e : Nat) : (r2 k e).length = 7 := by unfold r2; simp [r1_len, numB_length]
theorem r3_len (k e q : Nat) : (r3 k e q).length = 11 := by unfold r3; simp [r2_len, numB_length]
theorem r4_len (k e q p : Nat) : (r4 k e q p).length = 13 := by unfold r4; simp [r3_len, numB_length]
theorem r5_len (k e q p n : Nat) : (r5 k e q p n).length = 14 := by unfold r5; simp [r4_len, numB_length]
theorem r6_len (k e q p : Nat) (t : List UInt8) : (r6 k e q p t).length = 14 + t.length := by unfold r6; simp [r5_len]
theorem body_ref {k : Int} {s : StS} (t : List UInt8) (h : ¬ bad k s) (ht : t.length ≤ 238) : r6 k.toNat s.ep.toNat s.sq.toNat s.pos.toNat t ++ List.replicate (238 - t.length) 0 = body k s t := by
  unfold body r6 r5 r4 r3 r2 r1 hdr
  have hk : k.toNat < 256 := by unfold bad at h; omega
  rw [numB_one, numB_one, Nat.mod_eq_of_lt hk, Nat.mod_eq_of_lt (by omega : t.length < 256), show numB 2 21059 = [67, 82] from by decide]
theorem bad_cases {k : Int} {s : StS} (h : bad k s) : k < 0 ∨ (¬ k < 0 ∧ 255 < k) ∨ (¬ k < 0 ∧ ¬ 255 < k ∧ s.ep < 0) ∨ (¬ k < 0 ∧ ¬ 255 < k ∧ ¬ s.ep < 0 ∧ 4294967295 < s.ep) ∨ (¬ k < 0 ∧ ¬ 255 < k ∧ ¬ s.ep < 0 ∧ ¬ 4294967295 < s.ep ∧ s.sq < 0) ∨
    (¬ k < 0 ∧ ¬ 255 < k ∧ ¬ s.ep < 0 ∧ ¬ 4294967295 < s.ep ∧ ¬ s.sq < 0 ∧ 4294967295 < s.sq) ∨ (¬ k < 0 ∧ ¬ 255 < k ∧ ¬ s.ep < 0 ∧ ¬ 4294967295 < s.ep ∧ ¬ s.sq < 0 ∧ ¬ 4294967295 < s.sq ∧ s.pos < 0) ∨
    (¬ k < 0 ∧ ¬ 255 < k ∧ ¬ s.ep < 0 ∧ ¬ 4294967295 < s.ep ∧ ¬ s.sq < 0 ∧ ¬ 4294967295 < s.sq ∧ ¬ s.pos < 0 ∧ 65535 < s.pos) := by unfold bad at h; omega
set_option maxHeartbeats 8000000 in
set_option maxRecDepth 100000 in
theorem sector_bad (k : Int) (s : StS) (v : Value) (w : World) (hb : bad k s) :
    Calls Try.prog 14 #[.int .i64 k, sv s, v] w fun e w' => e = .returned (.tuple #[.slice none 0 0, .int .i64 4]) ∧ Below w.heap.size w w' := by
  have h := bad_cases hb
  clear hb
  rcases h with h | ⟨h1, h⟩ | ⟨h1, h2, h⟩ | ⟨h1, h2, h3, h⟩ | ⟨h1, h2, h3, h4, h⟩ | ⟨h1, h2, h3, h4, h5, h⟩ | ⟨h1, h2, h3, h4, h5, h6, h⟩ | ⟨h1, h2, h3, h4, h5, h6, h7, h⟩
  all_goals
    go_enter Try.func14, Try.ntmps14
    go_wp2
    go_ret2
    exact ⟨rfl, below_alloc1 _ _⟩
set_option maxHeartbeats 8000000 in
set_option maxRecDepth 100000 in
theorem sector_long (k : Int) (s : StS) (A : Option Addr) (n c : Nat) (w : World) (hb : ¬ bad k s) (hn : 238 < n) :
    Calls Try.prog 14 #[.int .i64 k, sv s, .slice A n c] w fun e w' => e = .returned (.tuple #[.slice none 0 0, .int .i64 5]) ∧ Below w.heap.size w w' := by
  unfold bad at hb
  have h1 : ¬ k < 0 := by omega
  have h2 : ¬ 255 < k := by omega
  have h3 : ¬ s.ep < 0 := by omega
  have h4 : ¬ 4294967295 < s.ep := by omega
  have h5 : ¬ s.sq < 0 := by omega
  have h6 : ¬ 4294967295 < s.sq := by omega
  have h7 : ¬ s.pos < 0 := by omega
  have h8 : ¬ 65535 < s.pos := by omega
  have hd : decide ((238 : Int) < n) = true := decide_eq_true (by omega)
  clear hb
  go_enter Try.func14, Try.ntmps14
  go_wp2
  go_ret2
  exact ⟨rfl, below_alloc1 _ _⟩
end Go.Proofs.Ytjhhknkhgilecaa.Fm
