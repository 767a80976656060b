/- Package little's Out and In behind one word each, with what stays: for functions that write and read many fields. -/
import Derived.Test.YtjhhknkhgilecaaRef01
namespace Go.Proofs.Ytjhhknkhgilecaa.Lt
open Go.RowKit
set_option linter.unusedVariables false
set_option linter.unusedSimpArgs false

theorem cells2 {W : World} {g : Nat} {a b : Value} {t : TypeId} {f : Nat × Nat} (h : W.heap[g]? = some (.cells #[a, b] t f)) : W.cell? ⟨g, 0, none⟩ = some a ∧ W.cell? ⟨g, 1, none⟩ = some b := by
  rw [cell_block h, cell_block h]; exact ⟨rfl, rfl⟩
theorem cells3 {W : World} {g : Nat} {a b c : Value} {t : TypeId} {f : Nat × Nat} (h : W.heap[g]? = some (.cells #[a, b, c] t f)) : W.cell? ⟨g, 0, none⟩ = some a ∧ W.cell? ⟨g, 1, none⟩ = some b ∧ W.cell? ⟨g, 2, none⟩ = some c := by
  rw [cell_block h, cell_block h, cell_block h]; exact ⟨rfl, rfl, rfl⟩
theorem cells4 {W : World} {g : Nat} {a b c d : Value} {t : TypeId} {f : Nat × Nat} (h : W.heap[g]? = some (.cells #[a, b, c, d] t f)) : W.cell? ⟨g, 0, none⟩ = some a ∧ W.cell? ⟨g, 1, none⟩ = some b ∧ W.cell? ⟨g, 2, none⟩ = some c ∧ W.cell? ⟨g, 3, none⟩ = some d := by
  rw [cell_block h, cell_block h, cell_block h, cell_block h]; exact ⟨rfl, rfl, rfl, rfl⟩
/-- Rows of cells of other types than Out's and octets' stand as they stood. -/
def KeepO (W W' : World) : Prop := W.heap.size ≤ W'.heap.size ∧ ∀ (g : Nat) (cs : Array Value) (t : TypeId) (f : Nat × Nat), W.heap[g]? = some (.cells cs t f) → t ≠ 162 → t ≠ 5 → W'.heap[g]? = some (.cells cs t f)
/-- Behind p an Out stands that has become s since w0; what was there in w0 stands as it stood. -/
def OW (w0 W : World) (p : Nat) (s : OutS) : Prop := ∃ v, OutAt w0.heap.size W p v s ∧ Below w0.heap.size w0 W
theorem OW.bel {w0 W : World} {p : Nat} {s : OutS} (h : OW w0 W p s) : Below w0.heap.size w0 W := by obtain ⟨v, _, hb⟩ := h; exact hb
theorem OW.up {w0 W W' : World} {p : Nat} {s : OutS} (h : OW w0 W p s) (hb : Below W.heap.size W W') : OW w0 W' p s := by
  obtain ⟨v, ⟨h1, h2, h3, h4⟩, h5⟩ := h
  exact ⟨v, ⟨h1, block_up h2 hb, own_below h3 hb, h4⟩, below_up h5 hb⟩
theorem OW.of {w0 W W' : World} {p : Nat} {v : Value} {s s' : OutS} (h : OutAt w0.heap.size W p v s) (h0 : Below w0.heap.size w0 W) (ht : OutTo w0.heap.size W p v s' W') : OW w0 W' p s' ∧ KeepO W W' := by
  obtain ⟨v', h1, h2, h3⟩ := ht
  refine ⟨⟨v', h1, h0.trans (h2.toBelow ?_ h0.size)⟩, h2.size, fun g cs t f hg ht1 ht2 => blk_fr (w := W) (S := fun k => k = p ∨ v.ownBlock = some k) hg h2 ?_⟩
  · rintro k (rfl | hk)
    · exact h.1
    · exact own_base h.2.2.1 k hk
  · rintro (rfl | hk)
    · have := h.2.1; rw [hg] at this; injection this with this; injection this with _ e _; exact ht1 e
    · obtain ⟨cells, hc⟩ := own_typed h.2.2.1 g hk
      rw [hg] at hc; injection hc with hc; injection hc with _ e _; exact ht2 e
theorem new_w (room : Int) (w : World) : Calls Try.prog 61 #[.int .i64 room] w fun e w' => e = .returned (.pointer (some ⟨w.heap.size, 0, none⟩)) ∧ OW w w' w.heap.size (outNew room) ∧ Below w.heap.size w w' :=
  (new_ok w.heap.size room w (Nat.le_refl _)).mono fun e w' ⟨h1, h2, h3⟩ => ⟨h1, ⟨_, h3, h2⟩, h2⟩
theorem OW.num {w0 W : World} {p : Nat} {s : OutS} (h : OW w0 W p s) (n size : Int) (n1 : -9223372036854775808 ≤ n) (n2 : n ≤ 9223372036854775807) (s1 : -9223372036854775808 ≤ size) (s2 : size ≤ 9223372036854775807) :
    Calls Try.prog 62 #[.pointer (some ⟨p, 0, none⟩), .int .i64 n, .int .i64 size] W fun e w' => e = .returned (.tuple #[]) ∧ OW w0 w' p (s.num n size) ∧ KeepO W w' := by
  obtain ⟨v, h1, h2⟩ := h
  exact (num_ok _ p v n size s W h1 n1 n2 s1 s2).mono fun e w' ⟨he, ht⟩ => ⟨he, OW.of h1 h2 ht⟩
theorem OW.text {w0 W : World} {p : Nat} {s : OutS} (h : OW w0 W p s) (x : ByteArray) (hx : x.size ≤ 140737488355328) :
    Calls Try.prog 93 #[.pointer (some ⟨p, 0, none⟩), .string x] W fun e w' => e = .returned (.tuple #[]) ∧ OW w0 w' p (s.put x.data.toList) ∧ KeepO W w' := by
  obtain ⟨v, h1, h2⟩ := h
  exact (text_ok _ p v x s W h1 hx).mono fun e w' ⟨he, ht⟩ => ⟨he, OW.of h1 h2 ht⟩
theorem OW.pad {w0 W : World} {p : Nat} {s : OutS} (h : OW w0 W p s) (size : Int) (s1 : -9223372036854775808 ≤ size) (s2 : size ≤ 9223372036854775807) :
    Calls Try.prog 94 #[.pointer (some ⟨p, 0, none⟩), .int .i64 size] W fun e w' => e = .returned (.tuple #[]) ∧ OW w0 w' p (s.pad size) ∧ KeepO W w' := by
  obtain ⟨v, h1, h2⟩ := h
  exact (pad_ok _ p v size s W h1 s1 s2).mono fun e w' ⟨he, ht⟩ => ⟨he, OW.of h1 h2 ht⟩
/-- All of it: octets in new memory, or the error. -/
theorem OW.done {w0 W : World} {p : Nat} {s : OutS} (h : OW w0 W p s) (hm : s.made = true) :
    Calls Try.prog 63 #[.pointer (some ⟨p, 0, none⟩)] W fun e w' => ∃ v l, e = .returned (.tuple #[v, .int .i64 s.err]) ∧ l = (if s.err = 0 then s.b else []) ∧ BRd w' v l ∧ Below W.heap.size W w' := by
  obtain ⟨v, h1, h2⟩ := h
  by_cases he : s.err = 0
  · rw [if_pos he, he]
    exact (done_fits _ p v s W h1 hm he).mono fun e w' ⟨v', h1, h2, h3⟩ => ⟨v', _, h1, rfl, brd_own h3, h2⟩
  · rw [if_neg he]
    exact (done_err _ p v s W h1 hm he).mono fun e w' ⟨h1, h2⟩ => ⟨_, [], h1, rfl, brd_nil _, h2⟩
/-- An Out without error: with room R, and the octets b. -/
def outOk (R : Int) (b : List UInt8) : OutS := ⟨R, true, 0, b⟩
theorem outNew_ok (R : Int) (h : 0 ≤ R) (h2 : R ≤ 65536) : outNew R = outOk R [] := by unfold outNew outOk; rw [if_neg (by omega), if_neg (by omega)]
theorem outOk_num {R : Int} {b : List UInt8} (N : Nat) (size : Int) (h : N < 256 ^ sz size) (hr : (b.length : Int) + sz size ≤ R) : (outOk R b).num N size = outOk R (b ++ numB (sz size) N) := by
  unfold OutS.num outOk
  have h2 : ((256 ^ sz size : Nat) : Int) = (256 : Int) ^ sz size := by rw [Int.natCast_pow]; rfl
  rw [if_neg (by simp), if_neg (by rw [← h2]; omega)]
  unfold OutS.put
  rw [if_neg (by simp), if_neg (by rw [numB_length]; show ¬ _; simp only; omega)]
  rfl
theorem outOk_put {R : Int} {b l : List UInt8} (hr : (b.length : Int) + l.length ≤ R) : (outOk R b).put l = outOk R (b ++ l) := by
  unfold OutS.put outOk
  rw [if_neg (by simp), if_neg (by simp only; omega)]
theorem numB_one (N : Nat) : numB 1 N = [UInt8.ofNat (N % 256)] := by simp [numB]
theorem outOk_byte {R : Int} {b : List UInt8} (N : Nat) (h : N < 256) (hr : (b.length : Int) + 1 ≤ R) : (outOk R b).num N 1 = outOk R (b ++ [UInt8.ofNat N]) := by
  have := outOk_num (R := R) (b := b) N 1 (by simpa [sz] using h) (by simpa [sz] using hr)
  rw [this, show sz 1 = 1 from rfl, numB_one, Nat.mod_eq_of_lt h]

/-- Rows of cells of another type than In's stand as they stood. -/
def KeepI (W W' : World) : Prop := W.heap.size ≤ W'.heap.size ∧ ∀ (g : Nat) (cs : Array Value) (t : TypeId) (f : Nat × Nat), W.heap[g]? = some (.cells cs t f) → t ≠ 154 → W'.heap[g]? = some (.cells cs t f)
def IW (w0 W : World) (p : Nat) (s : InS) : Prop := ∃ v, InAt W p v s ∧ w0.heap.size ≤ p ∧ Below w0.heap.size w0 W
theorem IW.bel {w0 W : World} {p : Nat} {s : InS} (h : IW w0 W p s) : Below w0.heap.size w0 W := by obtain ⟨v, _, _, hb⟩ := h; exact hb
theorem IW.up {w0 W W' : World} {p : Nat} {s : InS} (h : IW w0 W p s) (hb : Below W.heap.size W W') : IW w0 W' p s := by
  obtain ⟨v, h1, h2, h3⟩ := h
  exact ⟨v, h1.same hb, h2, below_up h3 hb⟩
theorem IW.of {w0 W W' : World} {p : Nat} {v : Value} {s s' : InS} (h : InAt W p v s) (hp : w0.heap.size ≤ p) (h0 : Below w0.heap.size w0 W) (ht : InTo W p s' W') : IW w0 W' p s' ∧ KeepI W W' := by
  obtain ⟨v', h1, h2⟩ := ht
  refine ⟨⟨v', h1, hp, h0.trans (h2.toBelow (fun k hk => by subst hk; exact hp) h0.size)⟩, h2.size, fun g cs t f hg ht1 => blk_fr (S := fun k => k = p) hg h2 ?_⟩
  rintro rfl
  have := h.1; rw [hg] at this; injection this with this; injection this with _ e _; exact ht1 e
/-- A row of another type is written: the In stands as it stood. -/
theorem IW.grown {w0 W W' : World} {p : Nat} {s : InS} {base n c : Nat} {e : TypeId} {v : Value} {xs : List Value} (h : IW w0 W p s) (ho : W.ownsRow base e c v n xs) (hg : W.grownBy W' v.ownBlock) (hb : w0.heap.size ≤ base) (h1 : e ≠ 154) (h2 : e ≠ 5) : IW w0 W' p s := by
  have hne : ∀ (g : Nat) (cs : Array Value) (t : TypeId) (f : Nat × Nat), W.heap[g]? = some (.cells cs t f) → t ≠ e → W'.heap[g]? = some (.cells cs t f) := fun g cs t f hc ht =>
    (hg.block g (Array.getElem?_eq_some_iff.1 hc).1 (fun q => own_ne_block ho hc (fun q => ht q.symm) q.symm)).trans hc
  obtain ⟨v0, ⟨k1, A, c0, k2, k3, k4, k5⟩, k6, k7⟩ := h
  refine ⟨v0, ⟨hne _ _ _ _ k1 (Ne.symm h1), A, c0, k2, k3, fun i hi => ?_, fun ad h => ⟨(k5 ad h).1, ?_⟩⟩, k6, below_grown k7 hg (fun k e => Nat.le_trans hb (own_base ho k e))⟩
  · obtain ⟨ad, q1, q2⟩ := k4 i hi
    obtain ⟨cs, f, hcs⟩ := (k5 ad q1).2
    refine ⟨ad, q1, ?_⟩
    rw [← q2]
    exact World.cell?_of_block (by rw [add_block, hcs, hne _ _ _ _ hcs (Ne.symm h2)])
  · obtain ⟨cs, f, hcs⟩ := (k5 ad h).2
    exact ⟨cs, f, hne _ _ _ _ hcs (Ne.symm h2)⟩
theorem IW.set {w0 W : World} {p : Nat} {s : InS} {q : Addr} {cs : Array Value} {t : TypeId} {f : Nat × Nat} (h : IW w0 W p s) (hq : W.heap[q.block]? = some (.cells cs t f)) (hb : w0.heap.size ≤ q.block) (h1 : t ≠ 154) (h2 : t ≠ 5) (u : Value) : IW w0 (W.setCell q u) p s := by
  have hne : ∀ (g : Nat) (cs' : Array Value) (t' : TypeId) (f' : Nat × Nat), W.heap[g]? = some (.cells cs' t' f') → t' ≠ t → (W.setCell q u).heap[g]? = some (.cells cs' t' f') := fun g cs' t' f' hc ht =>
    blk_far hc (fun e => by subst e; rw [hq] at hc; injection hc with hc; injection hc with _ e _; exact ht e.symm) u
  obtain ⟨v0, ⟨k1, A, c0, k2, k3, k4, k5⟩, k6, k7⟩ := h
  refine ⟨v0, ⟨hne _ _ _ _ k1 (Ne.symm h1), A, c0, k2, k3, fun i hi => ?_, fun ad h => ⟨(k5 ad h).1, ?_⟩⟩, k6, k7.setCell hb u⟩
  · obtain ⟨ad, q1, q2⟩ := k4 i hi
    obtain ⟨cs, f, hcs⟩ := (k5 ad q1).2
    refine ⟨ad, q1, ?_⟩
    rw [← q2]
    exact World.cell?_of_block (by rw [add_block, hcs, hne _ _ _ _ hcs (Ne.symm h2)])
  · obtain ⟨cs, f, hcs⟩ := (k5 ad h).2
    exact ⟨cs, f, hne _ _ _ _ hcs (Ne.symm h2)⟩
theorem open_w (v : Value) (l : List UInt8) (w : World) (hv : BRd w v l) (hl : l.length ≤ 140737488355328) :
    Calls Try.prog 52 #[v] w fun e w' => ∃ p, e = .returned (.pointer (some ⟨p, 0, none⟩)) ∧ IW w w' p ⟨true, 0, l⟩ ∧ Below w.heap.size w w' :=
  (open_ok v l w hv hl).mono fun e w' ⟨p, v', h1, h2, h3, h4⟩ => ⟨p, h1, ⟨v', h4, h2, h3⟩, h3⟩
theorem IW.num {w0 W : World} {p : Nat} {s : InS} (h : IW w0 W p s) (size : Int) (hl : s.b.length ≤ 9223372036854775807) :
    Calls Try.prog 53 #[.pointer (some ⟨p, 0, none⟩), .int .i64 size] W fun e w' => e = .returned (.int .i64 (getB (s.got (sz size)))) ∧ IW w0 w' p (s.next (sz size)) ∧ KeepI W w' := by
  obtain ⟨v, h1, h2, h3⟩ := h
  exact (innum_ok p v s size W h1 hl).mono fun e w' ⟨he, ht⟩ => ⟨he, IW.of h1 h2 h3 ht⟩
theorem IW.text {w0 W : World} {p : Nat} {s : InS} (h : IW w0 W p s) (size : Int) (s2 : size ≤ 9223372036854775807) (hl : s.b.length ≤ 9223372036854775807) :
    Calls Try.prog 97 #[.pointer (some ⟨p, 0, none⟩), .int .i64 size] W fun e w' => e = .returned (.string (bstr (s.got size.toNat))) ∧ IW w0 w' p (s.next size.toNat) ∧ KeepI W w' := by
  obtain ⟨v, h1, h2, h3⟩ := h
  exact (intext_ok p v s size W h1 s2 hl).mono fun e w' ⟨he, ht⟩ => ⟨he, IW.of h1 h2 h3 ht⟩
theorem IW.left {w0 W : World} {p : Nat} {s : InS} (h : IW w0 W p s) : Calls Try.prog 55 #[.pointer (some ⟨p, 0, none⟩)] W fun e w' => e = .returned (.int .i64 s.b.length) ∧ w' = W := by
  obtain ⟨v, h1, h2, h3⟩ := h
  exact left_ok p v s W h1
theorem IW.err {w0 W : World} {p : Nat} {s : InS} (h : IW w0 W p s) : Calls Try.prog 54 #[.pointer (some ⟨p, 0, none⟩)] W fun e w' => e = .returned (.int .i64 s.tells) ∧ w' = W := by
  obtain ⟨v, h1, h2, h3⟩ := h
  exact err_ok p v s W h1
/-! ### an In that has not failed, and one that has -/
def inOk (b : List UInt8) : InS := ⟨true, 0, b⟩
def inBad : InS := ⟨true, 16, []⟩
theorem inOk_next (b : List UInt8) (n : Nat) : (inOk b).next n = if b.length < n then inBad else inOk (b.drop n) := by
  have hid : ¬ (inOk b).idle := by unfold InS.idle inOk; simp
  unfold InS.next
  rw [if_neg hid]
  rfl
theorem inOk_got (b : List UInt8) (n : Nat) : (inOk b).got n = if b.length < n then [] else b.take n := by
  have hid : ¬ (inOk b).idle := by unfold InS.idle inOk; simp
  unfold InS.got
  by_cases h : b.length < n
  · rw [if_pos (.inr h), if_pos h]
  · rw [if_neg (fun e => e.elim hid h), if_neg h]
    rfl
theorem inBad_next (n : Nat) : inBad.next n = inBad := by unfold InS.next inBad InS.idle; simp
theorem inBad_got (n : Nat) : inBad.got n = [] := by unfold InS.got inBad InS.idle; simp
theorem inOk_tells (b : List UInt8) : (inOk b).tells = 0 := rfl
theorem inBad_tells : inBad.tells = 16 := rfl
theorem next_len (s : InS) (n : Nat) : (s.next n).b.length ≤ s.b.length := by
  unfold InS.next
  (repeat' split) <;> simp
end Go.Proofs.Ytjhhknkhgilecaa.Lt
