/- The walks over package little's In: what is read. -/
import Derived.Test.YtjhhknkhgilecaaLittle3
namespace Go.Proofs.Ytjhhknkhgilecaa.Lt
open Go.RowKit
set_option linter.unusedVariables false
set_option linter.unusedSimpArgs false

theorem take_nil (n : Nat) (w : World) : Calls Try.prog 98 #[.pointer none, .int .i64 n] w fun e w' => e = .returned (.slice none 0 0) ∧ w' = w := by
  go_enter Try.func98, Try.ntmps98
  go_wp2
  go_ret
  exact ⟨rfl, rfl⟩
theorem take_idle (p : Nat) (v : Value) (s : InS) (n : Nat) (w : World) (h : InAt w p v s) (hi : s.idle) :
    Calls Try.prog 98 #[.pointer (some ⟨p, 0, none⟩), .int .i64 n] w fun e w' => e = .returned (.slice none 0 0) ∧ w' = w := by
  obtain ⟨hp, _⟩ := h
  have h1 := cell_block hp 1
  have h2 := cell_block hp 2
  simp at h1 h2
  clear hp
  cases hm : s.made with
  | false =>
    rw [hm] at h1
    clear hm hi
    go_enter Try.func98, Try.ntmps98
    go_wp2
    go_ret
    exact ⟨rfl, rfl⟩
  | true =>
    unfold InS.idle at hi
    rw [hm] at h1 hi
    have he : (s.err != 0) = true := by simpa using hi
    clear hm hi
    go_enter Try.func98, Try.ntmps98
    go_wp2
    go_ret
    exact ⟨rfl, rfl⟩
theorem take_short (p : Nat) (v : Value) (s : InS) (n : Nat) (w : World) (h : InAt w p v s) (hi : ¬ s.idle) (hn : s.b.length < n) (hb : n ≤ 9223372036854775807) :
    Calls Try.prog 98 #[.pointer (some ⟨p, 0, none⟩), .int .i64 n] w fun e w' => e = .returned (.slice none 0 0) ∧ InTo w p { s with b := [], err := 16 } w' := by
  obtain ⟨hp, A, c, rfl, hc, hr, hA⟩ := h
  unfold InS.idle at hi
  have hm : s.made = true := by cases hq : s.made <;> simp_all
  have he : s.err = 0 := by simp_all
  have h0 := cell_block hp 0
  have h1 := cell_block hp 1
  have h2 := cell_block hp 2
  have f0 := free_block hp 0
  have f2 := free_block hp 2
  simp [hm, he] at h0 h1 h2
  have d : decide ((s.b.length : Int) < n) = true := decide_eq_true (by omega)
  have fin : InTo w p { s with b := [], err := 16 } ((w.setCell ⟨p, 0, none⟩ (.slice none 0 0)).setCell ⟨p, 2, none⟩ (.int .i64 16)) := by
    refine ⟨.slice none 0 0, ⟨?_, none, 0, rfl, Nat.le_refl _, Rd.nil _ _, fun _ h => by cases h⟩, ((Fr.refl (fun k => k = p) w).set (p := ⟨p, 0, none⟩) (fun _ => rfl) _).set (p := ⟨p, 2, none⟩) (fun _ => rfl) _⟩
    rw [blk_set (blk_set hp 0 _)]
    rfl
  have FIN := Lib.hid fin; clear fin hp hi hm he hr hA
  go_enter Try.func98, Try.ntmps98
  go_wp2
  go_ret
  exact ⟨rfl, FIN.out⟩
theorem take_fin {p : Nat} {A : Option Addr} {c : Nat} {s : InS} {n : Nat} {w : World} (h : InAt w p (.slice A s.b.length c) s) (hn : n ≤ s.b.length) (A1 : Option Addr) (c1 : Nat)
    (hr1 : Rd w A1 (bv (s.b.drop n))) (hA1 : ∀ ad, A1 = some ad → (ad.spot = none ∧ ad.block ≠ p) ∧ ∃ (cs : Array Value) (f : Nat × Nat), w.heap[ad.block]? = some (.cells cs 5 f)) (hc1 : s.b.length - n ≤ c1) :
    BRd (w.setCell ⟨p, 0, none⟩ (.slice A1 (s.b.length - n) c1)) (.slice A n n) (s.b.take n) ∧ InTo w p { s with b := s.b.drop n } (w.setCell ⟨p, 0, none⟩ (.slice A1 (s.b.length - n) c1)) := by
  obtain ⟨hp, A', c', e, hc, hr, hA⟩ := h
  injection e with e1 e2 e3
  subst e1 e3
  have hf : Fr (fun k => k = p) w (w.setCell ⟨p, 0, none⟩ (.slice A1 (s.b.length - n) c1)) := (Fr.refl (fun k => k = p) w).set (p := ⟨p, 0, none⟩) (fun _ => rfl) _
  have hlt : (s.b.take n).length = n := by simp; omega
  have hld : (s.b.drop n).length = s.b.length - n := by simp
  refine ⟨⟨A, n, by rw [hlt], by rw [hlt]; exact Nat.le_refl _, ?_, fun ad h _ => (hA ad h).1.1⟩, .slice A1 (s.b.length - n) c1, ⟨?_, A1, c1, by rw [hld], by rw [hld]; exact hc1, hr1.fr hf (fun ad h => (hA1 ad h).1.2), fun ad h => ⟨(hA1 ad h).1, by obtain ⟨cs, f, hcs⟩ := (hA1 ad h).2; exact ⟨cs, f, blk_fr hcs hf (hA1 ad h).1.2⟩⟩⟩, hf⟩
  · rw [← bv_take]
    exact (hr.take n).fr hf (fun ad h => (hA ad h).1.2)
  · rw [blk_set hp]
    rfl
theorem take_fits (p : Nat) (v : Value) (s : InS) (n : Nat) (w : World) (h : InAt w p v s) (hi : ¬ s.idle) (hn : n ≤ s.b.length) (hb : s.b.length ≤ 9223372036854775807) :
    Calls Try.prog 98 #[.pointer (some ⟨p, 0, none⟩), .int .i64 n] w fun e w' => ∃ x, e = .returned x ∧ BRd w' x (s.b.take n) ∧ InTo w p { s with b := s.b.drop n } w' := by
  have h' := h
  obtain ⟨hp, A, c, rfl, hc, hr, hA⟩ := h
  unfold InS.idle at hi
  have hm : s.made = true := by cases hq : s.made <;> simp_all
  have he : s.err = 0 := by simp_all
  have h0 := cell_block hp 0
  have h1 := cell_block hp 1
  have h2 := cell_block hp 2
  have f0 := free_block hp 0
  simp [hm, he] at h0 h1 h2
  have d : decide ((s.b.length : Int) < n) = false := decide_eq_false (by omega)
  have H := Lib.hid h'; clear h' hp hi hm he hr hA
  go_enter Try.func98, Try.ntmps98
  go_wp2
  all_goals (go_ret; refine ⟨.slice A n n, rfl, ?_⟩)
  · have hl : s.b.length = n := by omega
    refine take_fin H.out hn A 0 ?_ ?_ (by omega)
    · rw [List.drop_of_length_le (by omega)]; exact Rd.nil _ _
    · obtain ⟨_, A', c', e, _, _, hA⟩ := H.out
      injection e with e1 e2 e3
      subst e1
      exact hA
  · obtain ⟨_, A', c', e, _, hr, hA⟩ := H.out
    injection e with e1 e2 e3
    subst e1
    refine take_fin H.out hn _ (c - n) ?_ ?_ (by omega)
    · rw [← bv_drop]; exact rd_add hr n
    · intro ad had
      obtain ⟨a0, rfl, rfl⟩ := Option.map_eq_some_iff.1 had
      have h1 := (hA a0 rfl)
      obtain ⟨g, o, sp⟩ := a0
      have hsp : sp = none := h1.1.1
      subst hsp
      rw [add_plain]
      exact ⟨⟨rfl, h1.1.2⟩, h1.2⟩
theorem take_ok (p : Nat) (v : Value) (s : InS) (n : Nat) (w : World) (h : InAt w p v s) (hb : n ≤ 9223372036854775807) (hl : s.b.length ≤ 9223372036854775807) :
    Calls Try.prog 98 #[.pointer (some ⟨p, 0, none⟩), .int .i64 n] w fun e w' => ∃ x, e = .returned x ∧ BRd w' x (s.got n) ∧ InTo w p (s.next n) w' := by
  unfold InS.got InS.next
  by_cases hi : s.idle
  · rw [if_pos (.inl hi), if_pos hi]
    exact (take_idle p v s n w h hi).mono fun e w' ⟨he, hw⟩ => by subst hw; exact ⟨_, he, brd_nil _, v, h, Fr.refl _ _⟩
  · rw [if_neg hi]
    by_cases hn : s.b.length < n
    · rw [if_pos (.inr hn), if_pos hn]
      exact (take_short p v s n w h hi hn hb).mono fun e w' ⟨he, hw⟩ => ⟨_, he, brd_nil _, hw⟩
    · rw [if_neg (fun h => h.elim hi hn), if_neg hn]
      exact take_fits p v s n w h hi (by omega) hl
theorem intext_nil (size : Int) (w : World) : Calls Try.prog 97 #[.pointer none, .int .i64 size] w fun e w' => e = .returned (.string (bstr [])) ∧ w' = w := by
  have hc := conv_rd (P := Try.prog) (brd_nil w) 24 5 9 Try.underlying24 Try.underlying5 Try.underlying9
  by_cases h0 : size < 0
  · go_enter Try.func97, Try.ntmps97
    go_wp2_with fail
    refine (take_nil 0 w).mono ?_
    rintro e w1 ⟨rfl, rfl⟩
    go_wp2
    go_ret
    exact ⟨rfl, rfl⟩
  · obtain ⟨k, rfl⟩ := Int.eq_ofNat_of_zero_le (by omega : 0 ≤ size)
    go_enter Try.func97, Try.ntmps97
    go_wp2_with fail
    refine (take_nil k w).mono ?_
    rintro e w1 ⟨rfl, rfl⟩
    go_wp2
    go_ret
    exact ⟨rfl, rfl⟩
theorem intext_ok (p : Nat) (v : Value) (s : InS) (size : Int) (w : World) (h : InAt w p v s) (s2 : size ≤ 9223372036854775807) (hl : s.b.length ≤ 9223372036854775807) :
    Calls Try.prog 97 #[.pointer (some ⟨p, 0, none⟩), .int .i64 size] w fun e w' => e = .returned (.string (bstr (s.got size.toNat))) ∧ InTo w p (s.next size.toNat) w' := by
  by_cases h0 : size < 0
  · have e0 : size.toNat = 0 := by omega
    rw [e0]
    have H := Lib.hid h; clear h
    go_enter Try.func97, Try.ntmps97
    go_wp2_with fail
    refine (take_ok p v s 0 w H.out (by omega) hl).mono ?_
    rintro e w1 ⟨x, rfl, hx, ht⟩
    have hc := conv_rd (P := Try.prog) hx 24 5 9 Try.underlying24 Try.underlying5 Try.underlying9
    have HT := Lib.hid ht; clear hx ht
    go_wp2
    go_ret
    exact ⟨rfl, HT.out⟩
  · obtain ⟨k, rfl⟩ := Int.eq_ofNat_of_zero_le (by omega : 0 ≤ size)
    rw [Int.toNat_natCast]
    have H := Lib.hid h; clear h
    go_enter Try.func97, Try.ntmps97
    go_wp2_with fail
    refine (take_ok p v s k w H.out (by omega) hl).mono ?_
    rintro e w1 ⟨x, rfl, hx, ht⟩
    have hc := conv_rd (P := Try.prog) hx 24 5 9 Try.underlying24 Try.underlying5 Try.underlying9
    have HT := Lib.hid ht; clear hx ht
    go_wp2
    go_ret
    exact ⟨rfl, HT.out⟩
/-- The number of octets, the lowest first. -/
def getB : List UInt8 → Nat
  | [] => 0
  | c :: l => c.toNat + 256 * getB l
theorem getB_lt : ∀ l : List UInt8, getB l < 256 ^ l.length
  | [] => by simp [getB]
  | c :: l => by
    have := getB_lt l
    have hc := c.toNat_lt
    simp only [getB, List.length_cons, Nat.pow_succ]
    omega
theorem getB_snoc (c : UInt8) : ∀ l : List UInt8, getB (l ++ [c]) = getB l + 256 ^ l.length * c.toNat
  | [] => by simp [getB]
  | d :: l => by
    simp only [List.cons_append, getB, getB_snoc c l, List.length_cons, Nat.pow_succ]
    rw [Nat.mul_add, ← Nat.add_assoc, Nat.mul_comm (256 ^ l.length) 256, Nat.mul_assoc]
theorem i64_or_nat (a b : Nat) (ha : a < 9223372036854775808) (hb : b < 9223372036854775808) : bits .or .i64 (a : Int) (b : Int) = ((a ||| b : Nat) : Int) := by
  have hx : a ||| b < 2 ^ 63 := Nat.or_lt_two_pow (by omega) (by omega)
  show IntKind.i64.wrap ((BitVec.ofInt 64 (a : Int) ||| BitVec.ofInt 64 (b : Int)).toNat : Int) = _
  rw [BitVec.toNat_or, ofInt_u64 a (by omega), ofInt_u64 b (by omega), IntKind.wrap_i64]
  omega
theorem or_num (N C k : Nat) (hN : N < 256 ^ k) (hC : C < 256) (hk : k < 6) : bits .or .i64 (N : Int) (wrap64 ((C : Int) * 2 ^ (8 * k))) = ((N + 256 ^ k * C : Nat) : Int) := by
  have hp : 256 ^ k = 2 ^ (8 * k) := by rw [Nat.pow_mul]
  have hb : 256 ^ k ≤ 256 ^ 5 := Nat.pow_le_pow_right (by omega) (by omega)
  have hm : C * 256 ^ k ≤ 255 * 256 ^ 5 := Nat.mul_le_mul (by omega) hb
  have hw : wrap64 ((C : Int) * 2 ^ (8 * k)) = ((C * 2 ^ (8 * k) : Nat) : Int) := by
    have h1 : ((C : Int) * 2 ^ (8 * k)) = ((C * 2 ^ (8 * k) : Nat) : Int) := by simp
    rw [h1, ← hp]
    unfold wrap64
    have : (255 * 256 ^ 5 : Nat) = 280375465082880 := by decide
    omega
  have h5 : (256 ^ 5 : Nat) = 1099511627776 := by decide
  have hN2 : N < 9223372036854775808 := by omega
  have hC2 : C * 2 ^ (8 * k) < 9223372036854775808 := by rw [← hp]; omega
  rw [hw, i64_or_nat _ _ hN2 hC2]
  rw [Nat.or_comm, Nat.mul_comm C, ← Nat.two_pow_add_eq_or_of_lt (by rw [← hp]; exact hN), hp]
  congr 1
  omega
theorem innum_of (recv : Value) (size : Int) (l : List UInt8) (Q : World → Prop) (w : World) (hl : l.length ≤ 6)
    (ht : Calls Try.prog 98 #[recv, .int .i64 (sz size : Nat)] w fun e w' => ∃ x, e = .returned x ∧ BRd w' x l ∧ Q w') :
    Calls Try.prog 53 #[recv, .int .i64 size] w fun e w' => e = .returned (.int .i64 (getB l)) ∧ Q w' := by
  have hcase : size < 1 ∧ sz size = 1 ∨ 6 < size ∧ sz size = 6 ∨ size = (sz size : Nat) ∧ 1 ≤ sz size ∧ sz size ≤ 6 := by unfold sz; (repeat' split) <;> omega
  generalize sz size = S at *
  have HT := Lib.hid ht; clear ht
  rcases hcase with ⟨hc, rfl⟩ | ⟨hc, rfl⟩ | ⟨rfl, hc, hc2⟩
  all_goals
    go_enter Try.func53, Try.ntmps53
    go_wp2_with fail
    refine HT.out.mono ?_
    rintro e w1 ⟨x, rfl, ⟨A, c, rfl, hlc, hr, hA⟩, hq⟩
    have HR := Lib.hid (And.intro hr (And.intro hA hq)); clear hr hA hq HT
    go_wp2_with fail
    go_loop [5, 14] (fun vn vi => ∃ k : Nat, k ≤ l.length ∧ vi = .int .i64 k ∧ vn = .int .i64 (getB (l.take k))) (fun _ vi => l.length - (intOf vi).toNat)
    case atStart => exact ⟨0, by omega, rfl, by simp [getB]⟩
    rename_i vn vi hrel
    obtain ⟨k, hk, rfl, rfl⟩ := hrel
    by_cases hlt : k < l.length
    · have d : decide ((k : Int) < l.length) = true := decide_eq_true (by omega)
      obtain ⟨ad, rfl, hcell⟩ := HR.out.1.at_ (i := k) (by rw [bv_length]; exact hlt)
      have hcv : (bv l)[k]'(by rw [bv_length]; exact hlt) = .int .u8 l[k].toNat := by simp [bv]
      rw [hcv] at hcell
      have hc8 := l[k].toNat_lt
      have hN := getB_lt (l.take k)
      rw [List.length_take, Nat.min_eq_left hk] at hN
      have hnext : getB (l.take (k + 1)) = getB (l.take k) + 256 ^ k * l[k].toNat := by
        rw [List.take_succ_eq_append_getElem hlt, getB_snoc, List.length_take, Nat.min_eq_left hk]
      generalize getB (l.take k) = N at *
      generalize l[k].toNat = C at *
      have HN := Lib.hid (And.intro hN hnext); clear hN hnext
      have hor := or_num N C k HN.out.1 hc8 (by omega)
      go_wp2
      refine ⟨⟨k + 1, by omega, by simp, ?_⟩, by simp [intOf]; omega⟩
      rw [HN.out.2]
      simp
    · have hkl : k = l.length := by omega
      subst hkl
      rw [List.take_length]
      have d : decide ((l.length : Int) < l.length) = false := decide_eq_false (by omega)
      go_wp2
      go_ret
      exact ⟨rfl, HR.out.2.2⟩
theorem innum_nil (size : Int) (w : World) : Calls Try.prog 53 #[.pointer none, .int .i64 size] w fun e w' => e = .returned (.int .i64 0) ∧ w' = w :=
  (innum_of (.pointer none) size [] (fun w' => w' = w) w (by simp) ((take_nil (sz size) w).mono fun e w' ⟨h1, h2⟩ => ⟨_, h1, brd_nil _, h2⟩)).mono fun e w' h => by simpa [getB] using h
theorem got_le (s : InS) (n : Nat) : (s.got n).length ≤ n := by
  unfold InS.got; split
  · simp
  · simp; omega
theorem innum_ok (p : Nat) (v : Value) (s : InS) (size : Int) (w : World) (h : InAt w p v s) (hl : s.b.length ≤ 9223372036854775807) :
    Calls Try.prog 53 #[.pointer (some ⟨p, 0, none⟩), .int .i64 size] w fun e w' => e = .returned (.int .i64 (getB (s.got (sz size)))) ∧ InTo w p (s.next (sz size)) w' :=
  innum_of _ size _ _ w (Nat.le_trans (got_le s _) (sz_le size)) ((take_ok p v s (sz size) w h (by have := sz_le size; omega) hl))
end Go.Proofs.Ytjhhknkhgilecaa.Lt
