/- The walks over the laws of package little. -/
import Derived.Test.YtjikndfpkhgnkaaRef01
import Derived.BigQuiet
namespace Go.Proofs.Ytjikndfpkhgnkaa.Lt
open Go.RowKit
set_option linter.unusedVariables false
set_option linter.unusedSimpArgs false

theorem OutTo.below {B : Nat} {w0 w w' : World} {p : Nat} {v : Value} {s s' : OutS} (hB : B = w0.heap.size) (h0 : Below w0.heap.size w0 w) (h : OutAt B w p v s) (ht : OutTo B w p v s' w') : Below w0.heap.size w0 w' := by
  obtain ⟨v', h1, h2, h3⟩ := ht
  refine h0.trans (h2.toBelow ?_ h0.size)
  rintro k (rfl | hk)
  · have := h.1; omega
  · have := own_base h.2.2.1 k hk; omega
theorem InTo.below {w0 w w' : World} {p : Nat} {s' : InS} (hp : w0.heap.size ≤ p) (h0 : Below w0.heap.size w0 w) (ht : InTo w p s' w') : Below w0.heap.size w0 w' := by
  obtain ⟨v', h1, h2⟩ := ht
  exact h0.trans (h2.toBelow (fun k hk => by subst hk; exact hp) h0.size)

set_option maxHeartbeats 1000000 in
theorem alive1_ok (w : World) : Calls Try.prog 26 #[] w fun e w' => e = .returned (.bool true) ∧ Below w.heap.size w w' := by
  go_enter Try.func26, Try.ntmps26
  go_wp2_with fail
  refine (new_ok w.heap.size 9 w (Nat.le_refl _)).mono ?_; rintro e w1 ⟨rfl, hb1, ha1⟩
  have H1 := Lib.hid (And.intro hb1 ha1); clear hb1 ha1
  go_wp2_with fail
  refine (num_ok w.heap.size _ _ 258 3 _ _ H1.out.2 (by decide) (by decide) (by decide) (by decide)).mono ?_; rintro e w2 ⟨rfl, ht2⟩
  have hs : (outNew 9).num 258 3 = ⟨9, true, 0, [2, 1, 0]⟩ := by rfl
  rw [hs] at ht2
  have hb2 := OutTo.below rfl H1.out.1 H1.out.2 ht2
  obtain ⟨v2, ha2, _, _⟩ := ht2
  have H2 := Lib.hid (And.intro hb2 ha2); clear hb2 ha2 hs
  go_wp2_with fail
  refine (done_fits w.heap.size _ _ _ _ H2.out.2 rfl rfl).mono ?_; rintro e w3 ⟨v3, rfl, hb3, ho3⟩
  have hc : (convert 49 9 v3).run Try.prog w3 = .ok (.string ⟨#[2, 1, 0]⟩) w3 := conv_rd (P := Try.prog) (brd_own ho3) 49 5 9 Try.underlying49 Try.underlying5 Try.underlying9
  have H3 := Lib.hid (below_up H2.out.1 hb3); clear hb3 ho3
  go_wp2
  go_ret
  exact ⟨rfl, H3.out⟩
theorem kind_ok (k : Int) (a b : Int) (s : ByteArray) (w : World) (k1 : -9223372036854775808 ≤ k) (k2 : k ≤ 9223372036854775807) :
    Calls Try.prog 28 #[.agg #[.int .i64 k, .int .i64 a, .int .i64 b, .string s]] w fun e w' => e = .returned (.int .i64 (k % 3)) ∧ Below w.heap.size w w' := by
  go_enter Try.func28, Try.ntmps28
  go_wp2
  go_ret
  refine ⟨ret_int ?_, below_alloc1 _ _⟩
  show (wrap64 (k.tmod 3 + 3)).tmod 3 = k % 3
  have h1 : k.tmod 3 = k % 3 ∨ k.tmod 3 = k % 3 - 3 := by
    have := Int.tmod_eq_emod (a := k) (b := 3)
    split at this <;> omega
  have h2 : wrap64 (k.tmod 3 + 3) = k.tmod 3 + 3 := by unfold wrap64; omega
  rw [h2, Int.tmod_eq_emod_of_nonneg (by omega)]
  omega
/-! ### nobody -/
theorem intext_of (recv : Value) (size : Int) (l : List UInt8) (Q : World → Prop) (w : World) (s2 : size ≤ 9223372036854775807)
    (ht : Calls Try.prog 59 #[recv, .int .i64 (size.toNat : Nat)] w fun e w' => ∃ x, e = .returned x ∧ BRd w' x l ∧ Q w') :
    Calls Try.prog 44 #[recv, .int .i64 size] w fun e w' => e = .returned (.string (bstr l)) ∧ Q w' := by
  have HT := Lib.hid ht; clear ht
  by_cases h0 : size < 0
  · have e0 : size.toNat = 0 := by omega
    rw [e0] at HT
    go_enter Try.func44, Try.ntmps44
    go_wp2_with fail
    refine HT.out.mono ?_
    rintro e w1 ⟨x, rfl, hx, ht⟩
    have hc := conv_rd (P := Try.prog) hx 49 5 9 Try.underlying49 Try.underlying5 Try.underlying9
    have HQ := Lib.hid ht; clear hx ht HT
    go_wp2
    go_ret
    exact ⟨rfl, HQ.out⟩
  · obtain ⟨k, rfl⟩ := Int.eq_ofNat_of_zero_le (by omega : 0 ≤ size)
    rw [Int.toNat_natCast] at HT
    go_enter Try.func44, Try.ntmps44
    go_wp2_with fail
    refine HT.out.mono ?_
    rintro e w1 ⟨x, rfl, hx, ht⟩
    have hc := conv_rd (P := Try.prog) hx 49 5 9 Try.underlying49 Try.underlying5 Try.underlying9
    have HQ := Lib.hid ht; clear hx ht HT
    go_wp2
    go_ret
    exact ⟨rfl, HQ.out⟩
def NbOut (W : World) (r : Value) : Prop := r = .pointer none ∨ ∃ p, r = .pointer (some ⟨p, 0, none⟩) ∧ OutAt 0 W p (.slice none 0 0) ⟨0, false, 0, []⟩
def NbIn (W : World) (r : Value) : Prop := r = .pointer none ∨ ∃ p, r = .pointer (some ⟨p, 0, none⟩) ∧ InAt W p (.slice none 0 0) ⟨false, 0, []⟩
section
variable {W W' : World} {r : Value}
theorem NbOut.up (h : NbOut W r) (hb : Below W.heap.size W W') : NbOut W' r := by
  rcases h with h | ⟨p, h, a1, a2, a3, a4⟩
  · exact .inl h
  · exact .inr ⟨p, h, a1, block_up a2 hb, own_below a3 hb, a4⟩
theorem NbIn.up (h : NbIn W r) (hb : Below W.heap.size W W') : NbIn W' r := by
  rcases h with h | ⟨p, h, a⟩
  · exact .inl h
  · exact .inr ⟨p, h, a.same hb⟩
theorem num_nb (h : NbOut W r) (n size : Int) : Calls Try.prog 29 #[r, .int .i64 n, .int .i64 size] W fun e w' => e = .returned (.tuple #[]) ∧ w' = W := by
  rcases h with rfl | ⟨p, rfl, h⟩
  · exact num_nil n size W
  · exact num_idle 0 p _ n size _ W h (.inl rfl)
theorem put_nb (h : NbOut W r) (x : Value) : Calls Try.prog 56 #[r, x] W fun e w' => e = .returned (.tuple #[]) ∧ w' = W := by
  rcases h with rfl | ⟨p, rfl, h⟩
  · exact put_nil x W
  · exact put_idle 0 p _ x _ W h (.inl rfl)
theorem text_nb (h : NbOut W r) (x : ByteArray) : Calls Try.prog 31 #[r, .string x] W fun e w' => e = .returned (.tuple #[]) ∧ Below W.heap.size W w' := by
  have hc := Lib.run_convert_string_bytes (P := Try.prog) W 9 49 5 x Try.underlying9 Try.underlying49 Try.underlying5
  have hb := below_bytes W 5 x
  have hW : ∃ W1, Lib.bytesWorld W 5 x = W1 := ⟨_, rfl⟩
  obtain ⟨W1, hW⟩ := hW
  rw [hW] at hc hb
  have hN := Lib.hid (And.intro hb (h.up hb)); clear hb hW h
  go_enter Try.func31, Try.ntmps31
  go_wp2_with fail
  refine (put_nb hN.out.2 _).mono ?_
  rintro e w1 ⟨rfl, rfl⟩
  go_wp2
  go_end0
  exact ⟨rfl, hN.out.1⟩
theorem pad_nb (h : NbOut W r) (size : Int) : Calls Try.prog 32 #[r, .int .i64 size] W fun e w' => e = .returned (.tuple #[]) ∧ w' = W := by
  rcases h with rfl | ⟨p, rfl, h⟩
  · exact pad_nil size W
  · have h2 := cell_block h.2.1 2
    simp at h2
    clear h
    go_enter Try.func32, Try.ntmps32
    go_wp2
    refine bodyPost_ret (results_none rfl _ _ _) rfl ⟨rfl, rfl⟩
theorem done_nb (h : NbOut W r) : Calls Try.prog 33 #[r] W fun e w' => e = .returned (.tuple #[.slice none 0 0, .int .i64 9]) ∧ w' = W := by
  rcases h with rfl | ⟨p, rfl, h⟩
  · exact done_nil W
  · exact done_idle 0 p _ _ W h rfl
theorem take_nb (h : NbIn W r) (n : Nat) : Calls Try.prog 59 #[r, .int .i64 n] W fun e w' => ∃ x, e = .returned x ∧ BRd w' x [] ∧ w' = W := by
  rcases h with rfl | ⟨p, rfl, h⟩
  · exact (take_nil n W).mono fun e w' ⟨h1, h2⟩ => ⟨_, h1, brd_nil _, h2⟩
  · exact (take_idle p _ _ n W h (.inl rfl)).mono fun e w' ⟨h1, h2⟩ => ⟨_, h1, brd_nil _, h2⟩
theorem innum_nb (h : NbIn W r) (size : Int) : Calls Try.prog 42 #[r, .int .i64 size] W fun e w' => e = .returned (.int .i64 0) ∧ w' = W :=
  innum_of r size [] (fun w' => w' = W) W (by simp) (take_nb h _)
theorem intext_nb (h : NbIn W r) (size : Int) (s2 : size ≤ 9223372036854775807) : Calls Try.prog 44 #[r, .int .i64 size] W fun e w' => e = .returned (.string ⟨#[]⟩) ∧ w' = W :=
  intext_of r size [] (fun w' => w' = W) W s2 (take_nb h _)
theorem left_nb (h : NbIn W r) : Calls Try.prog 45 #[r] W fun e w' => e = .returned (.int .i64 0) ∧ w' = W := by
  rcases h with rfl | ⟨p, rfl, h⟩
  · exact left_nil W
  · exact left_ok p _ _ W h
theorem err_nb (h : NbIn W r) : Calls Try.prog 46 #[r] W fun e w' => e = .returned (.int .i64 9) ∧ w' = W := by
  rcases h with rfl | ⟨p, rfl, h⟩
  · exact err_nil W
  · exact err_ok p _ _ W h
end
set_option maxHeartbeats 2000000 in
set_option maxRecDepth 100000 in
theorem nobody_walk (n : Int) (s : ByteArray) (w : World) (n1 : -9223372036854775808 ≤ n) (n2 : n ≤ 9223372036854775807) :
    Calls Try.prog 12 #[.int .i64 n, .string s] w fun e w' => e = .returned (.bool true) ∧ Below w.heap.size w w' := by
  go_enter Try.func12, Try.ntmps12
  go_wp2_with fail
  go_loopw [9] (fun vi W => ∃ k : Nat, k ≤ 2 ∧ vi = .int .i64 k ∧ Below w.heap.size w W ∧ NbOut W (.pointer (some ⟨w.heap.size, 0, none⟩)) ∧ NbIn W (.pointer (some ⟨w.heap.size + 1 + 1, 0, none⟩)) ∧
    W.cell? ⟨w.heap.size + 1, 0, none⟩ = some (.pointer none) ∧ W.cell? ⟨w.heap.size + 1, 1, none⟩ = some (.pointer (some ⟨w.heap.size, 0, none⟩)) ∧
    W.cell? ⟨w.heap.size + 1 + 1 + 1, 0, none⟩ = some (.pointer none) ∧ W.cell? ⟨w.heap.size + 1 + 1 + 1, 1, none⟩ = some (.pointer (some ⟨w.heap.size + 1 + 1, 0, none⟩))) (fun vi _ => 2 - (intOf vi).toNat)
  case atStart =>
    refine ⟨0, by omega, rfl, ?_, .inr ⟨_, rfl, Nat.zero_le _, ?_, ⟨rfl, .inl ⟨rfl, rfl⟩⟩, by decide, by decide, by decide⟩, .inr ⟨_, rfl, ?_, none, 0, rfl, Nat.le_refl _, Rd.nil _ _, fun _ h => by cases h⟩, ?_, ?_, ?_, ?_⟩
    · exact below_alloc (below_alloc (below_alloc (below_alloc1 _ _) _) _) _
    · exact alloc_old (alloc_old (alloc_old (alloc_at _ rfl) _) _) _
    · exact alloc_old (alloc_at _ (by simp)) _
    · rw [cell_block (alloc_old (alloc_old (alloc_at _ (by simp)) _) _)]; rfl
    · rw [cell_block (alloc_old (alloc_old (alloc_at _ (by simp)) _) _)]; rfl
    · rw [cell_block (alloc_at _ (by simp))]; rfl
    · rw [cell_block (alloc_at _ (by simp))]; rfl
  obtain ⟨k, hk, rfl, hbel, ho, hi, k1, k2, k3, k4⟩ := hrel
  by_cases hlt : k < 2
  · obtain ⟨r, hr, c1⟩ : ∃ r, NbOut wr r ∧ wr.cell? ⟨w.heap.size + 1, k, none⟩ = some r := by
      rcases (by omega : k = 0 ∨ k = 1) with rfl | rfl
      · exact ⟨_, .inl rfl, k1⟩
      · exact ⟨_, ho, k2⟩
    obtain ⟨q, hq, c2⟩ : ∃ r, NbIn wr r ∧ wr.cell? ⟨w.heap.size + 1 + 1 + 1, k, none⟩ = some r := by
      rcases (by omega : k = 0 ∨ k = 1) with rfl | rfl
      · exact ⟨_, .inl rfl, k3⟩
      · exact ⟨_, hi, k4⟩
    have H := Lib.hid (And.intro hr (And.intro hq (And.intro hbel (And.intro ho (And.intro hi (And.intro k1 (And.intro k2 (And.intro k3 k4)))))))); clear hr hq hbel ho hi k1 k2 k3 k4
    go_wp2_with fail
    refine (num_nb H.out.1 n n).mono ?_; rintro e w1 ⟨rfl, rfl⟩
    go_wp2_with fail
    refine (text_nb H.out.1 s).mono ?_; rintro e w2 ⟨rfl, hb⟩
    obtain ⟨hr, hq, hbel, ho, hi, k1, k2, k3, k4⟩ := H.out
    have d1 := cell_up c1 hb
    have d2 := cell_up c2 hb
    have H2 := Lib.hid (And.intro (hr.up hb) (And.intro (hq.up hb) (And.intro (below_up hbel hb) (And.intro (ho.up hb) (And.intro (hi.up hb) (And.intro (cell_up k1 hb) (And.intro (cell_up k2 hb) (And.intro (cell_up k3 hb) (cell_up k4 hb)))))))))
    clear hr hq hbel ho hi k1 k2 k3 k4 c1 c2 hb H
    go_wp2_with fail
    refine (pad_nb H2.out.1 n).mono ?_; rintro e w1 ⟨rfl, rfl⟩
    go_wp2_with fail
    refine (done_nb H2.out.1).mono ?_; rintro e w1 ⟨rfl, rfl⟩
    go_wp2_with fail
    refine (innum_nb H2.out.2.1 n).mono ?_; rintro e w1 ⟨rfl, rfl⟩
    go_wp2_with fail
    refine (intext_nb H2.out.2.1 n n2).mono ?_; rintro e w1 ⟨rfl, rfl⟩
    go_wp2_with fail
    refine (left_nb H2.out.2.1).mono ?_; rintro e w1 ⟨rfl, rfl⟩
    go_wp2_with fail
    refine (err_nb H2.out.2.1).mono ?_; rintro e w1 ⟨rfl, rfl⟩
    go_wp2_with fail
    exact ⟨⟨k + 1, by omega, by simp, H2.out.2.2⟩, by simp [intOf]; omega⟩
  · have hk2 : k = 2 := by omega
    subst hk2
    have H := Lib.hid hbel; clear hbel
    go_wp2_with fail
    refine (alive1_ok _).mono ?_; rintro e w1 ⟨rfl, hb⟩
    have H2 := Lib.hid (below_up H.out hb); clear hb
    go_wp2
    go_ret
    exact ⟨rfl, H2.out⟩
end Go.Proofs.Ytjikndfpkhgnkaa.Lt
