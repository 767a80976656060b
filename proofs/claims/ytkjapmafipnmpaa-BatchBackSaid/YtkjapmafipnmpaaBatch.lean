/- The walks over batch.flag, batch.Put, batch.Written. -/
import Derived.Test.YtkjapmafipnmpaaLio
import Derived.Test.YtkjapmafipnmpaaEnt
namespace Go.Proofs.Ytkjapmafipnmpaa.Bt
open Go.RowKit Lt
set_option linter.unusedVariables false
set_option linter.unusedSimpArgs false
def flagZ (b : Bool) : Int := if b then 1 else 0
theorem flagZ_bnd (b : Bool) : 0 ≤ flagZ b ∧ flagZ b ≤ 1 := by cases b <;> decide
theorem flag_ok (b : Bool) (w : World) : Calls Try.prog 74 #[.bool b] w fun e w' => e = .returned (.int .i64 (flagZ b)) ∧ w = w' := by
  cases b
  all_goals
    go_enter Try.func74, Try.ntmps74
    go_wp2
    go_ret
    exact ⟨rfl, rfl⟩
def putE (s : OutS) (l : List EntS) : OutS := l.foldl (fun s e => (s.num e.kind 1).num e.id 1) s
theorem putE_succ (s : OutS) (l : List EntS) (k : Nat) (h : k < l.length) : putE s (l.take (k + 1)) = ((putE s (l.take k)).num l[k].kind 1).num l[k].id 1 := by
  unfold putE
  rw [List.take_succ_eq_append_getElem h, List.foldl_append]; rfl
def putS (next : Int) (last : Bool) (n : Nat) : OutS := (((outNew 238).num next 1).num (flagZ last) 1).num n 1
def entB (l : List EntS) : List UInt8 := l.flatMap fun e => [UInt8.ofNat e.kind.toNat, UInt8.ofNat e.id.toNat]
def sumB (next : Int) (last : Bool) (l : List EntS) : List UInt8 := [UInt8.ofNat next.toNat, UInt8.ofNat (flagZ last).toNat, UInt8.ofNat l.length] ++ entB l
theorem entB_len (l : List EntS) : (entB l).length = 2 * l.length := by
  induction l with
  | nil => rfl
  | cons e l ih => rw [entB, List.flatMap_cons, List.length_append, ← entB, ih]; simp; omega
theorem putE_ok (l : List EntS) : ∀ (b : List UInt8), (∀ e ∈ l, e.odd = false) → b.length + 2 * l.length ≤ 238 → putE (outOk 238 b) l = outOk 238 (b ++ entB l) := by
  induction l with
  | nil => intro b _ _; simp [putE, entB]
  | cons e l ih =>
    intro b h hl
    simp only [List.length_cons] at hl
    obtain ⟨hk, i1, i2⟩ := EntS.odd_false (h e (by simp))
    obtain ⟨k, hk'⟩ := Int.eq_ofNat_of_zero_le (by omega : 0 ≤ e.kind)
    obtain ⟨i, hi'⟩ := Int.eq_ofNat_of_zero_le (by omega : 0 ≤ e.id)
    have e1 : (outOk 238 b).num e.kind 1 = outOk 238 (b ++ [UInt8.ofNat e.kind.toNat]) := by rw [hk']; exact outOk_byte k (by omega) (by omega)
    have e2 : (outOk 238 (b ++ [UInt8.ofNat e.kind.toNat])).num e.id 1 = outOk 238 (b ++ [UInt8.ofNat e.kind.toNat] ++ [UInt8.ofNat e.id.toNat]) := by rw [hi']; exact outOk_byte i (by omega) (by simp; omega)
    show putE (((outOk 238 b).num e.kind 1).num e.id 1) l = _
    rw [e1, e2, ih _ (fun x hx => h x (by simp [hx])) (by simp; omega)]
    simp [entB]
theorem chk_zero {next : Int} {l : List EntS} (h : chkSum next l = 0) : 0 ≤ next ∧ next ≤ 31 ∧ l.length ≤ 64 ∧ ∀ e ∈ l, e.odd = false := by
  unfold chkSum at h
  split at h
  · cases h
  · split at h
    · cases h
    · split at h
      · cases h
      · rename_i h1 h2 h3
        refine ⟨by omega, by omega, by omega, fun e he => ?_⟩
        cases hb : e.odd
        · rfl
        · exact absurd (List.any_eq_true.2 ⟨e, he, hb⟩) h3
theorem putS_ok {next : Int} {last : Bool} {l : List EntS} (h : chkSum next l = 0) : putE (putS next last l.length) l = outOk 238 (sumB next last l) := by
  obtain ⟨h1, h2, h3, h4⟩ := chk_zero h
  have hf := flagZ_bnd last
  obtain ⟨n, hn⟩ := Int.eq_ofNat_of_zero_le h1
  obtain ⟨z, hz⟩ := Int.eq_ofNat_of_zero_le hf.1
  have e0 : putS next last l.length = outOk 238 [UInt8.ofNat next.toNat, UInt8.ofNat (flagZ last).toNat, UInt8.ofNat l.length] := by
    unfold putS
    rw [outNew_ok 238 (by decide) (by decide), hn, outOk_byte n (by omega) (by simp), hz, outOk_byte z (by omega) (by simp), outOk_byte l.length (by omega) (by simp)]
    simp
  rw [e0, putE_ok l _ h4 (by simp; omega)]
  rfl
set_option maxHeartbeats 4000000 in
theorem put_yes (next : Int) (last : Bool) (v : Value) (l : List EntS) (w : World) (hv : ERd w v l) (hl : l.length ≤ 140737488355328) (hfine : ∀ e ∈ l, e.fine) (hc : chkSum next l = 0) :
    Calls Try.prog 38 #[.agg #[.int .i64 next, .bool last, v]] w fun e w' => ∃ x, e = .returned (.tuple #[x, .int .i64 0]) ∧ BRd w' x (sumB next last l) ∧ Below w.heap.size w w' := by
  have HV := Lib.hid hv
  obtain ⟨A, cap, rfl, _, _⟩ := hv
  obtain ⟨n1, n2, n3, _⟩ := chk_zero hc
  have hfl := flagZ_bnd last
  have HC := Lib.hid (And.intro hc (And.intro hfine (putS_ok (last := last) hc))); clear hc hfine
  go_enter Try.func38, Try.ntmps38
  go_wp2_with (first
    | (go_at_call 39; refine (check_ok next last _ l _ (HV.out.below (below_alloc1 _ _)) hl).mono ?_; rintro e w1 ⟨rfl, hb⟩; rw [HC.out.1]
       have hg := block_up (alloc_at (w := w) _ rfl) hb
       have H1 := Lib.hid (below_up (below_alloc1 w _) hb); clear hb)
    | (go_at_call 25; refine (new_w 238 _).mono ?_; rintro e w2 ⟨rfl, hO, hb⟩
       have hg := block_up hg hb
       obtain ⟨q0, q1, q2⟩ := cells3 hg
       clear hb)
    | (go_at_call 74; refine (flag_ok _ _).mono ?_; rintro e w9 ⟨rfl, rfl⟩)
    | (go_at_call 66; refine (OW.num (w0 := w1) (by assumption) _ _ (by omega) (by omega) (by decide) (by decide)).mono ?_; rintro e w3 ⟨rfl, hO, hK⟩
       have hg := hK.2 _ _ _ _ hg (by decide) (by decide)
       obtain ⟨q0, q1, q2⟩ := cells3 hg
       clear hK))
  have hO' : OW w1 w3 w1.heap.size (putS next last l.length) := hO
  go_loopw [31] (fun vi W => ∃ k : Nat, k ≤ l.length ∧ vi = .int .i64 k ∧ OW w1 W w1.heap.size (putE (putS next last l.length) (l.take k)) ∧ W.heap[w.heap.size]? = some (.cells #[.int .i64 next, .bool last, .slice A l.length cap] 73 (0, 0))) (fun vi _ => l.length - (intOf vi).toNat)
  case atStart => exact ⟨0, by omega, rfl, by simpa [putE] using hO', hg⟩
  clear q0 q1 q2 hg hO hO'
  obtain ⟨k, hk, rfl, hO, hg⟩ := hrel
  have HB := Lib.hid (below_up H1.out hO.bel)
  by_cases hlt : k < l.length
  · have d : decide ((k : Int) < l.length) = true := decide_eq_true (by omega)
    obtain ⟨g, o, rfl, _, hcc⟩ := HV.out.get EntS.cells_len (by decide) hlt
    have c0 := cell_up (hcc 0 (by decide)) HB.out
    have c1 := cell_up (hcc 1 (by decide)) HB.out
    have hs := putE_succ (putS next last l.length) l k hlt
    have hfx := HC.out.2.1 _ (List.getElem_mem hlt)
    clear hcc
    generalize l[k] = x at *
    simp only [Nat.add_zero, EntS.cells] at c0 c1
    obtain ⟨⟨f1, f2⟩, f3, f4⟩ := hfx
    have HS := Lib.hid hs; clear hs
    have hOa := hO.up (below_alloc1 wr (.cells #[.int .i64 x.kind, .int .i64 x.id] 76))
    have hga := alloc_old hg (.cells #[.int .i64 x.kind, .int .i64 x.id] 76)
    have hxa := alloc_at (w := wr) (.cells #[.int .i64 x.kind, .int .i64 x.id] 76) rfl
    go_wp2_with (go_at_call 66; refine (OW.num (w0 := w1) (by assumption) _ _ (by omega) (by omega) (by decide) (by decide)).mono ?_; rintro e w3 ⟨rfl, hO, hK⟩
                 have hga := hK.2 _ _ _ _ hga (by decide) (by decide)
                 have hxa := hK.2 _ _ _ _ hxa (by decide) (by decide)
                 obtain ⟨y0, y1⟩ := cells2 hxa
                 clear hK)
    exact ⟨⟨k + 1, by omega, by simp, by rw [HS.out]; exact hO, hga⟩, by simp [intOf]; omega⟩
  · have hkl : k = l.length := by omega
    subst hkl
    have d : decide ((l.length : Int) < l.length) = false := decide_eq_false (by omega)
    rw [List.take_length, HC.out.2.2] at hO
    go_wp2_with (go_at_call 27; refine (hO.done rfl).mono ?_; rintro e w4 ⟨x, b, rfl, hbb, hx, hb⟩
                 rw [show (outOk 238 (sumB next last l)).err = 0 from rfl] at *
                 have H4 := Lib.hid (And.intro hbb (And.intro hx (below_up HB.out hb))); clear hbb hx hb)
    go_ret2
    exact ⟨_, rfl, by have := H4.out.2.1; rw [H4.out.1] at this; exact this, H4.out.2.2⟩
theorem put_no (next : Int) (last : Bool) (v : Value) (l : List EntS) (w : World) (hv : ERd w v l) (hl : l.length ≤ 140737488355328) (hc : chkSum next l ≠ 0) :
    Calls Try.prog 38 #[.agg #[.int .i64 next, .bool last, v]] w fun e w' => e = .returned (.tuple #[.slice none 0 0, .int .i64 (chkSum next l)]) ∧ Below w.heap.size w w' := by
  have HV := Lib.hid hv
  obtain ⟨A, cap, rfl, _, _⟩ := hv
  have hch := check_ok next last (.slice A l.length cap) l (w.alloc (.cells #[.int .i64 next, .bool last, .slice A l.length cap] 73)) (HV.out.below (below_alloc1 _ _)) hl
  generalize chkSum next l = c at *
  have HC := Lib.hid hch; clear hch
  have e1 : (c != 0) = true := by simpa using hc
  clear hc
  go_enter Try.func38, Try.ntmps38
  go_wp2_with (go_at_call 39; refine HC.out.mono ?_; rintro e w1 ⟨rfl, hb⟩; have H1 := Lib.hid (below_up (below_alloc1 w _) hb); clear hb)
  go_ret2
  exact ⟨rfl, H1.out⟩
theorem put_any (next : Int) (last : Bool) (v : Value) (l : List EntS) (w : World) (hv : ERd w v l) (hl : l.length ≤ 140737488355328) (hfine : ∀ e ∈ l, e.fine) :
    Calls Try.prog 38 #[.agg #[.int .i64 next, .bool last, v]] w fun e w' =>
      ∃ x, e = .returned (.tuple #[x, .int .i64 (chkSum next l)]) ∧ BRd w' x (if chkSum next l = 0 then sumB next last l else []) ∧ Below w.heap.size w w' := by
  by_cases h : chkSum next l = 0
  · rw [if_pos h, h]; exact put_yes next last v l w hv hl hfine h
  · rw [if_neg h]
    exact (put_no next last v l w hv hl h).mono fun e w' ⟨h1, h2⟩ => ⟨_, h1, brd_nil _, h2⟩
/-- How many are written. -/
def wrt (l : List EntS) : Nat := (l.filter fun e => e.kind == 1).length
theorem wrt_succ (l : List EntS) (k : Nat) (h : k < l.length) : wrt (l.take (k + 1)) = wrt (l.take k) + if l[k].kind = 1 then 1 else 0 := by
  unfold wrt
  rw [List.take_succ_eq_append_getElem h, List.filter_append, List.length_append]
  congr 1
  by_cases e : l[k].kind = 1
  · simp [e]
  · simp [e]
theorem wrt_le (l : List EntS) : wrt l ≤ l.length := List.length_filter_le _ _
set_option maxHeartbeats 1000000 in
theorem written_ok (next : Int) (last : Bool) (v : Value) (l : List EntS) (w : World) (hv : ERd w v l) (hl : l.length ≤ 140737488355328) :
    Calls Try.prog 40 #[.agg #[.int .i64 next, .bool last, v]] w fun e w' => e = .returned (.int .i64 (wrt l)) ∧ Below w.heap.size w w' := by
  have HV := Lib.hid hv
  obtain ⟨A, cap, rfl, _, _⟩ := hv
  go_enter Try.func40, Try.ntmps40
  go_wp2_with fail
  go_loopw [3, 9] (fun vn vi W => ∃ k : Nat, k ≤ l.length ∧ vi = .int .i64 k ∧ vn = .int .i64 (wrt (l.take k)) ∧ Below w.heap.size w W) (fun _ vi _ => l.length - (intOf vi).toNat)
  case atStart => exact ⟨0, by omega, rfl, rfl, below_alloc1 _ _⟩
  obtain ⟨k, hk, rfl, rfl, hbel⟩ := hrel
  have HB := Lib.hid hbel; clear hbel
  by_cases hlt : k < l.length
  · have d : decide ((k : Int) < l.length) = true := decide_eq_true (by omega)
    obtain ⟨g, o, rfl, _, hcc⟩ := HV.out.get EntS.cells_len (by decide) hlt
    have c0 := cell_up (hcc 0 (by decide)) HB.out
    have c1 := cell_up (hcc 1 (by decide)) HB.out
    have hs := wrt_succ l k hlt
    have hle := wrt_le (l.take k)
    rw [List.length_take] at hle
    clear hcc
    generalize l[k] = x at *
    simp only [Nat.add_zero, EntS.cells] at c0 c1
    by_cases hx : x.kind = 1
    · have e1 : (x.kind == 1) = true := by simpa using hx
      rw [if_pos hx] at hs
      have HS := Lib.hid hs; clear hs hx
      go_wp2
      exact ⟨⟨k + 1, by omega, by simp, by rw [HS.out]; simp, below_alloc HB.out _⟩, by simp [intOf]; omega⟩
    · have e1 : (x.kind == 1) = false := by simpa using hx
      rw [if_neg hx] at hs
      have HS := Lib.hid hs; clear hs hx
      go_wp2
      exact ⟨⟨k + 1, by omega, by simp, by rw [HS.out]; simp, below_alloc HB.out _⟩, by simp [intOf]; omega⟩
  · have hkl : k = l.length := by omega
    subst hkl
    have d : decide ((l.length : Int) < l.length) = false := decide_eq_false (by omega)
    go_wp2
    go_ret
    exact ⟨ret_int (by rw [List.take_length]), HB.out⟩
end Go.Proofs.Ytkjapmafipnmpaa.Bt
