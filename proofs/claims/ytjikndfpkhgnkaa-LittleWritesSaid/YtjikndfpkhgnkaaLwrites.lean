/- The walk over LittleWrites. -/
import Derived.Test.YtjikndfpkhgnkaaLreads
namespace Go.Proofs.Ytjikndfpkhgnkaa.Lt
open Go.RowKit
set_option linter.unusedVariables false
set_option linter.unusedSimpArgs false
/-- An Out in its room: what was written, and the error. -/
def wS (room : Int) (want : Int) (all : List UInt8) : OutS := ⟨room, true, want, all⟩
/-- What the law reckons for one field: the error ahead of the room, the octets. -/
def fErr (want : Int) (f : FieldS) : Int := if f.kind % 3 = 0 ∧ want = 0 ∧ (f.n < 0 ∨ (256 : Int) ^ sz f.size ≤ f.n) then 4 else want
def rErr (room want : Int) (all bs : List UInt8) : Int := if want = 0 ∧ (bs.length : Int) > room - all.length then 10 else want
def rAll (want : Int) (all bs : List UInt8) : List UInt8 := if want = 0 then all ++ bs else all
/-- One field written, whatever its kind: b's octets are the law's. -/
theorem wS_num (room want : Int) (all bs : List UInt8) (f : FieldS) (hk : f.kind % 3 = 0) (hb : 0 ≤ f.n → bs = numB (sz f.size) f.n.toNat) (hw : want = 0 → True) (h : want = 0 ∨ want ≠ 0) :
    (wS room want all).num f.n f.size = wS room (rErr room (fErr want f) all bs) (rAll (rErr room (fErr want f) all bs) all bs) := by
  unfold OutS.num fErr
  by_cases h0 : want = 0
  · subst h0
    have e0 : ¬ ((wS room 0 all).made = false ∨ (wS room 0 all).err ≠ 0) := by simp [wS]
    rw [if_neg e0]
    by_cases hbad : f.n < 0 ∨ (256 : Int) ^ sz f.size ≤ f.n
    · rw [if_pos hbad, if_pos ⟨hk, rfl, hbad⟩]
      simp [rErr, rAll, wS]
    · have hn : 0 ≤ f.n := by omega
      rw [if_neg hbad, if_neg (fun h => hbad h.2.2), ← hb hn]
      unfold OutS.put
      rw [if_neg e0]
      by_cases hr : (bs.length : Int) > room - all.length
      · rw [if_pos (show (bs.length : Int) > (wS room 0 all).room - (wS room 0 all).b.length from hr)]
        simp [rErr, rAll, wS, hr]
      · rw [if_neg (show ¬ (bs.length : Int) > (wS room 0 all).room - (wS room 0 all).b.length from hr)]
        simp [rErr, rAll, wS, hr]
  · have e0 : (wS room want all).made = false ∨ (wS room want all).err ≠ 0 := .inr h0
    rw [if_pos e0, if_neg (fun h => h0 h.2.1)]
    simp [rErr, rAll, wS, h0]
theorem wS_put (room want : Int) (all bs : List UInt8) (f : FieldS) (hk : f.kind % 3 ≠ 0) :
    (wS room want all).put bs = wS room (rErr room (fErr want f) all bs) (rAll (rErr room (fErr want f) all bs) all bs) := by
  have hf : fErr want f = want := by unfold fErr; rw [if_neg (fun h => hk h.1)]
  rw [hf]
  unfold OutS.put
  by_cases h0 : want = 0
  · subst h0
    have e0 : ¬ ((wS room 0 all).made = false ∨ (wS room 0 all).err ≠ 0) := by simp [wS]
    rw [if_neg e0]
    by_cases hr : (bs.length : Int) > room - all.length
    · rw [if_pos (show (bs.length : Int) > (wS room 0 all).room - (wS room 0 all).b.length from hr)]
      simp [rErr, rAll, wS, hr]
    · rw [if_neg (show ¬ (bs.length : Int) > (wS room 0 all).room - (wS room 0 all).b.length from hr)]
      simp [rErr, rAll, wS, hr]
  · have e0 : (wS room want all).made = false ∨ (wS room want all).err ≠ 0 := .inr h0
    rw [if_pos e0]
    simp [rErr, rAll, wS, h0]
/-- Filled up: the law's 70000 octets at most do as much as Pad's 65537. -/
def padL (size : Int) (all : List UInt8) : List UInt8 := if size > all.length ∧ size - all.length > 70000 then List.replicate 70000 0 else if size > all.length then List.replicate (size - all.length).toNat 0 else []
theorem wS_pad (room want : Int) (all : List UInt8) (f : FieldS) (hk : f.kind % 3 ≠ 0) (r0 : 0 ≤ room) (r1 : room ≤ 65536) (ha : (all.length : Int) ≤ room) :
    (wS room want all).pad f.size = wS room (rErr room (fErr want f) all (padL f.size all)) (rAll (rErr room (fErr want f) all (padL f.size all)) all (padL f.size all)) := by
  rw [← wS_put room want all (padL f.size all) f hk]
  unfold OutS.pad
  by_cases h0 : f.size ≤ all.length
  · have hp : padL f.size all = [] := by unfold padL; rw [if_neg (by omega), if_neg (by omega)]
    rw [hp, if_pos (.inr (show f.size ≤ ((wS room want all).b.length : Int) from h0))]
    unfold OutS.put
    by_cases h1 : (wS room want all).made = false ∨ (wS room want all).err ≠ 0
    · rw [if_pos h1]
    · rw [if_neg h1, if_neg (by show ¬ (([] : List UInt8).length : Int) > room - all.length; simp; omega)]
      simp
  · have e0 : ¬ ((wS room want all).made = false ∨ f.size ≤ ((wS room want all).b.length : Int)) := by
      rintro (h | h)
      · cases h
      · exact h0 h
    rw [if_neg e0]
    show (wS room want all).put (List.replicate (min (f.size - all.length).toNat 65537) 0) = _
    by_cases h2 : f.size - all.length > 65536
    · have hx : ∀ l : List UInt8, (l.length : Int) > 65536 → (wS room want all).put l = if want = 0 then { wS room want all with err := 10 } else wS room want all := by
        intro l hl
        unfold OutS.put
        by_cases h1 : want = 0
        · rw [if_neg (by simp [wS, h1]), if_pos (by show (l.length : Int) > room - all.length; omega), if_pos h1]
        · rw [if_pos (.inr h1), if_neg h1]
      have hy : (padL f.size all).length > 65536 := by
        unfold padL
        by_cases h3 : f.size - all.length > 70000
        · rw [if_pos ⟨by omega, h3⟩, List.length_replicate]; omega
        · rw [if_neg (fun h => h3 h.2), if_pos (by omega), List.length_replicate]; omega
      rw [hx _ (by rw [List.length_replicate]; omega), hx _ (by omega)]
    · have hp : padL f.size all = List.replicate (f.size - all.length).toNat 0 := by unfold padL; rw [if_neg (fun h => h2 (by omega)), if_pos (by omega)]
      rw [hp, show min (f.size - all.length).toNat 65537 = (f.size - all.length).toNat by omega]

def WAt (w W : World) (p : Nat) (va v : Value) (all : List UInt8) (s : OutS) : Prop :=
  W.ownsRow w.heap.size 5 1 va all.length (bv all) ∧ OutAt w.heap.size W p v s ∧ (∀ g, va.ownBlock = some g → v.ownBlock ≠ some g) ∧ Below w.heap.size w W
theorem WAt.up {w W W' : World} {p : Nat} {va v : Value} {all : List UInt8} {s : OutS} (h : WAt w W p va v all s) (hb : Below W.heap.size W W') : WAt w W' p va v all s := by
  obtain ⟨h1, ⟨a1, a2, a3, a4⟩, h3, h4⟩ := h
  exact ⟨own_below h1 hb, ⟨a1, block_up a2 hb, own_below a3 hb, a4⟩, h3, below_up h4 hb⟩
theorem WAt.out {w W W' : World} {p : Nat} {va v : Value} {all : List UInt8} {s s' : OutS} (h : WAt w W p va v all s) (ht : OutTo w.heap.size W p v s' W') : ∃ v', WAt w W' p va v' all s' := by
  obtain ⟨h1, h2, h3, h4⟩ := h
  have hb := OutTo.below rfl h4 h2 ht
  obtain ⟨v', k1, k2, k3⟩ := ht
  have hne := own_ne_block h1 h2.2.1 (by decide)
  refine ⟨v', own_fr h1 k2 (fun k hk hs => ?_), k1, fun g hg => ?_, hb⟩
  · rcases hs with rfl | hs
    · exact hne hk
    · exact h3 k hk hs
  · rcases k3 with k3 | ⟨b, k3, k4⟩
    · rw [k3]; exact h3 g hg
    · rw [k3]
      intro e
      injection e with e
      have := own_lt h1 g hg
      omega
theorem WAt.grow {w W W' : World} {p : Nat} {va v va' : Value} {all all' : List UInt8} {s : OutS} (h : WAt w W p va v all s) (hg : W.grownBy W' va.ownBlock) (ho : W'.ownsRow w.heap.size 5 1 va' all'.length (bv all'))
    (hat : va'.ownBlock = va.ownBlock ∨ va'.ownBlock = some W.heap.size) : WAt w W' p va' v all' s := by
  obtain ⟨h1, h2, h3, h4⟩ := h
  have hne := own_ne_block h1 h2.2.1 (by decide)
  have hb : Below w.heap.size w W' := below_grown h4 hg (fun k hk => own_base h1 k hk)
  obtain ⟨a1, a2, a3, a4⟩ := h2
  have hpl := (Array.getElem?_eq_some_iff.1 a2).1
  refine ⟨ho, ⟨a1, (hg.block p hpl (fun e => hne e.symm)).trans a2, own_move a3 (fun k hk => hg.block k (own_lt a3 k hk) (fun e => h3 k e.symm hk)), a4⟩, fun g hg' => ?_, hb⟩
  rcases hat with hat | hat
  · exact h3 g (hat ▸ hg')
  · rw [hat] at hg'
    injection hg' with hg'
    subst hg'
    intro e
    exact absurd (own_lt a3 _ e) (Nat.lt_irrefl _)
theorem refnum_any (n : Int) (size : Nat) (w : World) (n1 : -9223372036854775808 ≤ n) (n2 : n ≤ 9223372036854775807) (hs : size ≤ 1000000) :
    Calls Try.prog 30 #[.int .i64 n, .int .i64 size] w fun e w' => ∃ v l, e = .returned v ∧ l.length = size ∧ (0 ≤ n → l = numB size n.toNat) ∧ Below w.heap.size w w' ∧ w'.ownsRow w.heap.size 5 1 v size (bv l) := by
  by_cases h0 : 0 ≤ n
  · obtain ⟨N, rfl⟩ := Int.eq_ofNat_of_zero_le h0
    exact (refnum_pos N size w (by omega) hs).mono fun e w' ⟨v, h1, h2, h3⟩ => ⟨v, _, h1, numB_length _ _, fun _ => by simp, h2, h3⟩
  · exact (refnum_neg n size w (by omega) n1 hs).mono fun e w' ⟨v, l, h1, h2, h3, h4⟩ => ⟨v, l, h1, h2, fun h => absurd h h0, h3, h4⟩
theorem wrap_pow {S : Nat} (h : S ≤ 6) : wrap64 (2 ^ (8 * S)) = (256 : Int) ^ S := by
  rcases (by omega : S = 0 ∨ S = 1 ∨ S = 2 ∨ S = 3 ∨ S = 4 ∨ S = 5 ∨ S = 6) with rfl | rfl | rfl | rfl | rfl | rfl | rfl <;> decide +kernel
set_option maxHeartbeats 4000000 in
set_option maxRecDepth 100000 in
theorem writes_walk (room : Int) (vl : Value) (F : List FieldS) (w : World) (m1 : -9223372036854775808 ≤ room) (m2 : room ≤ 9223372036854775807) (hF : FieldsAt w vl F) :
    Calls Try.prog 6 #[.int .i64 room, vl] w fun e w' => e = .returned (.bool true) ∧ Below w.heap.size w w' := by
  have hB := Lib.hid hF
  obtain ⟨A1, c1, rfl, hFl, _, _⟩ := hF
  obtain ⟨R, hR⟩ : ∃ R : Int, R = if room < 0 then 0 else if 65536 < room then 65536 else room := ⟨_, rfl⟩
  have hR0 : 0 ≤ R ∧ R ≤ 65536 := by rw [hR]; (repeat' split) <;> omega
  have hnew : outNew room = wS R 0 [] := by unfold outNew wS; rw [hR]
  have HR := Lib.hid hR; clear hR
  go_enter Try.func6, Try.ntmps6
  go_wp2_with fail
  refine (alive1_ok w).mono ?_; rintro e w1 ⟨rfl, hb1⟩
  have H1 := Lib.hid hb1
  have hz1 := hb1.size
  clear hb1
  go_wp2_with fail
  refine (new_ok w.heap.size room w1 hz1).mono ?_; rintro e w2 ⟨rfl, hb2, ha2⟩
  rw [hnew] at ha2
  have H2 := Lib.hid (show WAt w w2 w1.heap.size (.slice none 0 0) (.slice none 0 0) [] (wS R 0 []) from ⟨⟨rfl, .inl ⟨rfl, rfl⟩⟩, ha2, fun g hg => by simp [Value.ownBlock] at hg, below_up H1.out hb2⟩); clear ha2 hb2 hnew
  generalize w1.heap.size = p at *
  clear hz1
  go_upto_region 4 with (fail)
  go_cut [0] (fun v0 wx => wx = w2 ∧ v0 = .int .i64 R)
  case first =>
    have hRR := HR.out
    by_cases r1 : room < 0
    · rw [if_pos r1] at hRR
      go_wp2
      go_meet
      case rel => exact ⟨rfl, by rw [HR.out, if_pos r1]⟩
    · by_cases r2 : 65536 < room
      · clear hRR
        go_wp2
        go_meet
        case rel => exact ⟨rfl, by rw [HR.out, if_neg (by omega), if_pos r2]⟩
      · clear hRR
        go_wp2
        go_meet
        case rel => exact ⟨rfl, by rw [HR.out, if_neg (by omega), if_neg (by omega)]⟩
  case rest =>
  obtain ⟨hw, rfl⟩ := hcut
  replace hw := hw.symm; subst hw
  go_wp2_with fail
  go_loopw [6, 7, 8] (fun va vwant vi W => ∃ (k : Nat) (want : Int) (all : List UInt8) (v : Value), vi = .int .i64 k ∧ k ≤ F.length ∧ k ≤ 30 ∧ vwant = .int .i64 want ∧ (want = 0 ∨ want = 4 ∨ want = 10) ∧ WAt w W p va v all (wS R want all)) (fun _ _ vi _ => 30 - (intOf vi).toNat)
  case atStart => exact ⟨0, 0, [], _, rfl, by omega, by omega, rfl, .inl rfl, H2.out⟩
  obtain ⟨k, want, all, v, rfl, hk, hk30, rfl, hwant, hW⟩ := hrel
  obtain ⟨A0, c0, rfl, hc0, _, _, _⟩ := own_rd hW.1
  by_cases hlt : k < F.length ∧ k < 30
  · have d1 : decide ((k : Int) < F.length) = true := decide_eq_true (by omega)
    have d2 : decide ((k : Int) < 30) = true := decide_eq_true (by omega)
    obtain ⟨g, o, rfl, hfine, f0, f1, f2, f3⟩ := hB.out.get hlt.1
    have hbel := hW.2.2.2
    have g0 := cell_up f0 hbel
    have g1 := cell_up f1 hbel
    have g2 := cell_up f2 hbel
    have g3 := cell_up f3 hbel
    have hal : (all.length : Int) ≤ R := hW.2.1.2.2.2.2.2
    generalize F[k] = f at *
    obtain ⟨⟨a1, a2⟩, ⟨a3, a4⟩, ⟨a5, a6⟩, a7⟩ := hfine
    have H := Lib.hid (And.intro hwant hW); clear hwant hW hbel f0 f1 f2 f3
    go_upto_region 12 with (fail)
    have hbf := below_alloc1 wr (.cells #[.int .i64 f.kind, .int .i64 f.n, .int .i64 f.size, .string f.s] 52)
    have q := alloc_at (.cells #[.int .i64 f.kind, .int .i64 f.n, .int .i64 f.size, .string f.s] 52) (rfl : wr.heap.size = wr.heap.size)
    have q0 : (wr.alloc (.cells #[.int .i64 f.kind, .int .i64 f.n, .int .i64 f.size, .string f.s] 52)).cell? ⟨wr.heap.size, 0, none⟩ = some (.int .i64 f.kind) := cell_block q 0
    have q1 : (wr.alloc (.cells #[.int .i64 f.kind, .int .i64 f.n, .int .i64 f.size, .string f.s] 52)).cell? ⟨wr.heap.size, 1, none⟩ = some (.int .i64 f.n) := cell_block q 1
    have q2 : (wr.alloc (.cells #[.int .i64 f.kind, .int .i64 f.n, .int .i64 f.size, .string f.s] 52)).cell? ⟨wr.heap.size, 2, none⟩ = some (.int .i64 f.size) := cell_block q 2
    have q3 : (wr.alloc (.cells #[.int .i64 f.kind, .int .i64 f.n, .int .i64 f.size, .string f.s] 52)).cell? ⟨wr.heap.size, 3, none⟩ = some (.string f.s) := cell_block q 3
    clear q g0 g1 g2 g3
    generalize (wr.alloc (.cells #[.int .i64 f.kind, .int .i64 f.n, .int .i64 f.size, .string f.s] 52)) = wf at *
    have hWf := H.out.2.up hbf
    have hq : w.heap.size ≤ wr.heap.size := H.out.2.2.2.2.size
    have hwant := H.out.1
    have hpQ : p < wr.heap.size := (Array.getElem?_eq_some_iff.1 H.out.2.2.1.2.1).1
    have hvQ := own_lt H.out.2.2.1.2.2.1
    have HV := Lib.hid hvQ
    clear hbf H hvQ
    generalize wr.heap.size = Q at *
    have hS2 := sz_le f.size
    have hcase : f.size < 1 ∧ sz f.size = 1 ∨ 6 < f.size ∧ sz f.size = 6 ∨ f.size = (sz f.size : Nat) ∧ 1 ≤ sz f.size := by unfold sz; (repeat' split) <;> omega
    generalize hSS : sz f.size = S at *
    have HSZ := Lib.hid hSS; clear hSS
    have HC := Lib.hid hcase; clear hcase
    have HW := Lib.hid (And.intro hwant hWf); clear hwant hWf
    go_cut [11] (fun v11 wx => wx = wf ∧ v11 = .int .i64 (S : Nat))
    case first =>
      rcases HC.out with ⟨c, c'⟩ | ⟨c, c'⟩ | ⟨c, c'⟩
      · go_wp2
        go_meet
        case rel => exact ⟨rfl, by rw [c']; rfl⟩
      · go_wp2
        go_meet
        case rel => exact ⟨rfl, by rw [c']; rfl⟩
      · rw [c] at q2
        go_wp2
        go_meet
        case rel => exact ⟨rfl, rfl⟩
    case rest =>
    obtain ⟨hw, rfl⟩ := hcut
    replace hw := hw.symm; subst hw
    go_upto_region 13 with (fail)
    go_cut [40] (fun v40 W => v40 = .int .i64 (f.kind % 3) ∧ Below wf.heap.size wf W)
    case first =>
      go_wp2_with fail
      refine (kind_ok f.kind f.n f.size f.s wf a1 a2).mono ?_; rintro e w3 ⟨rfl, hb3⟩
      have HJ := Lib.hid hb3; clear hb3
      go_wp2_with fail
      go_meet
      case rel => exact ⟨rfl, HJ.out⟩
    case rest =>
    obtain ⟨rfl, hb3⟩ := hcut
    obtain ⟨w3, hw3⟩ : ∃ x, x = wc := ⟨_, rfl⟩
    subst hw3
    go_step
    go_cut [7, 10] (fun v7 v10 W => ∃ bs v', v7 = .int .i64 (fErr want f) ∧ BRd W v10 bs ∧ bs.length ≤ 140737488351232 ∧ WAt w W p (.slice A0 all.length c0) v' all (wS R (rErr R (fErr want f) all bs) (rAll (rErr R (fErr want f) all bs) all bs)))
    case first =>
      have r0 := cell_up q0 hb3
      have r1 := cell_up q1 hb3
      have r2 := cell_up q2 hb3
      have r3 := cell_up q3 hb3
      have HJ := Lib.hid (HW.out.2.up hb3)
      clear hb3 q0 q1 q2 q3
      rcases (by omega : f.kind % 3 = 0 ∨ f.kind % 3 = 1 ∨ f.kind % 3 = 2) with hk0 | hk0 | hk0
      · have HK0 := Lib.hid hk0; clear hk0
        have d : (f.kind % 3 == 0) = true := by rw [HK0.out]; rfl
        go_wp2_with fail
        refine (num_ok w.heap.size p v f.n f.size _ w3 HJ.out.2.1 a3 a4 a5 a6).mono ?_; rintro e w4 ⟨rfl, ht⟩
        have hb4 := HJ.out.out ht
        obtain ⟨v4, hW4⟩ := hb4
        obtain ⟨_, _, hfr, _⟩ := ht
        have s1 := cell_fr r1 hfr (by rintro (h | h); · exact absurd h (by show Q ≠ p; omega)
                                      · exact absurd (HV.out _ h) (Nat.lt_irrefl _))
        have hWl : ∀ l, (0 ≤ f.n → l = numB S f.n.toNat) → WAt w w4 p (.slice A0 all.length c0) v4 all (wS R (rErr R (fErr want f) all l) (rAll (rErr R (fErr want f) all l) all l)) := fun l hl => by
          rw [← wS_num R want all l f HK0.out (by rw [HSZ.out]; exact hl) (fun _ => trivial) (Classical.em _)]
          exact hW4
        have HX := Lib.hid hWl; clear hWl hW4 hfr r0 r1 r2 r3
        have hwp := wrap_pow hS2
        by_cases e0 : want = 0
        · subst e0
          by_cases hn0 : f.n < 0
          · have hF : fErr 0 f = 4 := by unfold fErr; rw [if_pos ⟨HK0.out, rfl, .inl hn0⟩]
            have HF := Lib.hid hF; clear hF
            go_wp2_with fail
            refine (refnum_any f.n S w4 a3 a4 (by omega)).mono ?_; rintro e w5 ⟨vb, l, rfl, hl5, hn5, hb5, ho5⟩
            have HY := Lib.hid (And.intro (brd_own ho5) ((HX.out l hn5).up hb5)); clear hn5 hb5 ho5
            go_wp2_with fail
            go_meet
            case rel => exact ⟨l, v4, by rw [HF.out], HY.out.1, by omega, HY.out.2⟩
          · by_cases hn1 : (256 : Int) ^ S ≤ f.n
            · have hF : fErr 0 f = 4 := by unfold fErr; rw [if_pos ⟨HK0.out, rfl, .inr (by rw [HSZ.out]; exact hn1)⟩]
              have HF := Lib.hid hF; clear hF
              go_wp2_with fail
              refine (refnum_any f.n S w4 a3 a4 (by omega)).mono ?_; rintro e w5 ⟨vb, l, rfl, hl5, hn5, hb5, ho5⟩
              have HY := Lib.hid (And.intro (brd_own ho5) ((HX.out l hn5).up hb5)); clear hn5 hb5 ho5
              go_wp2_with fail
              go_meet
              case rel => exact ⟨l, v4, by rw [HF.out], HY.out.1, by omega, HY.out.2⟩
            · have hF : fErr 0 f = 0 := by
                unfold fErr; rw [if_neg]
                rintro ⟨_, _, h | h⟩
                · exact hn0 h
                · rw [HSZ.out] at h; exact hn1 h
              have HF := Lib.hid hF; clear hF
              go_wp2_with fail
              refine (refnum_any f.n S w4 a3 a4 (by omega)).mono ?_; rintro e w5 ⟨vb, l, rfl, hl5, hn5, hb5, ho5⟩
              have HY := Lib.hid (And.intro (brd_own ho5) ((HX.out l hn5).up hb5)); clear hn5 hb5 ho5
              go_wp2_with fail
              go_meet
              case rel => exact ⟨l, v4, by rw [HF.out], HY.out.1, by omega, HY.out.2⟩
        · have hF : fErr want f = want := by unfold fErr; rw [if_neg (fun h => e0 h.2.1)]
          have HF := Lib.hid hF; clear hF
          go_wp2_with fail
          refine (refnum_any f.n S w4 a3 a4 (by omega)).mono ?_; rintro e w5 ⟨vb, l, rfl, hl5, hn5, hb5, ho5⟩
          have HY := Lib.hid (And.intro (brd_own ho5) ((HX.out l hn5).up hb5)); clear hn5 hb5 ho5
          go_wp2_with fail
          go_meet
          case rel => exact ⟨l, v4, by rw [HF.out], HY.out.1, by omega, HY.out.2⟩
      · have HK0 := Lib.hid hk0; clear hk0
        have d : (f.kind % 3 == 0) = false := by rw [HK0.out]; rfl
        have d' : (f.kind % 3 == 1) = true := by rw [HK0.out]; rfl
        go_wp2_with fail
        refine (text_ok w.heap.size p v f.s _ w3 HJ.out.2.1 (by omega)).mono ?_; rintro e w4 ⟨rfl, ht⟩
        obtain ⟨v4, hW4⟩ := HJ.out.out ht
        obtain ⟨_, _, hfr, _⟩ := ht
        have s3 := cell_fr r3 hfr (by rintro (h | h); · exact absurd h (by show Q ≠ p; omega)
                                      · exact absurd (HV.out _ h) (Nat.lt_irrefl _))
        have hc := Lib.run_convert_string_bytes (P := Try.prog) w4 9 49 5 f.s Try.underlying9 Try.underlying49 Try.underlying5
        have hb := below_bytes w4 5 f.s
        have hrd := brd_bytes w4 5 f.s
        generalize Lib.bytesWorld w4 5 f.s = w5 at *
        have hW5 := hW4.up hb
        rw [wS_put R want all f.s.data.toList f (by have := HK0.out; omega)] at hW5
        have HX := Lib.hid (And.intro hrd hW5); clear hW4 hW5 hfr hb hrd r0 r1 r2 r3
        go_wp2_with fail
        go_meet
        case rel => exact ⟨f.s.data.toList, v4, by unfold fErr; rw [if_neg (fun h => by have := HK0.out; omega)], HX.out.1, by rw [Array.length_toList]; exact a7, HX.out.2⟩
      · have HK0 := Lib.hid hk0; clear hk0
        have d : (f.kind % 3 == 0) = false := by rw [HK0.out]; rfl
        have d' : (f.kind % 3 == 1) = false := by rw [HK0.out]; rfl
        go_wp2_with fail
        refine (pad_ok w.heap.size p v f.size _ w3 HJ.out.2.1 a5 a6).mono ?_; rintro e w4 ⟨rfl, ht⟩
        obtain ⟨v4, hW4⟩ := HJ.out.out ht
        obtain ⟨_, _, hfr, _⟩ := ht
        have s2 := cell_fr r2 hfr (by rintro (h | h); · exact absurd h (by show Q ≠ p; omega)
                                      · exact absurd (HV.out _ h) (Nat.lt_irrefl _))
        rw [wS_pad R want all f (by have := HK0.out; omega) hR0.1 hR0.2 hal] at hW4
        have HX := Lib.hid hW4; clear hW4 hfr r0 r1 r2 r3
        obtain ⟨iu, hi1, hi2, hi3, hi4⟩ := info_parts info_u8
        have hF : fErr want f = want := by unfold fErr; rw [if_neg (fun h => by have := HK0.out; omega)]
        have HF := Lib.hid hF; clear hF
        by_cases p0 : f.size ≤ (all.length : Int)
        · have hp : padL f.size all = [] := by unfold padL; rw [if_neg (by omega), if_neg (by omega)]
          have HP := Lib.hid hp; clear hp
          have e1 : decide ((all.length : Int) < f.size) = false := decide_eq_false (by omega)
          go_wp2_with fail
          go_meet
          case rel => exact ⟨_, v4, by rw [HF.out], by rw [HP.out]; exact brd_nil _, by rw [HP.out]; simp, HX.out⟩
        · have e1 : decide ((all.length : Int) < f.size) = true := decide_eq_true (by omega)
          have hsub : -9223372036854775808 ≤ f.size - (all.length : Int) := by omega
          by_cases p1 : f.size - (all.length : Int) > 70000
          · have hp : padL f.size all = List.replicate 70000 0 := by unfold padL; rw [if_pos ⟨by omega, p1⟩]
            have HP := Lib.hid hp; clear hp
            have e2 : decide ((70000 : Int) < f.size - (all.length : Int)) = true := decide_eq_true (by omega)
            go_wp2_with (at_make; refine wpList_make_full w4 rfl _ _ 49 rfl w4.heap.size 5 iu (.int .u8 0) 1 Try.underlying49 hi1 hi2 hi3 .i64 .i64 70000 70000 70000 rfl rfl rfl rfl (by rw [hi4]; omega) (by unfold maxLen; omega) (Nat.le_refl _) ?_)
            intro w5 hown hgrow
            have hbel : Below w4.heap.size w4 w5 := ⟨hgrow.os, hgrow.tape, hgrow.output, hgrow.size, fun k hk => hgrow.block k hk (by simp)⟩
            have hrd : BRd w5 (.slice (some ⟨w4.heap.size, 0, none⟩) 70000 70000) (List.replicate 70000 0) := by
              refine brd_own (base := w4.heap.size) (e := 5) (n := 70000) ?_
              have := made_u8 70000
              rw [← this]; exact hown
            have HY := Lib.hid (And.intro hrd (HX.out.up hbel)); clear hown hgrow hrd hbel
            go_wp2_with fail
            go_meet
            case rel => exact ⟨_, v4, by rw [HF.out], by rw [HP.out]; exact HY.out.1, by rw [HP.out, List.length_replicate]; omega, HY.out.2⟩
          · have hp : padL f.size all = List.replicate (f.size - all.length).toNat 0 := by unfold padL; rw [if_neg (fun h => p1 h.2), if_pos (by omega)]
            have HP := Lib.hid hp; clear hp
            have e2 : decide ((70000 : Int) < f.size - (all.length : Int)) = false := decide_eq_false (by omega)
            obtain ⟨L, hL⟩ : ∃ L : Nat, (f.size - all.length).toNat = L := ⟨_, rfl⟩
            have hL2 : f.size - (all.length : Int) = (L : Nat) := by omega
            have HL := Lib.hid (And.intro hL hL2); clear hL2
            have hL3 : L ≤ 70000 := by omega
            clear hL
            go_wp2_with (at_make; refine wpList_make_full w4 rfl _ _ 49 rfl w4.heap.size 5 iu (.int .u8 0) 1 Try.underlying49 hi1 hi2 hi3 .i64 .i64 _ _ L rfl rfl HL.out.2 HL.out.2 (by rw [hi4]; omega) (by unfold maxLen; omega) (Nat.le_refl _) ?_)
            intro w5 hown hgrow
            have hbel : Below w4.heap.size w4 w5 := ⟨hgrow.os, hgrow.tape, hgrow.output, hgrow.size, fun k hk => hgrow.block k hk (by simp)⟩
            have hrd : BRd w5 (.slice (some ⟨w4.heap.size, 0, none⟩) L L) (List.replicate L 0) := by
              refine brd_own (base := w4.heap.size) (e := 5) (n := L) ?_
              have := made_u8 L
              rw [← this]
              exact (Nat.mul_one L) ▸ hown
            have HY := Lib.hid (And.intro hrd (HX.out.up hbel)); clear hown hgrow hrd hbel
            go_wp2_with fail
            go_meet
            case rel => exact ⟨_, v4, by rw [HF.out], by rw [HP.out, HL.out.1]; exact HY.out.1, by rw [HP.out, List.length_replicate]; omega, HY.out.2⟩
    case rest =>
    obtain ⟨bs, v', rfl, ⟨Ab, cb, rfl, hbc, hbr, _⟩, hbl, hWc⟩ := hcut
    have hE : fErr want f = 0 ∨ fErr want f = 4 ∨ fErr want f = 10 := by
      unfold fErr; split
      · exact .inr (.inl rfl)
      · exact HW.out.1
    generalize fErr want f = E at *
    by_cases e0 : E = 0
    · subst e0
      by_cases hr : (bs.length : Int) > R - all.length
      · have e1 : rErr R 0 all bs = 10 := by unfold rErr; rw [if_pos ⟨rfl, hr⟩]
        rw [e1] at hWc
        have HZ := Lib.hid (show WAt w wc p (.slice A0 all.length c0) v' all (wS R 10 all) from hWc); clear hWc hbr
        have d5 : decide (R - (all.length : Int) < bs.length) = true := decide_eq_true hr
        go_wp2
        exact ⟨⟨k + 1, 10, all, v', by simp, by omega, by omega, rfl, .inr (.inr rfl), HZ.out⟩, by simp [intOf]; omega⟩
      · have e1 : rErr R 0 all bs = 0 := by unfold rErr; rw [if_neg (fun h => hr h.2)]
        rw [e1] at hWc
        have HZ := Lib.hid (And.intro (show WAt w wc p (.slice A0 all.length c0) v' all (wS R 0 (all ++ bs)) from hWc) hbr)
        have hws := hWc.2.2.2.size
        clear hWc hbr
        have d5 : decide (R - (all.length : Int) < bs.length) = false := decide_eq_false hr
        go_wp2_with (at_builtin; refine wpList_app rfl _ _ 49 rfl w.heap.size 5 (.int .u8 0) 1 1 Try.underlying49 info_u8 rfl (by decide) (by decide) (.slice A0 all.length c0) all.length (bv all) rfl Ab bs.length cb (bv bs) rfl HZ.out.1.1 (by rw [bv_length, Nat.mul_one]) HZ.out.2 (bv_one _) (by omega) hws ?_)
        intro A9 c9 w9 hown hgrow hat
        rw [← bv_append] at hown
        have hW9 : WAt w w9 p (.slice A9 (all.length + bs.length) c9) v' (all ++ bs) (wS R 0 (all ++ bs)) := HZ.out.1.grow hgrow (by rw [List.length_append]; exact hown) hat
        have HN := Lib.hid hW9; clear hown hgrow hat hW9
        go_wp2
        exact ⟨⟨k + 1, 0, all ++ bs, v', by simp, by omega, by omega, rfl, .inl rfl, HN.out⟩, by simp [intOf]; omega⟩
    · have e1 : rErr R E all bs = E := by unfold rErr; rw [if_neg (fun h => e0 h.1)]
      have e2 : rAll E all bs = all := by unfold rAll; rw [if_neg e0]
      rw [e1, e2] at hWc
      have HZ := Lib.hid (And.intro hWc hE); clear hWc hbr hE
      have d4 : (E == 0) = false := by simpa using e0
      go_wp2
      exact ⟨⟨k + 1, E, all, v', by simp, by omega, by omega, rfl, HZ.out.2, HZ.out.1⟩, by simp [intOf]; omega⟩
  · have HH := Lib.hid (And.intro hwant hW); clear hwant hW
    have hT : (k < F.length ∧ ¬ k < 30) ∨ ¬ k < F.length := by
      by_cases h1 : k < F.length
      · exact .inl ⟨h1, fun h => hlt ⟨h1, h⟩⟩
      · exact .inr h1
    clear hlt
    by_cases e0 : want = 0
    · subst e0
      rcases hT with ⟨d1, d2⟩ | d1
      all_goals
        go_wp2_with fail
        refine (done_fits w.heap.size p v _ wr HH.out.2.2.1 rfl rfl).mono ?_; rintro e w3 ⟨v3, rfl, hb3, ho3⟩
        have hc1 : (convert 49 9 v3).run Try.prog w3 = .ok (.string (bstr all)) w3 := conv_rd (P := Try.prog) (brd_own ho3) 49 5 9 Try.underlying49 Try.underlying5 Try.underlying9
        have hc2 : (convert 49 9 (.slice A0 all.length c0)).run Try.prog w3 = .ok (.string (bstr all)) w3 := conv_rd (P := Try.prog) (brd_own (own_below HH.out.2.1 hb3)) 49 5 9 Try.underlying49 Try.underlying5 Try.underlying9
        have HB := Lib.hid (below_up HH.out.2.2.2.2 hb3); clear hb3 ho3
        go_wp2
        go_ret
        exact ⟨rfl, HB.out⟩
    · have d4 : (want != 0) = true := by simpa using e0
      rcases hT with ⟨d1, d2⟩ | d1
      all_goals
        go_upto_region 31 with (fail)
        go_wp2_with (go_at_call 33; refine (done_err w.heap.size p v _ wr HH.out.2.2.1 rfl e0).mono ?_; rintro e w3 ⟨rfl, hb3⟩; have HB := Lib.hid (below_up HH.out.2.2.2.2 hb3); clear hb3)
        go_ret
        exact ⟨rfl, HB.out⟩
end Go.Proofs.Ytjikndfpkhgnkaa.Lt
