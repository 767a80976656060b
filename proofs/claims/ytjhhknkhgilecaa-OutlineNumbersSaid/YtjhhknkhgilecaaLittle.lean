/- The walks over package little's Out: what is written. -/
import Derived.Test.YtjhhknkhgilecaaMem
namespace Go.Proofs.Ytjhhknkhgilecaa.Lt
open Go.RowKit
set_option linter.unusedVariables false
set_option linter.unusedSimpArgs false

/-- An Out as data. -/
structure OutS where
  room : Int
  made : Bool
  err : Int
  b : List UInt8
namespace OutS
def put (s : OutS) (l : List UInt8) : OutS := if s.made = false ∨ s.err ≠ 0 then s else if (l.length : Int) > s.room - s.b.length then { s with err := 10 } else { s with b := s.b ++ l }
end OutS
def OutAt (B : Nat) (w : World) (p : Nat) (v : Value) (s : OutS) : Prop :=
  B ≤ p ∧ w.heap[p]? = some (.cells #[v, .int .i64 s.room, .bool s.made, .int .i64 s.err] 162 (0, 0)) ∧ w.ownsRow B 5 1 v s.b.length (bv s.b) ∧ 0 ≤ s.room ∧ s.room ≤ 65536 ∧ (s.b.length : Int) ≤ s.room
/-- It has become s', and nothing else of what was there has turned. -/
def OutTo (B : Nat) (w : World) (p : Nat) (v : Value) (s' : OutS) (w' : World) : Prop :=
  ∃ v', OutAt B w' p v' s' ∧ Fr (fun k => k = p ∨ v.ownBlock = some k) w w' ∧ (v'.ownBlock = v.ownBlock ∨ ∃ b, v'.ownBlock = some b ∧ w.heap.size ≤ b)
theorem OutTo.same {B : Nat} {w w' : World} {p : Nat} {v : Value} {s : OutS} (h : OutAt B w p v s) (hb : Below w.heap.size w w') : OutTo B w p v s w' := by
  obtain ⟨h1, h2, h3, h4⟩ := h
  exact ⟨v, ⟨h1, block_up h2 hb, own_below h3 hb, h4⟩, Fr.of_below hb, .inl rfl⟩
theorem OutTo.before {B : Nat} {w W W' : World} {p : Nat} {v : Value} {s' : OutS} (hb : Below w.heap.size w W) (h : OutTo B W p v s' W') : OutTo B w p v s' W' := by
  obtain ⟨v', h1, h2, h3⟩ := h
  refine ⟨v', h1, (Fr.of_below hb).trans h2 (fun _ _ h => h), ?_⟩
  rcases h3 with h3 | ⟨b, hb1, hb2⟩
  · exact .inl h3
  · exact .inr ⟨b, hb1, Nat.le_trans hb.size hb2⟩
theorem info_u8 : (Try.prog.info? 5).map (fun i => (i.zero, i.size, i.bytes)) = some (some (.int .u8 0), 1, 1) := by kernel_rfl

theorem put_nil (v : Value) (w : World) : Calls Try.prog 102 #[.pointer none, v] w fun e w' => e = .returned (.tuple #[]) ∧ w' = w := by
  go_enter Try.func102, Try.ntmps102
  go_wp2
  go_end0
  exact ⟨rfl, rfl⟩
/-- Not made, or in error: nothing. -/
theorem put_idle (B p : Nat) (v x : Value) (s : OutS) (w : World) (h : OutAt B w p v s) (hi : s.made = false ∨ s.err ≠ 0) :
    Calls Try.prog 102 #[.pointer (some ⟨p, 0, none⟩), x] w fun e w' => e = .returned (.tuple #[]) ∧ w' = w := by
  obtain ⟨_, hp, _⟩ := h
  have h2 := cell_block hp 2
  have h3 := cell_block hp 3
  simp at h2 h3
  clear hp
  cases hm : s.made with
  | false =>
    rw [hm] at h2
    clear hm hi
    go_enter Try.func102, Try.ntmps102
    go_wp2
    go_end0
    exact ⟨rfl, rfl⟩
  | true =>
    rw [hm] at h2 hi
    have he : (s.err == 0) = false := by simpa using hi
    clear hm hi
    go_enter Try.func102, Try.ntmps102
    go_wp2
    go_end0
    exact ⟨rfl, rfl⟩
theorem OutTo.mk_set {B : Nat} {w W : World} {p : Nat} {v v' u : Value} {s s' : OutS} {i : Nat} (h : OutAt B w p v s) (hg : w.grownBy W v.ownBlock)
    (hc : (#[v, .int .i64 s.room, .bool s.made, .int .i64 s.err] : Array Value).setIfInBounds i u = #[v', .int .i64 s'.room, .bool s'.made, .int .i64 s'.err])
    (ho : W.ownsRow B 5 1 v' s'.b.length (bv s'.b)) (hat : v'.ownBlock = v.ownBlock ∨ ∃ b, v'.ownBlock = some b ∧ w.heap.size ≤ b) (hr : s'.room = s.room) (hl : (s'.b.length : Int) ≤ s.room) :
    OutTo B w p v s' (W.setCell ⟨p, i, none⟩ u) := by
  obtain ⟨hB, hp, ho0, r0, r1, r2⟩ := h
  have hne := own_ne_block ho0 hp (by decide)
  have hpl := (Array.getElem?_eq_some_iff.1 hp).1
  have hp1 : W.heap[p]? = some (.cells #[v, .int .i64 s.room, .bool s.made, .int .i64 s.err] 162 (0, 0)) := (hg.block p hpl (fun e => hne e.symm)).trans hp
  refine ⟨v', ⟨hB, ?_, own_set ho ?_ u, by omega, by omega, by omega⟩, ?_, hat⟩
  · rw [blk_set hp1, hc]
  · rcases hat with hat | ⟨b, hb, hle⟩
    · rw [hat]; exact hne
    · rw [hb]; intro e; injection e with e; simp at e; omega
  · exact ((Fr.refl _ w).grown hg (fun k hk _ => .inr hk.symm.symm)).set (fun _ => .inl rfl) u
set_option maxHeartbeats 1000000 in
/-- No room: the error. -/
theorem put_full (B p : Nat) (v : Value) (A : Option Addr) (n c : Nat) (s : OutS) (w : World) (h : OutAt B w p v s) (hm : s.made = true) (he : s.err = 0) (hn : n ≤ 140737488355328) (hf : (n : Int) > s.room - s.b.length) :
    Calls Try.prog 102 #[.pointer (some ⟨p, 0, none⟩), .slice A n c] w fun e w' => e = .returned (.tuple #[]) ∧ OutTo B w p v { s with err := 10 } w' := by
  obtain ⟨hB, hp, ho, r0, r1, r2⟩ := h
  obtain ⟨A0, c0, rfl, hc0, _, _, _⟩ := own_rd ho
  rw [hm, he] at hp
  have h0 := cell_block hp 0
  have h1 := cell_block hp 1
  have h2 := cell_block hp 2
  have h3 := cell_block hp 3
  have f3 := free_block hp 3
  simp at h0 h1 h2 h3
  have fin : ∀ n, OutTo B w p (.slice A0 s.b.length c0) { s with err := 10 } ((w.drewN n).setCell ⟨p, 3, none⟩ (.int .i64 10)) := fun n =>
    OutTo.mk_set (s := s) (s' := { s with err := 10 }) ⟨hB, by rw [hm, he]; exact hp, ho, r0, r1, r2⟩ ⟨rfl, rfl, rfl, Nat.le_refl _, fun _ _ _ => rfl⟩ rfl ho (.inl rfl) rfl r2
  have FIN := Lib.hid fin; clear fin
  have H := Lib.hid (And.intro hp ho); clear hp ho hm he
  go_enter Try.func102, Try.ntmps102
  go_wp2_with fail
  have d1 : decide (s.room - (s.b.length : Int) < n) = true := decide_eq_true hf
  go_quiet (fail)
  go_wp2
  go_end0
  exact ⟨rfl, FIN.out _⟩
set_option maxHeartbeats 1000000 in
/-- There is room. -/
theorem put_fits (B p : Nat) (v : Value) (A : Option Addr) (c : Nat) (l : List UInt8) (s : OutS) (w : World) (h : OutAt B w p v s) (hm : s.made = true) (he : s.err = 0) (hR : Rd w A (bv l)) (hf : (l.length : Int) ≤ s.room - s.b.length) :
    Calls Try.prog 102 #[.pointer (some ⟨p, 0, none⟩), .slice A l.length c] w fun e w' => e = .returned (.tuple #[]) ∧ OutTo B w p v { s with b := s.b ++ l } w' := by
  have h' := h
  obtain ⟨hB, hp, ho, r0, r1, r2⟩ := h
  obtain ⟨A0, c0, rfl, hc0, _, _, _⟩ := own_rd ho
  have hpl := (Array.getElem?_eq_some_iff.1 hp).1
  rw [hm, he] at hp
  have h0 := cell_block hp 0
  have h1 := cell_block hp 1
  have h2 := cell_block hp 2
  have h3 := cell_block hp 3
  have f0 := free_block hp 0
  simp at h0 h1 h2 h3
  have hne := own_ne_block ho hp (by decide)
  have H := Lib.hid (And.intro hne (And.intro h' (And.intro ho hR))); clear hp ho hm he h' hne
  go_enter Try.func102, Try.ntmps102
  go_wp2_with fail
  have d1 : decide (s.room - (s.b.length : Int) < (l.length : Int)) = false := decide_eq_false (by omega)
  go_quiet (fail)
  go_wp2_with (at_builtin; refine wpList_app rfl _ _ 24 rfl B 5 (.int .u8 0) 1 1 Try.underlying24 info_u8 rfl (by decide) (by decide) (.slice A0 s.b.length c0) s.b.length (bv s.b) rfl A l.length c (bv l) rfl ?_ (by rw [bv_length, Nat.mul_one]) ?_ (bv_one l) (by omega) ?_ ?_)
  · exact own_move H.out.2.2.1 (fun _ _ => rfl)
  · exact H.out.2.2.2
  · show B ≤ w.heap.size
    omega
  · intro A1 c1 w1 hown hgrow hat
    have k0 : w1.cell? ⟨p, 0, none⟩ = some (.slice A0 s.b.length c0) := (World.cell?_of_block (hgrow.block p hpl (fun e => H.out.1 e.symm))).trans h0
    have e0 : w1.frozen? ⟨p, 0, none⟩ = false := (World.frozen?_of_block (hgrow.block p hpl (fun e => H.out.1 e.symm))).trans f0
    have hL : s.b.length + l.length = (s.b ++ l).length := by simp
    have fin : OutTo B w p (.slice A0 s.b.length c0) { s with b := s.b ++ l } (w1.setCell ⟨p, 0, none⟩ (.slice A1 (s.b.length + l.length) c1)) :=
      OutTo.mk_set (s' := { s with b := s.b ++ l }) (v' := .slice A1 (s.b.length + l.length) c1) H.out.2.1 ⟨hgrow.os, hgrow.tape, hgrow.output, hgrow.size, hgrow.block⟩ rfl (by rw [← bv_append, hL] at hown; rw [hL]; exact hown)
        (hat.elim .inl (fun h => .inr ⟨_, h, Nat.le_refl _⟩)) rfl (by simp; omega)
    have FIN := Lib.hid fin; clear fin
    clear hown hgrow hat hL h0 h1 h2 h3 f0
    go_wp2
    go_end0
    exact ⟨rfl, FIN.out⟩
theorem put_ok (B p : Nat) (v x : Value) (l : List UInt8) (s : OutS) (w : World) (h : OutAt B w p v s) (hx : BRd w x l) (hl : l.length ≤ 140737488355328) :
    Calls Try.prog 102 #[.pointer (some ⟨p, 0, none⟩), x] w fun e w' => e = .returned (.tuple #[]) ∧ OutTo B w p v (s.put l) w' := by
  unfold OutS.put
  by_cases hi : s.made = false ∨ s.err ≠ 0
  · rw [if_pos hi]
    exact (put_idle B p v x s w h hi).mono fun e w' ⟨he, hw⟩ => by subst hw; exact ⟨he, OutTo.same h (Below.refl _ _)⟩
  · rw [if_neg hi]
    have hm : s.made = true := by
      cases hq : s.made
      · exact absurd (.inl hq) hi
      · rfl
    have he : s.err = 0 := by
      rcases Classical.em (s.err = 0) with h0 | h0
      · exact h0
      · exact absurd (.inr h0) hi
    obtain ⟨A, c, rfl, _, hR, _⟩ := hx
    by_cases hf : (l.length : Int) > s.room - s.b.length
    · rw [if_pos hf]
      exact put_full B p v A _ c s w h hm he hl hf
    · rw [if_neg hf]
      exact put_fits B p v A c l s w h hm he hR (by omega)
end Go.Proofs.Ytjhhknkhgilecaa.Lt
