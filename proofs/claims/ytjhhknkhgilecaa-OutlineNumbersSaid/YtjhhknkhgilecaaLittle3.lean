/- The walks over package little's New, Done, Open, and what is read. -/
import Derived.Test.YtjhhknkhgilecaaLittle2
namespace Go.Proofs.Ytjhhknkhgilecaa.Lt
open Go.RowKit
set_option linter.unusedVariables false
set_option linter.unusedSimpArgs false

def outNew (room : Int) : OutS := ⟨if room < 0 then 0 else if 65536 < room then 65536 else room, true, 0, []⟩
theorem new_ok (B : Nat) (room : Int) (w : World) (hB : B ≤ w.heap.size) :
    Calls Try.prog 61 #[.int .i64 room] w fun e w' => e = .returned (.pointer (some ⟨w.heap.size, 0, none⟩)) ∧ Below w.heap.size w w' ∧ OutAt B w' w.heap.size (.slice none 0 0) (outNew room) := by
  by_cases h0 : room < 0
  · have hm : outNew room = ⟨0, true, 0, []⟩ := by unfold outNew; rw [if_pos h0]
    rw [hm]; clear hm
    go_enter Try.func61, Try.ntmps61
    go_wp2
    go_ret
    exact ⟨rfl, (Below.refl _ _).alloc (Nat.le_refl _) _, hB, by unfold World.alloc; simp, ⟨rfl, .inl ⟨rfl, rfl⟩⟩, by decide, by decide, by decide⟩
  · by_cases h1 : 65536 < room
    · have hm : outNew room = ⟨65536, true, 0, []⟩ := by unfold outNew; rw [if_neg h0, if_pos h1]
      rw [hm]; clear hm
      go_enter Try.func61, Try.ntmps61
      go_wp2
      go_ret
      exact ⟨rfl, (Below.refl _ _).alloc (Nat.le_refl _) _, hB, by unfold World.alloc; simp, ⟨rfl, .inl ⟨rfl, rfl⟩⟩, by decide, by decide, by decide⟩
    · have hm : outNew room = ⟨room, true, 0, []⟩ := by unfold outNew; rw [if_neg h0, if_neg h1]
      rw [hm]; clear hm
      go_enter Try.func61, Try.ntmps61
      go_wp2
      go_ret
      exact ⟨rfl, (Below.refl _ _).alloc (Nat.le_refl _) _, hB, by unfold World.alloc; simp, ⟨rfl, .inl ⟨rfl, rfl⟩⟩, by show 0 ≤ room; omega, by show room ≤ 65536; omega, by show (0 : Int) ≤ room; omega⟩
/-- What Done tells. -/
theorem done_nil (w : World) : Calls Try.prog 63 #[.pointer none] w fun e w' => e = .returned (.tuple #[.slice none 0 0, .int .i64 9]) ∧ w' = w := by
  go_enter Try.func63, Try.ntmps63
  go_wp2
  go_ret2
  exact ⟨rfl, rfl⟩
theorem done_idle (B p : Nat) (v : Value) (s : OutS) (w : World) (h : OutAt B w p v s) (hm : s.made = false) :
    Calls Try.prog 63 #[.pointer (some ⟨p, 0, none⟩)] w fun e w' => e = .returned (.tuple #[.slice none 0 0, .int .i64 9]) ∧ w' = w := by
  obtain ⟨hB, hp, ho, r0, r1, r2⟩ := h
  have h2 := cell_block hp 2
  simp [hm] at h2
  clear hp ho hm
  go_enter Try.func63, Try.ntmps63
  go_wp2
  go_ret2
  exact ⟨rfl, rfl⟩
theorem done_err (B p : Nat) (v : Value) (s : OutS) (w : World) (h : OutAt B w p v s) (hm : s.made = true) (he : s.err ≠ 0) :
    Calls Try.prog 63 #[.pointer (some ⟨p, 0, none⟩)] w fun e w' => e = .returned (.tuple #[.slice none 0 0, .int .i64 s.err]) ∧ Below w.heap.size w w' := by
  obtain ⟨hB, hp, ho, r0, r1, r2⟩ := h
  have h2 := cell_block hp 2
  have h3 := cell_block hp 3
  simp [hm] at h2 h3
  have hne : (s.err != 0) = true := by simpa using he
  have hb := fun n => (below_drewN n : Below w.heap.size w (w.drewN n))
  have HB := Lib.hid hb
  clear hp ho hm he hb
  go_enter Try.func63, Try.ntmps63
  go_wp2_with fail
  go_quiet (fail)
  go_wp2
  go_ret2
  exact ⟨rfl, HB.out _⟩
theorem done_fits (B p : Nat) (v : Value) (s : OutS) (w : World) (h : OutAt B w p v s) (hm : s.made = true) (he : s.err = 0) :
    Calls Try.prog 63 #[.pointer (some ⟨p, 0, none⟩)] w fun e w' => ∃ v', e = .returned (.tuple #[v', .int .i64 0]) ∧ Below w.heap.size w w' ∧ w'.ownsRow w.heap.size 5 1 v' s.b.length (bv s.b) := by
  obtain ⟨hB, hp, ho, r0, r1, r2⟩ := h
  obtain ⟨A0, c0, rfl, hc0, _, hrd, _⟩ := own_rd ho
  have h0 := cell_block hp 0
  have h2 := cell_block hp 2
  have h3 := cell_block hp 3
  simp [hm, he] at h0 h2 h3
  have k0 := cell_alloc h0 (.cells #[] 5)
  have H := Lib.hid (And.intro hrd ho)
  clear hp ho hm he hrd
  go_enter Try.func63, Try.ntmps63
  go_wp2_with (at_builtin; refine wpList_app rfl _ _ 24 rfl w.heap.size 5 (.int .u8 0) 1 1 Try.underlying24 info_u8 rfl (by decide) (by decide) (.slice (some ⟨w.heap.size, 0, none⟩) 0 0) 0 [] rfl A0 s.b.length c0 (bv s.b) rfl ?_ (by rw [bv_length, Nat.mul_one]) ?_ (bv_one _) (by omega) ?_ ?_)
  · exact own_zero w _ _
  · exact H.out.1.below (below_alloc1 _ _)
  · simp
  intro A1 c1 w1 hown hgrow hat
  have hbel := below_grown (below_alloc1 w (.cells #[] 5)) hgrow (fun k hk => by simp [Value.ownBlock] at hk; omega)
  have hN := Lib.hid (And.intro hbel hown); clear hown hgrow hat hbel
  go_wp2
  go_ret2
  exact ⟨_, rfl, hN.out.1, hN.out.2⟩

/-- An In as data. -/
structure InS where
  made : Bool
  err : Int
  b : List UInt8
def InAt (w : World) (p : Nat) (v : Value) (s : InS) : Prop :=
  w.heap[p]? = some (.cells #[v, .bool s.made, .int .i64 s.err] 154 (0, 0)) ∧ (∃ A c, v = .slice A s.b.length c ∧ s.b.length ≤ c ∧ Rd w A (bv s.b) ∧ ∀ ad, A = some ad → (ad.spot = none ∧ ad.block ≠ p) ∧ ∃ (cs : Array Value) (f : Nat × Nat), w.heap[ad.block]? = some (.cells cs 5 f))
/-- It has become s', and nothing else of what was there has turned. -/
def InTo (w : World) (p : Nat) (s' : InS) (w' : World) : Prop := ∃ v', InAt w' p v' s' ∧ Fr (fun k => k = p) w w'
namespace InS
def idle (s : InS) : Prop := s.made = false ∨ s.err ≠ 0
instance (s : InS) : Decidable s.idle := by unfold idle; infer_instance
def got (s : InS) (n : Nat) : List UInt8 := if s.idle ∨ s.b.length < n then [] else s.b.take n
def next (s : InS) (n : Nat) : InS := if s.idle then s else if s.b.length < n then { s with b := [], err := 16 } else { s with b := s.b.drop n }
end InS
theorem InAt.same {w w' : World} {p : Nat} {v : Value} {s : InS} (h : InAt w p v s) (hb : Below w.heap.size w w') : InAt w' p v s := by
  obtain ⟨h1, A, c, h2, h3, h4, h5⟩ := h
  exact ⟨block_up h1 hb, A, c, h2, h3, h4.below hb, fun ad h => ⟨(h5 ad h).1, by obtain ⟨cs, f, hc⟩ := (h5 ad h).2; exact ⟨cs, f, block_up hc hb⟩⟩⟩
theorem open_ok (v : Value) (l : List UInt8) (w : World) (hv : BRd w v l) (hl : l.length ≤ 140737488355328) :
    Calls Try.prog 52 #[v] w fun e w' => ∃ p v', e = .returned (.pointer (some ⟨p, 0, none⟩)) ∧ w.heap.size ≤ p ∧ Below w.heap.size w w' ∧ InAt w' p v' ⟨true, 0, l⟩ := by
  obtain ⟨A0, c0, rfl, hc, hrd, hpl⟩ := hv
  have H := Lib.hid hrd; clear hrd hpl
  go_enter Try.func52, Try.ntmps52
  go_wp2_with (at_builtin; refine wpList_app rfl _ _ 24 rfl w.heap.size 5 (.int .u8 0) 1 1 Try.underlying24 info_u8 rfl (by decide) (by decide) (.slice (some ⟨w.heap.size, 0, none⟩) 0 0) 0 [] rfl A0 l.length c0 (bv l) rfl ?_ (by rw [bv_length, Nat.mul_one]) ?_ (bv_one _) (by omega) ?_ ?_)
  · exact own_zero w _ _
  · exact H.out.below (below_alloc1 _ _)
  · simp
  intro A1 c1 w1 hown hgrow hat
  have hbel := below_grown (below_alloc1 w (.cells #[] 5)) hgrow (fun k hk => by simp [Value.ownBlock] at hk; omega)
  have hN := Lib.hid (And.intro hbel hown); clear hown hgrow hat hbel
  go_wp2
  go_ret
  have h1 := hN.out.1
  have hown := hN.out.2
  obtain ⟨A2, c2, e2, hc2, _, hr2, hp2⟩ := own_rd hown
  injection e2 with e2 e3 e4
  subst e2 e4
  have hb2 := below_alloc1 w1 (.cells #[.slice A1 l.length c1, .bool true, .int .i64 0] 154)
  refine ⟨w1.heap.size, .slice A1 l.length c1, rfl, h1.size, below_alloc h1 _, by unfold World.alloc; simp, A1, c1, rfl, hc2, hr2.below hb2, fun ad h => ⟨⟨(hp2 ad h).2.1, ?_⟩, ?_⟩⟩
  · have := own_lt hown _ (hp2 ad h).2.2
    omega
  · obtain ⟨cs, hcs⟩ := own_typed hown _ (hp2 ad h).2.2
    exact ⟨cs, _, alloc_old hcs _⟩
theorem left_nil (w : World) : Calls Try.prog 55 #[.pointer none] w fun e w' => e = .returned (.int .i64 0) ∧ w' = w := by
  go_enter Try.func55, Try.ntmps55
  go_wp2
  go_ret
  exact ⟨rfl, rfl⟩
theorem left_ok (p : Nat) (v : Value) (s : InS) (w : World) (h : InAt w p v s) : Calls Try.prog 55 #[.pointer (some ⟨p, 0, none⟩)] w fun e w' => e = .returned (.int .i64 s.b.length) ∧ w' = w := by
  obtain ⟨hp, A, c, rfl, _⟩ := h
  have h0 := cell_block hp 0
  simp at h0
  clear hp
  go_enter Try.func55, Try.ntmps55
  go_wp2
  go_ret
  exact ⟨rfl, rfl⟩
def InS.tells (s : InS) : Int := if s.made = false then 9 else s.err
theorem err_nil (w : World) : Calls Try.prog 54 #[.pointer none] w fun e w' => e = .returned (.int .i64 9) ∧ w' = w := by
  go_enter Try.func54, Try.ntmps54
  go_wp2
  go_ret
  exact ⟨rfl, rfl⟩
theorem err_ok (p : Nat) (v : Value) (s : InS) (w : World) (h : InAt w p v s) : Calls Try.prog 54 #[.pointer (some ⟨p, 0, none⟩)] w fun e w' => e = .returned (.int .i64 s.tells) ∧ w' = w := by
  obtain ⟨hp, A, c, rfl, _⟩ := h
  have h1 := cell_block hp 1
  have h2 := cell_block hp 2
  simp at h1 h2
  clear hp
  unfold InS.tells
  cases hm : s.made with
  | false =>
    rw [hm] at h1
    rw [if_pos rfl]
    clear hm
    go_enter Try.func54, Try.ntmps54
    go_wp2
    go_ret
    exact ⟨rfl, rfl⟩
  | true =>
    rw [hm] at h1
    rw [if_neg (by decide)]
    clear hm
    go_enter Try.func54, Try.ntmps54
    go_wp2
    go_ret
    exact ⟨rfl, rfl⟩
end Go.Proofs.Ytjhhknkhgilecaa.Lt
