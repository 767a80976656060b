/- Geometries as data; the walks over layout.Check and super.Put. -/
import Derived.Test.YtjhhknkhgilecaaFE
namespace Go.Proofs.Ytjhhknkhgilecaa.Su
open Go.RowKit Lt Fm
set_option linter.unusedVariables false
set_option linter.unusedSimpArgs false
structure GeS where
  seg : Int
  siz : Int
deriving DecidableEq, Inhabited
namespace GeS
def cells (g : GeS) : List Value := [.int .i64 g.seg, .int .i64 g.siz]
def fine (g : GeS) : Prop := (-9223372036854775808 ≤ g.seg ∧ g.seg ≤ 9223372036854775807) ∧ (-9223372036854775808 ≤ g.siz ∧ g.siz ≤ 9223372036854775807)
def zero : GeS := ⟨0, 0⟩
def chk (g : GeS) : Int := if g.seg < 6 ∨ 32 < g.seg ∨ g.siz < 4 ∨ 32 < g.siz then 4 else 0
theorem chk_zero {g : GeS} (h : g.chk = 0) : 6 ≤ g.seg ∧ g.seg ≤ 32 ∧ 4 ≤ g.siz ∧ g.siz ≤ 32 := by
  unfold chk at h
  by_cases h1 : g.seg < 6 ∨ 32 < g.seg ∨ g.siz < 4 ∨ 32 < g.siz
  · rw [if_pos h1] at h; cases h
  · omega
theorem chk_of {g : GeS} (h : 6 ≤ g.seg ∧ g.seg ≤ 32 ∧ 4 ≤ g.siz ∧ g.siz ≤ 32) : g.chk = 0 := by unfold chk; rw [if_neg (by omega)]
theorem chk_four {g : GeS} (h : ¬ g.chk = 0) : g.chk = 4 := by
  unfold chk at h ⊢
  by_cases h1 : g.seg < 6 ∨ 32 < g.seg ∨ g.siz < 4 ∨ 32 < g.siz
  · rw [if_pos h1]
  · rw [if_neg h1] at h; exact absurd rfl h
end GeS
/-- The geometry's value. -/
abbrev gv (g : GeS) : Value := .agg #[.int .i64 g.seg, .int .i64 g.siz]
theorem lchk_ok (g : GeS) (w : World) : Calls Try.prog 46 #[gv g] w fun e w' => e = .returned (.int .i64 g.chk) ∧ Below w.heap.size w w' := by
  by_cases hc : g.chk = 0
  · rw [hc]
    obtain ⟨h1, h2, h3, h4⟩ := GeS.chk_zero hc
    clear hc
    go_enter Try.func46, Try.ntmps46
    go_wp2
    go_ret
    exact ⟨rfl, below_alloc1 _ _⟩
  · rw [GeS.chk_four hc]
    have h : g.seg < 6 ∨ (¬ g.seg < 6 ∧ 32 < g.seg) ∨ (¬ g.seg < 6 ∧ ¬ 32 < g.seg ∧ g.siz < 4) ∨ (¬ g.seg < 6 ∧ ¬ 32 < g.seg ∧ ¬ g.siz < 4 ∧ 32 < g.siz) := by
      by_cases h1 : g.seg < 6 ∨ 32 < g.seg ∨ g.siz < 4 ∨ 32 < g.siz
      · omega
      · exact absurd (GeS.chk_of (by omega)) hc
    clear hc
    rcases h with h | ⟨h1, h⟩ | ⟨h1, h2, h⟩ | ⟨h1, h2, h3, h⟩
    all_goals
      go_enter Try.func46, Try.ntmps46
      go_wp2
      go_ret
      exact ⟨rfl, below_alloc1 _ _⟩
/-- The head's text. -/
def gB (g : GeS) : List UInt8 := [UInt8.ofNat g.seg.toNat, UInt8.ofNat g.siz.toNat]
set_option maxHeartbeats 4000000 in
set_option maxRecDepth 100000 in
theorem sput_ok (g : GeS) (w : World) :
    Calls Try.prog 13 #[gv g] w fun e w' => ∃ x, e = .returned (.tuple #[x, .int .i64 g.chk]) ∧ BRd w' x (if g.chk = 0 then secB 1 StS.zero (gB g) else []) ∧ Below w.heap.size w w' := by
  have hg := alloc_at (w := w) (.cells #[.int .i64 g.seg, .int .i64 g.siz] 23) rfl
  have hb0 := below_alloc1 w (.cells #[.int .i64 g.seg, .int .i64 g.siz] 23)
  have HG := Lib.hid (And.intro hg hb0); clear hg hb0
  have hck := fun (W : World) => lchk_ok g W
  by_cases hc : g.chk = 0
  · simp only [hc, if_pos] at hck ⊢
    obtain ⟨h1, h2, h3, h4⟩ := GeS.chk_zero hc
    obtain ⟨s, z⟩ := g
    simp only at h1 h2 h3 h4
    obtain ⟨S, rfl⟩ := Int.eq_ofNat_of_zero_le (by omega : 0 ≤ s)
    obtain ⟨Z, rfl⟩ := Int.eq_ofNat_of_zero_le (by omega : 0 ≤ z)
    have HC := Lib.hid hck; clear hck hc
    obtain ⟨q0, q1⟩ := cells2 HG.out.1
    go_enter Try.func13, Try.ntmps13
    go_wp2_with fail
    (with_reducible refine (HC.out _).mono ?_); rintro e w1 ⟨rfl, hb⟩
    have H1 := Lib.hid (And.intro (block_up HG.out.1 hb) (below_up HG.out.2 hb)); clear hb q0 q1
    obtain ⟨q0, q1⟩ := cells2 H1.out.1
    have hx : ∀ W : World, BRd (W.alloc (.cells #[.int .u8 (S : Nat), .int .u8 (Z : Nat)] 5)) (.slice (some ⟨W.heap.size, 0, none⟩) 2 2) (gB ⟨(S : Nat), (Z : Nat)⟩) := fun W =>
      brd_lit (l := gB ⟨(S : Nat), (Z : Nat)⟩) (cs := #[.int .u8 (S : Nat), .int .u8 (Z : Nat)]) (alloc_at (w := W) (.cells #[.int .u8 (S : Nat), .int .u8 (Z : Nat)] 5) rfl) (by unfold gB bv; simp; omega) rfl 2 (Nat.le_refl _)
    have hx1 := hx w1
    have hb1 := below_up H1.out.2 (below_alloc1 w1 (.cells #[.int .u8 (S : Nat), .int .u8 (Z : Nat)] 5))
    have H2 := Lib.hid (And.intro hx1 hb1); clear hx hx1 hb1
    have hse := seal_ok 1 StS.zero _ _ _ H2.out.1 (by show (2 : Nat) ≤ _; decide) (by decide) (fine3 0 0 0 (by decide) (by decide) (by decide))
    rw [show secE 1 StS.zero (gB ⟨(S : Nat), (Z : Nat)⟩).length = 0 from (by show secE 1 StS.zero 2 = 0; decide), if_pos rfl] at hse
    have HS := Lib.hid hse; clear hse
    go_wp2_with fail
    refine HS.out.mono ?_; rintro e w2 ⟨x, rfl, hx, hb⟩
    have H3 := Lib.hid (And.intro hx (below_up H2.out.2 hb)); clear hx hb
    go_wp2
    go_ret2
    exact ⟨_, rfl, H3.out.1, H3.out.2⟩
  · have h4 := GeS.chk_four hc
    rw [if_neg hc, h4]
    simp only [h4] at hck
    have HC := Lib.hid hck; clear hck hc h4
    obtain ⟨q0, q1⟩ := cells2 HG.out.1
    go_enter Try.func13, Try.ntmps13
    go_wp2_with (go_at_call 46; (with_reducible refine (HC.out _).mono ?_); rintro e w1 ⟨rfl, hb⟩; have H1 := Lib.hid (below_up HG.out.2 hb); clear hb)
    go_ret2
    exact ⟨_, rfl, brd_nil _, H1.out⟩
end Go.Proofs.Ytjhhknkhgilecaa.Su
