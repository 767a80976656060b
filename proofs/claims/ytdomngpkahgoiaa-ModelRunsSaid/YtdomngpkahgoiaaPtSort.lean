/- The walk over point.Sort. -/
import Derived.Test.YtdomngpkahgoiaaSt9
import Derived.Test.YtdomngpkahgoiaaCmpI
import Derived.Test.YtdomngpkahgoiaaPtCl
namespace Go.Proofs.Ytdomngpkahgoiaa.St
open Go.RowKit Rg Pt
set_option linter.unusedVariables false
set_option linter.unusedSimpArgs false
def cmId (x y : PtS) : Int := cmpI x.id y.id
/-- Sorted by Id, alike ones as they stand. -/
def byId (L : List PtS) : List PtS := L.mergeSort (fun a b => !ltc cmId b a)
theorem ltc_id (x y : PtS) : ltc cmId x y = decide (x.id < y.id) := by unfold ltc cmId; exact cmpI_neg _ _
theorem swo_id : SWO (ltc cmId) where
  asymm := fun a b h => by rw [ltc_id] at *; simp at *; omega
  trans := fun a b c h1 h2 => by rw [ltc_id] at *; simp at *; omega
  ntrans := fun a b c h1 h2 => by rw [ltc_id] at *; simp at *; omega
theorem cmid_ok : CmpOk 80 #[] (fun _ => True) (fun _ => True) cmId := fun x y W _ _ _ => by
  have HC := fun W => cmpi_ok x.id y.id W
  have q1 := alloc_at (w := W) (.cells #[.int .i64 x.id, .int .u32 (x.x : Nat), .int .u32 (x.y : Nat), .string x.d] 56) rfl
  have hb := below_alloc1 W (.cells #[.int .i64 x.id, .int .u32 (x.x : Nat), .int .u32 (x.y : Nat), .string x.d] 56)
  have q2 := alloc_at (w := W.alloc (.cells #[.int .i64 x.id, .int .u32 (x.x : Nat), .int .u32 (x.y : Nat), .string x.d] 56)) (.cells #[.int .i64 y.id, .int .u32 (y.x : Nat), .int .u32 (y.y : Nat), .string y.d] 56) rfl
  have HB := Lib.hid (below_alloc hb (.cells #[.int .i64 y.id, .int .u32 (y.x : Nat), .int .u32 (y.y : Nat), .string y.d] 56))
  clear q1 q2 hb
  replace HC := Lib.hid HC
  show Calls Try.prog 80 #[pv x, pv y] W _
  unfold cmId
  obtain ⟨xi, xx, xy, xd⟩ := x
  obtain ⟨yi, yx, yy, yd⟩ := y
  simp only at HC HB ⊢
  go_enter Try.func80, Try.ntmps80
  go_wp2_with fail
  (with_reducible refine (HC.out _).mono ?_); rintro e w1 ⟨rfl, rfl⟩
  go_wp2
  go_ret
  exact ⟨rfl, HB.out⟩
theorem runs_id : RunsF 80 := fun args W => by go_simp
theorem ins_nil (vf : Value) (W : World) : Calls Try.prog 88 #[.slice none 0 0, .int .i64 0, .int .i64 0, vf] W fun e w' => e = .returned (.tuple #[]) ∧ W = w' := by
  go_enter Try.func88, Try.ntmps88
  go_wp2_with fail
  go_loopw [8] (fun vi W' => vi = .int .i64 1 ∧ W' = W) (fun _ _ => 0)
  case atStart => exact ⟨rfl, rfl⟩
  case round =>
  obtain ⟨rfl, rfl⟩ := hrel
  go_wp2
  go_end0
  exact ⟨rfl, rfl⟩
theorem stable_nil (vf : Value) (W : World) : Calls Try.prog 81 #[.slice none 0 0, .int .i64 0, vf] W fun e w' => e = .returned (.tuple #[]) ∧ W = w' := by
  have HI := fun W => ins_nil vf W
  go_enter Try.func81, Try.ntmps81
  go_wp2_with fail
  go_loopw [7, 8] (fun va vb W' => va = .int .i64 0 ∧ vb = .int .i64 20 ∧ W' = W) (fun _ _ _ => 0)
  case atStart => exact ⟨rfl, rfl, rfl⟩
  case round =>
  obtain ⟨rfl, rfl, hw⟩ := hrel
  replace hw := hw.symm; subst hw
  go_wp2_with fail
  (with_reducible refine (HI _).mono ?_); rintro e w1 ⟨rfl, hw⟩
  subst hw
  go_wp2_with fail
  go_loopw [6] (fun vs W' => vs = .int .i64 20 ∧ W' = W) (fun _ _ => 0)
  case atStart => exact ⟨rfl, rfl⟩
  case round =>
  obtain ⟨rfl, rfl⟩ := hrel
  go_wp2
  go_end0
  exact ⟨rfl, rfl⟩
theorem sort_nil (vf : Value) (W : World) : Calls Try.prog 66 #[.slice none 0 0, vf] W fun e w' => e = .returned (.tuple #[]) ∧ W = w' := by
  have HI := fun W => stable_nil vf W
  go_enter Try.func66, Try.ntmps66
  go_wp2_with fail
  (with_reducible refine (HI _).mono ?_); rintro e w1 ⟨rfl, rfl⟩
  go_wp2
  go_end0
  exact ⟨rfl, rfl⟩
set_option maxHeartbeats 4000000 in
set_option maxRecDepth 100000 in
theorem psort_ok (v : Value) (L : List PtS) (w : World) (h : PRow w v L) (hl : L.length ≤ 4398046511104) :
    Calls Try.prog 58 #[v] w fun e w' => ∃ v', e = .returned v' ∧ w'.ownsRow w.heap.size 56 4 v' L.length ((byId L).flatMap PtS.cells) ∧ Below w.heap.size w w' := by
  have HCl := Lib.hid (pclone_ok v L w h hl)
  clear h
  go_enter Try.func58, Try.ntmps58
  go_wp2_with fail
  (with_reducible refine HCl.out.mono ?_); rintro e w1 ⟨v', rfl, hO, hb⟩
  have HB := Lib.hid hb
  have HO := Lib.hid hO
  clear hb
  rcases hO.2 with ⟨rfl, hl0⟩ | ⟨g, cap, cur, rfl, hbg, _⟩
  · obtain rfl : L = [] := List.eq_nil_of_length_eq_zero hl0
    clear hO
    have HN := fun vf W => sort_nil vf W
    go_wp2_with fail
    (with_reducible refine (HN _ _).mono ?_); rintro e w2 ⟨rfl, rfl⟩
    go_wp2
    go_ret
    exact ⟨_, rfl, by rw [show byId [] = [] by simp [byId]]; exact HO.out, HB.out⟩
  · have HS := Lib.hid (sort_ok cmid_ok swo_id (fun _ _ _ _ => trivial) runs_id w1 trivial L (fun _ _ => trivial) hl hO)
    have HG := Lib.hid hbg
    clear hO hbg
    go_wp2_with fail
    (with_reducible refine HS.out.mono ?_); rintro e w2 ⟨rfl, hO2, hF2⟩
    have HO2 := Lib.hid hO2
    have HF2 := Lib.hid hF2
    clear hO2 hF2
    go_wp2
    go_ret
    exact ⟨_, rfl, HO2.out, ((Fr.of_below (S := fun k => w.heap.size ≤ k) HB.out).trans HF2.out (fun k _ h => by subst h; exact HG.out)).toBelow (fun _ h => h) (Nat.le_refl _)⟩
end Go.Proofs.Ytdomngpkahgoiaa.St
