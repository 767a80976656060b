/- The walk over slices.insertionSortCmpFunc. -/
import Derived.Test.YtdomngpkahgoiaaCs4
namespace Go.Proofs.Ytdomngpkahgoiaa.StC
open Go.RowKit Rg Ti St
set_option linter.unusedVariables false
set_option linter.unusedSimpArgs false
/-- What compares. -/
def CmpOk (F : Nat) (caps : Array Value) (CP : World → Prop) (OK : CeS → Prop) (cm : CeS → CeS → Int) : Prop := ∀ x y W, OK x → OK y → CP W → Calls Try.prog F (#[cev x, cev y] ++ caps) W fun e w' => e = .returned (.int .i64 (cm x y)) ∧ Below W.heap.size W w'
theorem CmpOk.use {F : Nat} {caps : Array Value} {CP : World → Prop} {OK : CeS → Prop} {cm : CeS → CeS → Int} (h : CmpOk F caps CP OK cm) (x y : CeS) (W : World) (ox : OK x) (oy : OK y) (hp : CP W) : Calls Try.prog F (#[cev x, cev y] ++ caps) W fun e w' => e = .returned (.int .i64 (cm x y)) ∧ Below W.heap.size W w' := h x y W ox oy hp
theorem mix_ok {OK : CeS → Prop} {f g : Row (CeS × Nat)} {a b N : Nat} (hm : Mix f g a b) (hb : b ≤ N) (h : ∀ i, i < N → OK (f i).1) : ∀ i, i < N → OK (g i).1 := fun i hi => by
  by_cases c : a ≤ i ∧ i < b
  · obtain ⟨j, h1, h2, e⟩ := hm.mem c.1 c.2
    rw [e]; exact h j (by omega)
  · rw [hm.out i c]; exact h i hi
/-- It is a function of the program. -/
def RunsF (F : Nat) : Prop := ∀ (args : Array Value) (W : World), (callFunc F args).run Try.prog W = .ok (.enter F args) W
def ltc (cm : CeS → CeS → Int) (x y : CeS) : Bool := decide (cm x y < 0)
def Kept (CP : World → Prop) (g : Nat) : Prop := ∀ W W', CP W → Fr (fun k => k = g) W W' → CP W'
/-- A point's four cells. -/
abbrev At4 (W : World) (g A : Nat) (x : CeS) : Prop := W.cell? ⟨g, A * 3, none⟩ = some (.int .u32 (x.x : Nat)) ∧ W.cell? ⟨g, A * 3 + 1, none⟩ = some (.int .u32 (x.y : Nat)) ∧ W.cell? ⟨g, A * 3 + 2, none⟩ = some (.int .i64 x.l)
set_option maxHeartbeats 4000000 in
set_option maxRecDepth 100000 in
theorem insertion_ok {base g N cap : Nat} (hN : N ≤ 4398046511104) {F : Nat} {caps : Array Value} {CP : World → Prop} {OK : CeS → Prop} {cm : CeS → CeS → Int} (hC : CmpOk F caps CP OK cm) (hw : SWO (ltc cm)) (hK : Kept CP g) (hRun : RunsF F)
    (W : World) (hcp : CP W) (f : Row (CeS × Nat)) (h : RowF W base g N cap f) (hOK : ∀ i, i < N → OK (f i).1) (a b : Nat) (ha : a ≤ b) (hb : b ≤ N) (ht : ∀ i j, a ≤ i → i < j → j < b → (f i).2 < (f j).2) :
    Calls Try.prog 86 #[.slice (some ⟨g, 0, none⟩) N cap, .int .i64 a, .int .i64 b, .func (.func F) #[] caps] W fun e w' => e = .returned (.tuple #[]) ∧ ∃ f', RowF w' base g N cap f' ∧ Sorted (ltc cm) f' a b ∧ Mix f f' a b ∧ Fr (fun k => k = g) W w' := by
  have HH := Lib.hid h
  have HOK := Lib.hid hOK
  have HT := Lib.hid ht
  have HCm := Lib.hid hC
  have HKp := Lib.hid hK
  have HSw := Lib.hid hw
  have HCP := Lib.hid hcp
  have hrun : ∀ (args : Array Value) (W : World), (callFunc F args).run Try.prog W = .ok (.enter F args) W := hRun
  clear h hOK ht hC hK hw hcp hRun
  go_enter Try.func86, Try.ntmps86
  go_wp2_with fail
  go_loopw [8] (fun vi W' => ∃ (i : Nat) (f' : Row (CeS × Nat)), vi = .int .i64 i ∧ a + 1 ≤ i ∧ i ≤ max b (a + 1) ∧ RowF W' base g N cap f' ∧ Sorted (ltc cm) f' a i ∧ Mix f f' a i ∧ Fr (fun k => k = g) W W') (fun vi _ => b - (intOf vi).toNat)
  case atStart => exact ⟨a + 1, f, by go_num, by omega, by omega, HH.out, fun i j h1 h2 h3 => by omega, Mix.refl _ _ _, Fr.refl _ _⟩
  case round =>
  obtain ⟨i, f', rfl, hi1, hi2, hR, hS, hM, hF⟩ := hrel
  have HR := Lib.hid hR
  have HS := Lib.hid hS
  have HM := Lib.hid hM
  have HF := Lib.hid hF
  clear hR hS hM hF
  by_cases hlt : i < b
  · have d : decide (i < b) = true := decide_eq_true hlt
    have di : decide ((i : Int) < b) = true := decide_eq_true (by omega)
    go_wp2_with fail
    go_loopw [9] (fun vj W' => ∃ j : Nat, vj = .int .i64 j ∧ a ≤ j ∧ j ≤ i ∧ RowF W' base g N cap (rot f' j i (i + 1)) ∧ (j < i → ltc cm (f' i).1 (f' j).1 = true) ∧ Fr (fun k => k = g) W W') (fun vj _ => (intOf vj).toNat)
    case atStart => exact ⟨i, rfl, by omega, Nat.le_refl _, by rw [rot_none']; exact HR.out, fun h => by omega, HF.out⟩
    case round =>
    obtain ⟨j, rfl, hj1, hj2, hR, hl, hF⟩ := hrel
    have HRj := Lib.hid hR
    have HL := Lib.hid hl
    have HFj := Lib.hid hF
    clear hR hl hF
    go_upto_region 4 with (fail)
    obtain ⟨c, hc⟩ : ∃ c, (decide (a < j) && ltc cm (f' i).1 (f' (j - 1)).1) = c := ⟨_, rfl⟩
    have HC := Lib.hid hc
    clear hc
    go_cut [34] (fun v wx => v = .bool c ∧ Below wr.heap.size wr wx)
    case first =>
      by_cases haj : a < j
      · have d1 : decide ((j : Int) > a) = true := decide_eq_true (by omega)
        have d1n : decide (a < j) = true := decide_eq_true haj
        have d1i : decide ((a : Int) < j) = true := decide_eq_true (by omega)
        have hc := HC.out
        rw [d1n, Bool.true_and] at hc
        have HC2 := Lib.hid hc
        have kj : IntKind.i64.wrap ((j : Int) - 1) = ((j - 1 : Nat) : Int) := by rw [IntWalk.i64_in _ (by omega)]; omega
        obtain ⟨B, hB⟩ : ∃ x, j - 1 = x := ⟨_, rfl⟩
        have kj2 : (j : Int) - 1 = (B : Int) := by omega
        rw [hB] at kj
        rw [hB] at HC2
        have kB0 : IntKind.i64.wrap (B : Int) = (B : Int) := by rw [IntWalk.i64_in _ (by omega)]
        have bj : (j : Int) < N := by omega
        have bB : (B : Int) < N := by omega
        have hd := below_drew1 (w := wr)
        have HR1 := Lib.hid (own_below HRj.out hd)
        have HP1 := Lib.hid (HKp.out _ _ HCP.out (HFj.out.below hd))
        have HD1 := Lib.hid hd
        obtain ⟨fa, _⟩ := row_at HR1.out (k := j) (by omega)
        obtain ⟨fb, _⟩ := row_at HR1.out (k := B) (by omega)
        rw [rot_left (Nat.le_refl _) (by omega), show j - j + i = i by omega] at fa
        rw [show rot f' j i (i + 1) B = f' B by unfold rot; rw [if_neg (by omega), if_neg (by omega)]] at fb
        have HOx := Lib.hid (mix_ok HM.out (by omega) HOK.out i (by omega))
        have HOy := Lib.hid (mix_ok HM.out (by omega) HOK.out B (by omega))
        generalize (f' i).1 = x at *
        generalize (f' B).1 = y at *
        clear hd hc hB
        refine beginS (S := fun W => At4 W g j x ∧ At4 W g B y) [14] (by kernel_rfl) ⟨fa, fb⟩ (fun hHeld0 => ?_)
        generalize (World.drew wr) = W0 at *
        clear fa fb
        refine takeF (i := 0) (v := ?_) rfl (by kernel_rfl) (fun _ _ _ h => h) (Or.inl ⟨by kernel_rfl, ?_⟩) (by assumption) ?_; rotate_left; (focus (intro w _; go_simp; (try with_reducible rfl); done)); (try simp only [Act.put, List.getElem_toArray, List.getElem_cons_succ, List.getElem_cons_zero, List.setIfInBounds_toArray, List.set_cons_zero, List.set_cons_succ])
        refine takeF (i := 1) (v := ?_) rfl (by kernel_rfl) (fun _ _ _ h => h) (Or.inl ⟨by kernel_rfl, ?_⟩) (by assumption) ?_; rotate_left; (focus (intro w _; go_simp; (try with_reducible rfl); done)); (try simp only [Act.put, List.getElem_toArray, List.getElem_cons_succ, List.getElem_cons_zero, List.setIfInBounds_toArray, List.set_cons_zero, List.set_cons_succ])
        refine takeF (i := 2) (v := ?_) rfl (by kernel_rfl) (fun _ _ _ h => h) (Or.inl ⟨by kernel_rfl, ?_⟩) (by assumption) ?_; rotate_left; (focus (intro w _; go_simp; (try with_reducible rfl); done)); (try simp only [Act.put, List.getElem_toArray, List.getElem_cons_succ, List.getElem_cons_zero, List.setIfInBounds_toArray, List.set_cons_zero, List.set_cons_succ])
        refine takeF (i := 3) (v := ?_) rfl (by kernel_rfl) (fun _ _ _ h => h) (Or.inl ⟨by kernel_rfl, ?_⟩) (by assumption) ?_; rotate_left; (focus (intro w _; go_simp; (try with_reducible rfl); done)); (try simp only [Act.put, List.getElem_toArray, List.getElem_cons_succ, List.getElem_cons_zero, List.setIfInBounds_toArray, List.set_cons_zero, List.set_cons_succ])
        refine takeF (i := 4) (v := ?_) rfl (by kernel_rfl) (fun _ _ _ h => h) (Or.inl ⟨by kernel_rfl, ?_⟩) (by assumption) ?_; rotate_left; (focus (intro w _; go_simp; (try with_reducible rfl); done)); (try simp only [Act.put, List.getElem_toArray, List.getElem_cons_succ, List.getElem_cons_zero, List.setIfInBounds_toArray, List.set_cons_zero, List.set_cons_succ])
        refine takeF (i := 5) (v := ?_) rfl (by kernel_rfl) (fun _ _ _ h => h) (Or.inl ⟨by kernel_rfl, ?_⟩) (by assumption) ?_; rotate_left; (focus (intro w _; go_simp; (try with_reducible rfl); done)); (try simp only [Act.put, List.getElem_toArray, List.getElem_cons_succ, List.getElem_cons_zero, List.setIfInBounds_toArray, List.set_cons_zero, List.set_cons_succ])
        refine takeF (i := 6) (v := ?_) rfl (by kernel_rfl) (fun _ _ _ h => h) (Or.inl ⟨by kernel_rfl, ?_⟩) (by assumption) ?_; rotate_left; (focus (intro w _; go_simp; (try with_reducible rfl); done)); (try simp only [Act.put, List.getElem_toArray, List.getElem_cons_succ, List.getElem_cons_zero, List.setIfInBounds_toArray, List.set_cons_zero, List.set_cons_succ])
        refine takeF (i := 7) (v := ?_) rfl (by kernel_rfl) (fun _ _ _ h => h) (Or.inl ⟨by kernel_rfl, ?_⟩) (by assumption) ?_; rotate_left; (focus (intro w _; go_simp; (try with_reducible rfl); done)); (try simp only [Act.put, List.getElem_toArray, List.getElem_cons_succ, List.getElem_cons_zero, List.setIfInBounds_toArray, List.set_cons_zero, List.set_cons_succ])
        refine takeH (i := 8) (v := ?_) rfl (by kernel_rfl) (fun _ _ _ h => h) (Or.inl ⟨by kernel_rfl, ?_⟩) (by assumption) ?_; rotate_left; (focus (intro w hSw; (try dsimp only at hSw); go_simp; (try with_reducible rfl); done)); (try simp only [Act.put, List.getElem_toArray, List.getElem_cons_succ, List.getElem_cons_zero, List.setIfInBounds_toArray, List.set_cons_zero, List.set_cons_succ])
        refine takeF (i := 9) (v := ?_) rfl (by kernel_rfl) (fun _ _ _ h => h) (Or.inl ⟨by kernel_rfl, ?_⟩) (by assumption) ?_; rotate_left; (focus (intro w _; go_simp; (try with_reducible rfl); done)); (try simp only [Act.put, List.getElem_toArray, List.getElem_cons_succ, List.getElem_cons_zero, List.setIfInBounds_toArray, List.set_cons_zero, List.set_cons_succ])
        refine takeF (i := 10) (v := ?_) rfl (by kernel_rfl) (fun _ _ _ h => h) (Or.inl ⟨by kernel_rfl, ?_⟩) (by assumption) ?_; rotate_left; (focus (intro w _; go_simp; (try with_reducible rfl); done)); (try simp only [Act.put, List.getElem_toArray, List.getElem_cons_succ, List.getElem_cons_zero, List.setIfInBounds_toArray, List.set_cons_zero, List.set_cons_succ])
        refine takeF (i := 11) (v := ?_) rfl (by kernel_rfl) (fun _ _ _ h => h) (Or.inl ⟨by kernel_rfl, ?_⟩) (by assumption) ?_; rotate_left; (focus (intro w _; go_simp; (try with_reducible rfl); done)); (try simp only [Act.put, List.getElem_toArray, List.getElem_cons_succ, List.getElem_cons_zero, List.setIfInBounds_toArray, List.set_cons_zero, List.set_cons_succ])
        refine takeF (i := 12) (v := ?_) rfl (by kernel_rfl) (fun _ _ _ h => h) (Or.inl ⟨by kernel_rfl, ?_⟩) (by assumption) ?_; rotate_left; (focus (intro w _; go_simp; (try with_reducible rfl); done)); (try simp only [Act.put, List.getElem_toArray, List.getElem_cons_succ, List.getElem_cons_zero, List.setIfInBounds_toArray, List.set_cons_zero, List.set_cons_succ])
        refine takeH (i := 13) (v := ?_) rfl (by kernel_rfl) (fun _ _ _ h => h) (Or.inl ⟨by kernel_rfl, ?_⟩) (by assumption) ?_; rotate_left; (focus (intro w hSw; (try dsimp only at hSw); go_simp; (try with_reducible rfl); done)); (try simp only [Act.put, List.getElem_toArray, List.getElem_cons_succ, List.getElem_cons_zero, List.setIfInBounds_toArray, List.set_cons_zero, List.set_cons_succ])
        clear hHeld0
        refine readyS (rs := [14]) (by kernel_rfl) (by simp) ?_
        refine ReadyS.consP rfl (by kernel_rfl) (fun K hK => ?_) ReadyS.nil
        (try simp only [List.getElem_toArray, List.getElem_cons_succ, List.getElem_cons_zero])
        go_simp
        (with_reducible refine (HCm.out.use x y W0 HOx.out HOy.out HP1.out).mono ?_); rintro e w2 ⟨rfl, hb2⟩
        have HD2 := Lib.hid (below_up HD1.out hb2)
        clear hb2
        have hcc : decide (cm x y < 0) = c := HC2.out
        refine hK.out _ _ ?_
        clear hK K
        (try simp only [Act.put, List.getElem_toArray, List.getElem_cons_succ, List.getElem_cons_zero, List.setIfInBounds_toArray, List.set_cons_zero, List.set_cons_succ])
        refine takeP (i := 15) (v := ?_) rfl (by kernel_rfl) (fun _ _ _ h => h) (Or.inl ⟨by kernel_rfl, ?_⟩) ?_; rotate_left; (focus (intro w _; go_simp; (try with_reducible rfl); done)); (try simp only [Act.put, List.getElem_toArray, List.getElem_cons_succ, List.getElem_cons_zero, List.setIfInBounds_toArray, List.set_cons_zero, List.set_cons_succ])
        refine takeP (i := 16) (v := ?_) rfl (by kernel_rfl) (fun _ _ _ h => h) (Or.inl ⟨by kernel_rfl, ?_⟩) ?_; rotate_left; (focus (intro w _; go_simp; (try with_reducible rfl); done)); (try simp only [Act.put, List.getElem_toArray, List.getElem_cons_succ, List.getElem_cons_zero, List.setIfInBounds_toArray, List.set_cons_zero, List.set_cons_succ])
        refine doneS (by kernel_rfl) ?_ _
        go_wp2
        go_meet
        case rel => exact ⟨by rw [← hcc], HD2.out⟩
      · have d1 : decide ((j : Int) > a) = false := decide_eq_false (by omega)
        have d1n : decide (a < j) = false := decide_eq_false haj
        have d1i : decide ((a : Int) < j) = false := decide_eq_false (by omega)
        have hc := HC.out
        rw [d1n, Bool.false_and] at hc
        subst hc
        have HD1 := Lib.hid (below_drew1 (w := wr))
        refine beginS (S := fun W => True) [] (by kernel_rfl) trivial (fun hHeld0 => ?_)
        generalize (World.drew wr) = W0 at *
        refine takeF (i := 0) (v := ?_) rfl (by kernel_rfl) (fun _ _ _ h => h) (Or.inl ⟨by kernel_rfl, ?_⟩) (by assumption) ?_; rotate_left; (focus (intro w _; go_simp; (try with_reducible rfl); done)); (try simp only [Act.put, List.getElem_toArray, List.getElem_cons_succ, List.getElem_cons_zero, List.setIfInBounds_toArray, List.set_cons_zero, List.set_cons_succ])
        refine takeF (i := 1) (v := ?_) rfl (by kernel_rfl) (fun _ _ _ h => h) (Or.inl ⟨by kernel_rfl, ?_⟩) (by assumption) ?_; rotate_left; (focus (intro w _; go_simp; (try with_reducible rfl); done)); (try simp only [Act.put, List.getElem_toArray, List.getElem_cons_succ, List.getElem_cons_zero, List.setIfInBounds_toArray, List.set_cons_zero, List.set_cons_succ])
        refine takeF (i := 2) (v := ?_) rfl (by kernel_rfl) (fun _ _ _ h => h) (Or.inl ⟨by kernel_rfl, ?_⟩) (by assumption) ?_; rotate_left; (focus (intro w _; go_simp; (try with_reducible rfl); done)); (try simp only [Act.put, List.getElem_toArray, List.getElem_cons_succ, List.getElem_cons_zero, List.setIfInBounds_toArray, List.set_cons_zero, List.set_cons_succ])
        refine takeF (i := 3) (v := ?_) rfl (by kernel_rfl) (fun _ _ _ h => h) (Or.inl ⟨by kernel_rfl, ?_⟩) (by assumption) ?_; rotate_left; (focus (intro w _; go_simp; (try with_reducible rfl); done)); (try simp only [Act.put, List.getElem_toArray, List.getElem_cons_succ, List.getElem_cons_zero, List.setIfInBounds_toArray, List.set_cons_zero, List.set_cons_succ])
        refine takeF (i := 4) (v := undef) rfl (by kernel_rfl) (fun _ _ _ h => h) (Or.inr ⟨by kernel_rfl, rfl⟩) (by assumption) ?_; (try simp only [Act.put, List.getElem_toArray, List.getElem_cons_succ, List.getElem_cons_zero, List.setIfInBounds_toArray, List.set_cons_zero, List.set_cons_succ])
        refine takeF (i := 5) (v := undef) rfl (by kernel_rfl) (fun _ _ _ h => h) (Or.inr ⟨by kernel_rfl, rfl⟩) (by assumption) ?_; (try simp only [Act.put, List.getElem_toArray, List.getElem_cons_succ, List.getElem_cons_zero, List.setIfInBounds_toArray, List.set_cons_zero, List.set_cons_succ])
        refine takeF (i := 6) (v := undef) rfl (by kernel_rfl) (fun _ _ _ h => h) (Or.inr ⟨by kernel_rfl, rfl⟩) (by assumption) ?_; (try simp only [Act.put, List.getElem_toArray, List.getElem_cons_succ, List.getElem_cons_zero, List.setIfInBounds_toArray, List.set_cons_zero, List.set_cons_succ])
        refine takeF (i := 7) (v := undef) rfl (by kernel_rfl) (fun _ _ _ h => h) (Or.inr ⟨by kernel_rfl, rfl⟩) (by assumption) ?_; (try simp only [Act.put, List.getElem_toArray, List.getElem_cons_succ, List.getElem_cons_zero, List.setIfInBounds_toArray, List.set_cons_zero, List.set_cons_succ])
        refine takeF (i := 8) (v := undef) rfl (by kernel_rfl) (fun _ _ _ h => h) (Or.inr ⟨by kernel_rfl, rfl⟩) (by assumption) ?_; (try simp only [Act.put, List.getElem_toArray, List.getElem_cons_succ, List.getElem_cons_zero, List.setIfInBounds_toArray, List.set_cons_zero, List.set_cons_succ])
        refine takeF (i := 9) (v := undef) rfl (by kernel_rfl) (fun _ _ _ h => h) (Or.inr ⟨by kernel_rfl, rfl⟩) (by assumption) ?_; (try simp only [Act.put, List.getElem_toArray, List.getElem_cons_succ, List.getElem_cons_zero, List.setIfInBounds_toArray, List.set_cons_zero, List.set_cons_succ])
        refine takeF (i := 10) (v := undef) rfl (by kernel_rfl) (fun _ _ _ h => h) (Or.inr ⟨by kernel_rfl, rfl⟩) (by assumption) ?_; (try simp only [Act.put, List.getElem_toArray, List.getElem_cons_succ, List.getElem_cons_zero, List.setIfInBounds_toArray, List.set_cons_zero, List.set_cons_succ])
        refine takeF (i := 11) (v := undef) rfl (by kernel_rfl) (fun _ _ _ h => h) (Or.inr ⟨by kernel_rfl, rfl⟩) (by assumption) ?_; (try simp only [Act.put, List.getElem_toArray, List.getElem_cons_succ, List.getElem_cons_zero, List.setIfInBounds_toArray, List.set_cons_zero, List.set_cons_succ])
        refine takeF (i := 12) (v := undef) rfl (by kernel_rfl) (fun _ _ _ h => h) (Or.inr ⟨by kernel_rfl, rfl⟩) (by assumption) ?_; (try simp only [Act.put, List.getElem_toArray, List.getElem_cons_succ, List.getElem_cons_zero, List.setIfInBounds_toArray, List.set_cons_zero, List.set_cons_succ])
        refine takeF (i := 13) (v := undef) rfl (by kernel_rfl) (fun _ _ _ h => h) (Or.inr ⟨by kernel_rfl, rfl⟩) (by assumption) ?_; (try simp only [Act.put, List.getElem_toArray, List.getElem_cons_succ, List.getElem_cons_zero, List.setIfInBounds_toArray, List.set_cons_zero, List.set_cons_succ])
        refine takeF (i := 14) (v := undef) rfl (by kernel_rfl) (fun _ _ _ h => h) (Or.inr ⟨by kernel_rfl, rfl⟩) (by assumption) ?_; (try simp only [Act.put, List.getElem_toArray, List.getElem_cons_succ, List.getElem_cons_zero, List.setIfInBounds_toArray, List.set_cons_zero, List.set_cons_succ])
        refine takeF (i := 15) (v := undef) rfl (by kernel_rfl) (fun _ _ _ h => h) (Or.inr ⟨by kernel_rfl, rfl⟩) (by assumption) ?_; (try simp only [Act.put, List.getElem_toArray, List.getElem_cons_succ, List.getElem_cons_zero, List.setIfInBounds_toArray, List.set_cons_zero, List.set_cons_succ])
        refine takeF (i := 16) (v := ?_) rfl (by kernel_rfl) (fun _ _ _ h => h) (Or.inl ⟨by kernel_rfl, ?_⟩) (by assumption) ?_; rotate_left; (focus (intro w _; go_simp; (try with_reducible rfl); done)); (try simp only [Act.put, List.getElem_toArray, List.getElem_cons_succ, List.getElem_cons_zero, List.setIfInBounds_toArray, List.set_cons_zero, List.set_cons_succ])
        refine doneS (by kernel_rfl) ?_ _
        go_wp2
        go_meet
        case rel => exact ⟨rfl, HD1.out⟩
    case rest =>
    obtain ⟨rfl, hb⟩ := hcut
    have HR2 := Lib.hid (own_below HRj.out hb)
    have HF2 := Lib.hid (HFj.out.below hb)
    clear hb HRj HFj
    cases c with
    | true =>
      have hc := HC.out
      rw [Bool.and_eq_true, decide_eq_true_eq] at hc
      obtain ⟨c1, c2⟩ := hc
      have HC2 := Lib.hid c2
      clear c2
      have kj : IntKind.i64.wrap ((j : Int) - 1) = ((j - 1 : Nat) : Int) := by rw [IntWalk.i64_in _ (by omega)]; omega
      obtain ⟨B, hB⟩ : ∃ x, j - 1 = x := ⟨_, rfl⟩
      have kj2 : (j : Int) - 1 = (B : Int) := by omega
      rw [hB] at kj HC2
      have kB0 : IntKind.i64.wrap (B : Int) = (B : Int) := by rw [IntWalk.i64_in _ (by omega)]
      have bj : (j : Int) < N := by omega
      have bB : (B : Int) < N := by omega
      go_upto_region 6 with (fail)
      have hd := below_drew1 (w := wc)
      have HR3 := Lib.hid (own_below HR2.out hd)
      have HF3 := Lib.hid (HF2.out.below hd)
      obtain ⟨fa, hfz⟩ := row_at HR3.out (k := j) (by omega)
      obtain ⟨fb, _⟩ := row_at HR3.out (k := B) (by omega)
      have hrb := rot_back f' (k := j) (m := i) (by omega) hj2
      rw [hB] at hrb
      have HRb := Lib.hid hrb
      have hset := row_set HR3.out (i := j) (j := B) (by omega) (by omega)
      rw [hrb] at hset
      have hset1 := row_set1 HR3.out (i := j) (by omega) (rot f' j i (i + 1) B).1
      generalize (rot f' j i (i + 1) j).1 = x at *
      generalize (rot f' j i (i + 1) B).1 = y at *
      have HSet := Lib.hid hset
      have HSet1 := Lib.hid hset1
      have hrB : ((if B = j then (y, 0) else rot f' j i (i + 1) B) : CeS × Nat) = rot f' j i (i + 1) B := if_neg (by omega)
      have HB := Lib.hid hB
      clear hd hset hset1 hrb hrB hB
      refine beginS (S := fun W => At4 W g j x ∧ At4 W g B y) [15, 17] (by kernel_rfl) ⟨fa, fb⟩ (fun hHeld0 => ?_)
      generalize (World.drew wc) = W0 at *
      clear fb
      refine takeF (i := 0) (v := ?_) rfl (by kernel_rfl) (fun _ _ _ h => h) (Or.inl ⟨by kernel_rfl, ?_⟩) (by assumption) ?_; rotate_left; (focus (intro w _; go_simp; (try with_reducible rfl); done)); (try simp only [Act.put, List.getElem_toArray, List.getElem_cons_succ, List.getElem_cons_zero, List.setIfInBounds_toArray, List.set_cons_zero, List.set_cons_succ])
      refine takeF (i := 1) (v := ?_) rfl (by kernel_rfl) (fun _ _ _ h => h) (Or.inl ⟨by kernel_rfl, ?_⟩) (by assumption) ?_; rotate_left; (focus (intro w _; go_simp; (try with_reducible rfl); done)); (try simp only [Act.put, List.getElem_toArray, List.getElem_cons_succ, List.getElem_cons_zero, List.setIfInBounds_toArray, List.set_cons_zero, List.set_cons_succ])
      refine takeF (i := 2) (v := ?_) rfl (by kernel_rfl) (fun _ _ _ h => h) (Or.inl ⟨by kernel_rfl, ?_⟩) (by assumption) ?_; rotate_left; (focus (intro w _; go_simp; (try with_reducible rfl); done)); (try simp only [Act.put, List.getElem_toArray, List.getElem_cons_succ, List.getElem_cons_zero, List.setIfInBounds_toArray, List.set_cons_zero, List.set_cons_succ])
      refine takeF (i := 3) (v := ?_) rfl (by kernel_rfl) (fun _ _ _ h => h) (Or.inl ⟨by kernel_rfl, ?_⟩) (by assumption) ?_; rotate_left; (focus (intro w _; go_simp; (try with_reducible rfl); done)); (try simp only [Act.put, List.getElem_toArray, List.getElem_cons_succ, List.getElem_cons_zero, List.setIfInBounds_toArray, List.set_cons_zero, List.set_cons_succ])
      refine takeF (i := 4) (v := ?_) rfl (by kernel_rfl) (fun _ _ _ h => h) (Or.inl ⟨by kernel_rfl, ?_⟩) (by assumption) ?_; rotate_left; (focus (intro w _; go_simp; (try with_reducible rfl); done)); (try simp only [Act.put, List.getElem_toArray, List.getElem_cons_succ, List.getElem_cons_zero, List.setIfInBounds_toArray, List.set_cons_zero, List.set_cons_succ])
      refine takeF (i := 5) (v := ?_) rfl (by kernel_rfl) (fun _ _ _ h => h) (Or.inl ⟨by kernel_rfl, ?_⟩) (by assumption) ?_; rotate_left; (focus (intro w _; go_simp; (try with_reducible rfl); done)); (try simp only [Act.put, List.getElem_toArray, List.getElem_cons_succ, List.getElem_cons_zero, List.setIfInBounds_toArray, List.set_cons_zero, List.set_cons_succ])
      refine takeF (i := 6) (v := ?_) rfl (by kernel_rfl) (fun _ _ _ h => h) (Or.inl ⟨by kernel_rfl, ?_⟩) (by assumption) ?_; rotate_left; (focus (intro w _; go_simp; (try with_reducible rfl); done)); (try simp only [Act.put, List.getElem_toArray, List.getElem_cons_succ, List.getElem_cons_zero, List.setIfInBounds_toArray, List.set_cons_zero, List.set_cons_succ])
      refine takeF (i := 7) (v := ?_) rfl (by kernel_rfl) (fun _ _ _ h => h) (Or.inl ⟨by kernel_rfl, ?_⟩) (by assumption) ?_; rotate_left; (focus (intro w _; go_simp; (try with_reducible rfl); done)); (try simp only [Act.put, List.getElem_toArray, List.getElem_cons_succ, List.getElem_cons_zero, List.setIfInBounds_toArray, List.set_cons_zero, List.set_cons_succ])
      refine takeF (i := 8) (v := ?_) rfl (by kernel_rfl) (fun _ _ _ h => h) (Or.inl ⟨by kernel_rfl, ?_⟩) (by assumption) ?_; rotate_left; (focus (intro w _; go_simp; (try with_reducible rfl); done)); (try simp only [Act.put, List.getElem_toArray, List.getElem_cons_succ, List.getElem_cons_zero, List.setIfInBounds_toArray, List.set_cons_zero, List.set_cons_succ])
      refine takeH (i := 9) (v := ?_) rfl (by kernel_rfl) (fun _ _ _ h => h) (Or.inl ⟨by kernel_rfl, ?_⟩) (by assumption) ?_; rotate_left; (focus (intro w hSw; (try dsimp only at hSw); go_simp; (try with_reducible rfl); done)); (try simp only [Act.put, List.getElem_toArray, List.getElem_cons_succ, List.getElem_cons_zero, List.setIfInBounds_toArray, List.set_cons_zero, List.set_cons_succ])
      refine takeF (i := 10) (v := ?_) rfl (by kernel_rfl) (fun _ _ _ h => h) (Or.inl ⟨by kernel_rfl, ?_⟩) (by assumption) ?_; rotate_left; (focus (intro w _; go_simp; (try with_reducible rfl); done)); (try simp only [Act.put, List.getElem_toArray, List.getElem_cons_succ, List.getElem_cons_zero, List.setIfInBounds_toArray, List.set_cons_zero, List.set_cons_succ])
      refine takeF (i := 11) (v := ?_) rfl (by kernel_rfl) (fun _ _ _ h => h) (Or.inl ⟨by kernel_rfl, ?_⟩) (by assumption) ?_; rotate_left; (focus (intro w _; go_simp; (try with_reducible rfl); done)); (try simp only [Act.put, List.getElem_toArray, List.getElem_cons_succ, List.getElem_cons_zero, List.setIfInBounds_toArray, List.set_cons_zero, List.set_cons_succ])
      refine takeF (i := 12) (v := ?_) rfl (by kernel_rfl) (fun _ _ _ h => h) (Or.inl ⟨by kernel_rfl, ?_⟩) (by assumption) ?_; rotate_left; (focus (intro w _; go_simp; (try with_reducible rfl); done)); (try simp only [Act.put, List.getElem_toArray, List.getElem_cons_succ, List.getElem_cons_zero, List.setIfInBounds_toArray, List.set_cons_zero, List.set_cons_succ])
      refine takeH (i := 13) (v := ?_) rfl (by kernel_rfl) (fun _ _ _ h => h) (Or.inl ⟨by kernel_rfl, ?_⟩) (by assumption) ?_; rotate_left; (focus (intro w hSw; (try dsimp only at hSw); go_simp; (try with_reducible rfl); done)); (try simp only [Act.put, List.getElem_toArray, List.getElem_cons_succ, List.getElem_cons_zero, List.setIfInBounds_toArray, List.set_cons_zero, List.set_cons_succ])
      refine takeF (i := 14) (v := ?_) rfl (by kernel_rfl) (fun _ _ _ h => h) (Or.inl ⟨by kernel_rfl, ?_⟩) (by assumption) ?_; rotate_left; (focus (intro w _; go_simp; (try with_reducible rfl); done)); (try simp only [Act.put, List.getElem_toArray, List.getElem_cons_succ, List.getElem_cons_zero, List.setIfInBounds_toArray, List.set_cons_zero, List.set_cons_succ])
      clear hHeld0
      refine readyS (rs := [15]) (by kernel_rfl) (by simp) ?_
      refine ReadyS.consP rfl (by kernel_rfl) (fun K hK => ?_) ReadyS.nil
      (try simp only [List.getElem_toArray, List.getElem_cons_succ, List.getElem_cons_zero])
      go_simp
      refine hK.out _ (set4 W0 g j y) ?_
      clear hK K
      obtain ⟨fb, hfz1⟩ := row_at HSet1.out (k := B) (by have := HB.out; omega)
      have HF4 := Lib.hid (HF3.out.trans (fr_sw W0 g j B y x) (fun _ _ h => h))
      generalize hW1 : set4 W0 g j y = W1 at *
      clear fa hfz hW1
      refine takeP (i := 16) (v := ?_) rfl (by kernel_rfl) (fun _ _ _ h => h) (Or.inl ⟨by kernel_rfl, ?_⟩) ?_; rotate_left; (focus (intro w _; go_simp; (try with_reducible rfl); done)); (try simp only [Act.put, List.getElem_toArray, List.getElem_cons_succ, List.getElem_cons_zero, List.setIfInBounds_toArray, List.set_cons_zero, List.set_cons_succ])
      refine readyS (rs := [17]) (by kernel_rfl) (by simp) ?_
      refine ReadyS.consP rfl (by kernel_rfl) (fun K hK => ?_) ReadyS.nil
      (try simp only [List.getElem_toArray, List.getElem_cons_succ, List.getElem_cons_zero])
      go_simp
      refine hK.out _ (set4 W1 g B x) ?_
      clear hK K
      generalize set4 W1 g B x = W2 at *
      clear fb hfz1
      refine doneS (by kernel_rfl) ?_ _
      go_wp2
      refine ⟨⟨B, rfl, by omega, by omega, HSet.out, fun _ => ?_, HF4.out⟩, by simp [intOf]; omega⟩
      exact HC2.out
    | false =>
      have hput := put_last (i := j) HSw.out HS.out (fun k l h1 h2 h3 h4 => by
        obtain rfl : l = i := by omega
        rw [HM.out.out l (by omega)]
        obtain ⟨k', h5, h6, e⟩ := HM.out.mem h1 h2
        rw [e]
        exact HT.out k' l h5 h6 hlt) hj1 hj2 (fun h => by
          have hc := HC.out
          rw [decide_eq_true h, Bool.true_and] at hc
          exact hc) HL.out
      have HPut := Lib.hid hput
      clear hput
      go_wp2
      exact ⟨⟨i + 1, rot f' j i (i + 1), by go_num, by omega, by omega, HR2.out, HPut.out.1, (HM.out.wide (Nat.le_refl _) (by omega) (by omega)).trans HPut.out.2, HF2.out⟩, by simp [intOf]; omega⟩
  · have d : decide (i < b) = false := decide_eq_false hlt
    have di : decide ((i : Int) < b) = false := decide_eq_false (by omega)
    go_wp2
    go_end0
    refine ⟨rfl, f', HR.out, HS.out.sub (Nat.le_refl _) (by omega), ?_, HF.out⟩
    have hM := HM.out
    rcases Nat.lt_or_ge a b with h | h
    · obtain rfl : i = b := by omega
      exact hM
    · have e : f' = f := by
        funext k
        rcases Nat.lt_or_ge k a with c | c
        · exact hM.out k (by omega)
        · by_cases c2 : k = a
          · subst c2
            obtain ⟨j, h1, h2, e⟩ := hM.mem (Nat.le_refl k) (by omega)
            have : j = k := by omega
            rw [e, this]
          · exact hM.out k (by omega)
      rw [e]
      exact Mix.refl _ _ _
end Go.Proofs.Ytdomngpkahgoiaa.StC
