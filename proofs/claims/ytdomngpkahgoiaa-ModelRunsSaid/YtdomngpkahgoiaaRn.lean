/- The walks over croftref03's Between, Less, Near. -/
import Derived.Test.YtdomngpkahgoiaaMd3
import Derived.Test.YtdomngpkahgoiaaRs
namespace Go.Proofs.Ytdomngpkahgoiaa.Md
open Go.RowKit Rg Pt St Wi
set_option linter.unusedVariables false
set_option linter.unusedSimpArgs false
theorem rgap_ok (a b : Nat) (ha : a < 4294967296) (hb : b < 4294967296) (w : World) : Calls Try.prog 85 #[.int .u32 (a : Nat), .int .u32 (b : Nat)] w fun e w' => e = .returned (.int .u64 (gapN a b : Nat)) ∧ w = w' := by
  by_cases h : b < a
  · have e : gapN a b = a - b := by unfold gapN; omega
    rw [e]
    have d : decide (b < a) = true := decide_eq_true h
    go_enter Try.func85, Try.ntmps85
    go_wp2
    all_goals (go_ret; exact ⟨ret_int (by omega), rfl⟩)
  · have e : gapN a b = b - a := by unfold gapN; omega
    rw [e]
    have d : decide (b < a) = false := decide_eq_false h
    go_enter Try.func85, Try.ntmps85
    go_wp2
    all_goals (go_ret; exact ⟨ret_int (by omega), rfl⟩)
set_option maxHeartbeats 1000000 in
theorem rbetw_ok (x0 y0 x1 y1 : Nat) (h0 : x0 < 4294967296) (h1 : y0 < 4294967296) (h2 : x1 < 4294967296) (h3 : y1 < 4294967296) (w : World) :
    Calls Try.prog 70 #[.int .u32 (x0 : Nat), .int .u32 (y0 : Nat), .int .u32 (x1 : Nat), .int .u32 (y1 : Nat)] w fun e w' => e = .returned (.tuple #[.int .u64 ((dist x0 y0 x1 y1 / 18446744073709551616 : Nat) : Int), .int .u64 ((dist x0 y0 x1 y1 % 18446744073709551616 : Nat) : Int)]) ∧ w = w' := by
  have HG1 := Lib.hid (fun W => rgap_ok x0 x1 h0 h2 W)
  have HG2 := Lib.hid (fun W => rgap_ok y0 y1 h1 h3 W)
  have g1 := gap_lt h0 h2
  have g2 := gap_lt h1 h3
  unfold dist
  generalize gapN x0 x1 = p at *
  generalize gapN y0 y1 = q at *
  have s1 := sq_le g1
  have s2 := sq_le g2
  have k1 : IntKind.u64.wrap ((p : Int) * (p : Int)) = ((p * p : Nat) : Int) := by rw [Mul64.mulN, Mul64.wrapN _ (by omega)]
  have k2 : IntKind.u64.wrap ((q : Int) * (q : Int)) = ((q * q : Nat) : Int) := by rw [Mul64.mulN, Mul64.wrapN _ (by omega)]
  have k1' : (p : Int) * (p : Int) = ((p * p : Nat) : Int) := Mul64.mulN _ _
  have k2' : (q : Int) * (q : Int) = ((q * q : Nat) : Int) := Mul64.mulN _ _
  have k4 : IntKind.u64.wrap ((p * p : Nat) : Int) = ((p * p : Nat) : Int) := Mul64.wrapN _ (by omega)
  have k5 : IntKind.u64.wrap ((q * q : Nat) : Int) = ((q * q : Nat) : Int) := Mul64.wrapN _ (by omega)
  clear g1 g2
  generalize p * p = P at *
  generalize q * q = R at *
  have k3 : IntKind.u64.wrap ((P : Int) + (R : Int)) = (((P + R) % 18446744073709551616 : Nat) : Int) := by rw [Mul64.addN, Mul64.wrapM]
  have hc : (P + R) % 18446744073709551616 < P ∧ (P + R) / 18446744073709551616 = 1 ∨ ¬ (P + R) % 18446744073709551616 < P ∧ (P + R) / 18446744073709551616 = 0 := by omega
  clear s1 s2
  generalize (P + R) % 18446744073709551616 = S at *
  generalize (P + R) / 18446744073709551616 = H at *
  rcases hc with ⟨hc, rfl⟩ | ⟨hc, rfl⟩
  · have d : decide (S < P) = true := decide_eq_true hc
    have di : decide ((S : Int) < P) = true := decide_eq_true (by omega)
    clear hc
    go_enter Try.func70, Try.ntmps70
    go_wp2_with fail
    (with_reducible refine (HG1.out _).mono ?_); rintro e w1 ⟨rfl, rfl⟩
    go_wp2_with fail
    (with_reducible refine (HG1.out _).mono ?_); rintro e w1 ⟨rfl, rfl⟩
    go_wp2_with fail
    (with_reducible refine (HG2.out _).mono ?_); rintro e w1 ⟨rfl, rfl⟩
    go_wp2_with fail
    (with_reducible refine (HG2.out _).mono ?_); rintro e w1 ⟨rfl, rfl⟩
    go_wp2
    go_ret2
    exact ⟨rfl, rfl⟩
  · have d : decide (S < P) = false := decide_eq_false hc
    have di : decide ((S : Int) < P) = false := decide_eq_false (by omega)
    clear hc
    go_enter Try.func70, Try.ntmps70
    go_wp2_with fail
    (with_reducible refine (HG1.out _).mono ?_); rintro e w1 ⟨rfl, rfl⟩
    go_wp2_with fail
    (with_reducible refine (HG1.out _).mono ?_); rintro e w1 ⟨rfl, rfl⟩
    go_wp2_with fail
    (with_reducible refine (HG2.out _).mono ?_); rintro e w1 ⟨rfl, rfl⟩
    go_wp2_with fail
    (with_reducible refine (HG2.out _).mono ?_); rintro e w1 ⟨rfl, rfl⟩
    go_wp2
    go_ret2
    exact ⟨rfl, rfl⟩
def lessB (a b c d : Nat) : Bool := decide (a < c ∨ (a = c ∧ b < d))
theorem rless_ok (a b c d : Nat) (w : World) : Calls Try.prog 71 #[.int .u64 (a : Nat), .int .u64 (b : Nat), .int .u64 (c : Nat), .int .u64 (d : Nat)] w fun e w' => e = .returned (.bool (lessB a b c d)) ∧ w = w' := by
  unfold lessB
  by_cases h1 : a < c
  · rw [decide_eq_true (p := _ ∨ _) (.inl h1)]
    have k1 : decide (a < c) = true := decide_eq_true h1
    go_enter Try.func71, Try.ntmps71
    go_wp2
    go_ret
    exact ⟨rfl, rfl⟩
  · have k1 : decide (a < c) = false := decide_eq_false h1
    by_cases h2 : a = c
    · subst h2
      by_cases h3 : b < d
      · rw [decide_eq_true (p := _ ∨ _) (.inr ⟨rfl, h3⟩)]
        have k3 : decide (b < d) = true := decide_eq_true h3
        go_enter Try.func71, Try.ntmps71
        go_wp2
        go_ret
        exact ⟨rfl, rfl⟩
      · rw [decide_eq_false (p := _ ∨ _) (by omega)]
        have k3 : decide (b < d) = false := decide_eq_false h3
        go_enter Try.func71, Try.ntmps71
        go_wp2
        go_ret
        exact ⟨rfl, rfl⟩
    · rw [decide_eq_false (p := _ ∨ _) (by omega)]
      have k2 : (a == c) = false := by rw [beq_eq_false_iff_ne]; exact h2
      have k2i : ((a : Int) == c) = false := by rw [beq_eq_false_iff_ne]; omega
      go_enter Try.func71, Try.ntmps71
      go_wp2
      go_ret
      exact ⟨rfl, rfl⟩
theorem nearer_iff (x y : Nat) (a b : PtS) (h m p q : Nat) (e1 : dist x y a.x a.y / 18446744073709551616 = h) (e2 : dist x y a.x a.y % 18446744073709551616 = m) (e3 : dist x y b.x b.y / 18446744073709551616 = p) (e4 : dist x y b.x b.y % 18446744073709551616 = q) :
    nearer x y a b ↔ (h < p ∨ (h = p ∧ m < q)) ∨ (h = p ∧ m = q ∧ a.id < b.id) := by
  unfold nearer
  generalize dist x y a.x a.y = D at *
  generalize dist x y b.x b.y = E at *
  omega
theorem byNear_length (x y : Nat) (l : List PtS) : (byNear x y l).length = l.length := sort_len l
set_option maxHeartbeats 8000000 in
set_option maxRecDepth 100000 in
theorem near03_ok (v : Value) (l : List PtS) (x0 y0 : Nat) (K0 : Int) (w : World) (hv : PRow w v l) (hl : l.length ≤ 1000000) (hf : ∀ p ∈ l, p.fine) (hx : x0 < 4294967296) (hy : y0 < 4294967296) (hk : -9223372036854775808 ≤ K0 ∧ K0 ≤ 9223372036854775807) :
    Calls Try.prog 37 #[v, .int .u32 (x0 : Nat), .int .u32 (y0 : Nat), .int .i64 K0] w fun e w' => ∃ v', e = .returned v' ∧ PRow w' v' ((byNear x0 y0 l).take (nearK K0 l.length)) ∧ Below w.heap.size w w' := by
  have HV := Lib.hid hv
  have HFi := Lib.hid hf
  have HBt := Lib.hid (fun (p : PtS) (h : p.fine) W => rbetw_ok x0 y0 p.x p.y hx hy h.2.1 h.2.2.1 W)
  obtain ⟨A0, c0, rfl, hc0, _⟩ := hv
  have hki := nearK_int K0 l.length hl
  have hkl := nearK_le K0 l.length
  obtain ⟨nk, hnk⟩ : ∃ n, nearK K0 l.length = n := ⟨_, rfl⟩
  rw [hnk] at hki hkl ⊢
  have HKI := Lib.hid hki
  clear hnk hf hx hy hki
  go_enter Try.func37, Try.ntmps37
  go_upto_region 1 with (fail)
  go_cut [3] (fun v3 wx => v3 = .int .i64 (min (max K0 0) 64) ∧ w = wx)
  case first =>
    go_wp2
    all_goals (go_meet; case rel => exact ⟨congrArg (Value.int .i64) (by omega), rfl⟩)
  case rest =>
  obtain ⟨rfl, rfl⟩ := hcut
  obtain ⟨K, hK⟩ : ∃ K, min (max K0 0) 64 = K := ⟨_, rfl⟩
  have HKK := Lib.hid hK
  have kb : 0 ≤ K ∧ K ≤ 64 := by omega
  rw [hK]
  clear hK hk
  go_wp2_with fail
  go_loopw [9, 10] (fun vo vi W' => ∃ (i : Nat) (Ao : Option Addr) (co : Nat), vi = .int .i64 i ∧ i ≤ l.length ∧ vo = .slice Ao i co ∧ i ≤ co ∧ W'.ownsRow w.heap.size 56 4 (.slice Ao i co) i ((byNear x0 y0 (l.take i)).flatMap PtS.cells) ∧ Below w.heap.size w W') (fun _ vi _ => l.length - (intOf vi).toNat)
  case atStart => exact ⟨0, none, 0, rfl, Nat.zero_le _, rfl, Nat.le_refl _, by simp [byNear]; exact ⟨rfl, .inl ⟨rfl, rfl⟩⟩, Below.refl _ _⟩
  case round =>
  obtain ⟨i, Ao, co, rfl, hi, rfl, hco, hO, hB⟩ := hrel
  have HO := Lib.hid hO
  have HBr := Lib.hid hB
  clear hO hB
  obtain ⟨w3, rfl⟩ : ∃ W, W = wr := ⟨_, rfl⟩
  by_cases hlt : i < l.length
  · have d : decide (i < l.length) = true := decide_eq_true hlt
    have di : decide ((i : Int) < l.length) = true := decide_eq_true (by omega)
    have bi : (i : Int) < l.length := by omega
    obtain ⟨own, hown⟩ : ∃ own, byNear x0 y0 (l.take i) = own := ⟨_, rfl⟩
    have hol : own.length = i := by rw [← hown, byNear_length, List.length_take]; omega
    have HOn := Lib.hid hown
    have HFo : Hid (∀ p ∈ own, p.fine) := Lib.hid (fun p hp => by
      rw [← hown] at hp
      exact HFi.out p (List.mem_of_mem_take ((List.mergeSort_perm _ _).mem_iff.1 hp)))
    obtain ⟨g0, o0, rfl, f0⟩ := p_at (HV.out.below HBr.out) hlt
    have hx0 : ∀ W', Below w3.heap.size w3 W' → AtP W' g0 o0 i l[i] := fun W' hb => by
      obtain ⟨g1, o1, e1, f1⟩ := p_at (HV.out.below (below_up HBr.out hb)) hlt
      cases e1
      exact f1
    have hsn := take_snoc' l i hlt
    have hxf := HFi.out _ (List.getElem_mem hlt)
    obtain ⟨x, hxe⟩ : ∃ x, l[i] = x := ⟨_, rfl⟩
    rw [hxe] at hx0 hsn f0 hxf
    have HXe := Lib.hid hxe
    have HBx := Lib.hid (fun W => HBt.out x hxf W)
    clear hxe hxf
    obtain ⟨h1, eh1⟩ : ∃ c, dist x0 y0 x.x x.y / 18446744073709551616 = c := ⟨_, rfl⟩
    obtain ⟨m1, em1⟩ : ∃ c, dist x0 y0 x.x x.y % 18446744073709551616 = c := ⟨_, rfl⟩
    rw [eh1, em1] at HBx
    have HE1 := Lib.hid (And.intro eh1 em1)
    clear eh1 em1
    have HX0 := Lib.hid hx0
    have HSn := Lib.hid hsn
    have HOwn0 : Hid (PRow w3 (.slice Ao own.length co) own) := Lib.hid (by rw [hol]; have := HO.out; rw [hown] at this; exact srd_own PtS.cells_len (by decide) this)
    have HOl := Lib.hid hol
    have hol1 : own.length ≤ i := by omega
    have hol2 : i ≤ own.length := by omega
    clear hx0 hsn f0 hown hol
    go_upto_region 6 with (fail)
    go_cut [11, 12] (fun v11 v12 wx => v11 = .int .u64 (h1 : Nat) ∧ v12 = .int .u64 (m1 : Nat) ∧ Below w3.heap.size w3 wx)
    case first =>
      have hd := below_drew1 (w := w3)
      have f0 := HX0.out _ hd
      have HD := Lib.hid hd
      refine beginS (S := fun W => AtP W g0 o0 i x) [] (by kernel_rfl) f0 (fun hHeld0 => ?_)
      generalize (World.drew w3) = W0 at *
      clear f0 hd
      refine takeF (i := 0) (v := ?_) rfl (by kernel_rfl) (fun _ _ _ h => h) (Or.inl ⟨by kernel_rfl, ?_⟩) (by assumption) ?_; rotate_left; (focus (intro w _; go_simp; (try with_reducible rfl); done)); (try simp only [Act.put, List.getElem_toArray, List.getElem_cons_succ, List.getElem_cons_zero, List.setIfInBounds_toArray, List.set_cons_zero, List.set_cons_succ])
      refine takeF (i := 1) (v := ?_) rfl (by kernel_rfl) (fun _ _ _ h => h) (Or.inl ⟨by kernel_rfl, ?_⟩) (by assumption) ?_; rotate_left; (focus (intro w _; go_simp; (try with_reducible rfl); done)); (try simp only [Act.put, List.getElem_toArray, List.getElem_cons_succ, List.getElem_cons_zero, List.setIfInBounds_toArray, List.set_cons_zero, List.set_cons_succ])
      refine takeF (i := 2) (v := ?_) rfl (by kernel_rfl) (fun _ _ _ h => h) (Or.inl ⟨by kernel_rfl, ?_⟩) (by assumption) ?_; rotate_left; (focus (intro w _; go_simp; (try with_reducible rfl); done)); (try simp only [Act.put, List.getElem_toArray, List.getElem_cons_succ, List.getElem_cons_zero, List.setIfInBounds_toArray, List.set_cons_zero, List.set_cons_succ])
      refine takeF (i := 3) (v := ?_) rfl (by kernel_rfl) (fun _ _ _ h => h) (Or.inl ⟨by kernel_rfl, ?_⟩) (by assumption) ?_; rotate_left; (focus (intro w _; go_simp; (try with_reducible rfl); done)); (try simp only [Act.put, List.getElem_toArray, List.getElem_cons_succ, List.getElem_cons_zero, List.setIfInBounds_toArray, List.set_cons_zero, List.set_cons_succ])
      refine takeF (i := 4) (v := ?_) rfl (by kernel_rfl) (fun _ _ _ h => h) (Or.inl ⟨by kernel_rfl, ?_⟩) (by assumption) ?_; rotate_left; (focus (intro w _; go_simp; (try with_reducible rfl); done)); (try simp only [Act.put, List.getElem_toArray, List.getElem_cons_succ, List.getElem_cons_zero, List.setIfInBounds_toArray, List.set_cons_zero, List.set_cons_succ])
      refine takeF (i := 5) (v := ?_) rfl (by kernel_rfl) (fun _ _ _ h => h) (Or.inl ⟨by kernel_rfl, ?_⟩) (by assumption) ?_; rotate_left; (focus (intro w _; go_simp; (try with_reducible rfl); done)); (try simp only [Act.put, List.getElem_toArray, List.getElem_cons_succ, List.getElem_cons_zero, List.setIfInBounds_toArray, List.set_cons_zero, List.set_cons_succ])
      refine takeH (i := 6) (v := ?_) rfl (by kernel_rfl) (fun _ _ _ h => h) (Or.inl ⟨by kernel_rfl, ?_⟩) (by assumption) ?_; rotate_left; (focus (intro w hSw; (try dsimp only at hSw); go_simp; (try with_reducible rfl); done)); (try simp only [Act.put, List.getElem_toArray, List.getElem_cons_succ, List.getElem_cons_zero, List.setIfInBounds_toArray, List.set_cons_zero, List.set_cons_succ])
      refine takeF (i := 7) (v := ?_) rfl (by kernel_rfl) (fun _ _ _ h => h) (Or.inl ⟨by kernel_rfl, ?_⟩) (by assumption) ?_; rotate_left; (focus (intro w _; go_simp; (try with_reducible rfl); done)); (try simp only [Act.put, List.getElem_toArray, List.getElem_cons_succ, List.getElem_cons_zero, List.setIfInBounds_toArray, List.set_cons_zero, List.set_cons_succ])
      refine takeF (i := 8) (v := ?_) rfl (by kernel_rfl) (fun _ _ _ h => h) (Or.inl ⟨by kernel_rfl, ?_⟩) (by assumption) ?_; rotate_left; (focus (intro w _; go_simp; (try with_reducible rfl); done)); (try simp only [Act.put, List.getElem_toArray, List.getElem_cons_succ, List.getElem_cons_zero, List.setIfInBounds_toArray, List.set_cons_zero, List.set_cons_succ])
      refine takeF (i := 9) (v := ?_) rfl (by kernel_rfl) (fun _ _ _ h => h) (Or.inl ⟨by kernel_rfl, ?_⟩) (by assumption) ?_; rotate_left; (focus (intro w _; go_simp; (try with_reducible rfl); done)); (try simp only [Act.put, List.getElem_toArray, List.getElem_cons_succ, List.getElem_cons_zero, List.setIfInBounds_toArray, List.set_cons_zero, List.set_cons_succ])
      refine takeF (i := 10) (v := ?_) rfl (by kernel_rfl) (fun _ _ _ h => h) (Or.inl ⟨by kernel_rfl, ?_⟩) (by assumption) ?_; rotate_left; (focus (intro w _; go_simp; (try with_reducible rfl); done)); (try simp only [Act.put, List.getElem_toArray, List.getElem_cons_succ, List.getElem_cons_zero, List.setIfInBounds_toArray, List.set_cons_zero, List.set_cons_succ])
      refine takeH (i := 11) (v := ?_) rfl (by kernel_rfl) (fun _ _ _ h => h) (Or.inl ⟨by kernel_rfl, ?_⟩) (by assumption) ?_; rotate_left; (focus (intro w hSw; (try dsimp only at hSw); go_simp; (try with_reducible rfl); done)); (try simp only [Act.put, List.getElem_toArray, List.getElem_cons_succ, List.getElem_cons_zero, List.setIfInBounds_toArray, List.set_cons_zero, List.set_cons_succ])
      refine readyS (rs := [12]) (by kernel_rfl) (by simp) ?_
      refine ReadyS.consH rfl (fun K hK => ?_) ReadyS.nil
      (try simp only [List.getElem_toArray, List.getElem_cons_succ, List.getElem_cons_zero])
      go_simp
      (with_reducible refine (HBx.out _).mono ?_); rintro e W1 ⟨rfl, rfl⟩
      refine hK.out _ _ (hHeld0) (fun hHeld => ?_)
      clear hK K
      (try simp only [Act.put, List.getElem_toArray, List.getElem_cons_succ, List.getElem_cons_zero, List.setIfInBounds_toArray, List.set_cons_zero, List.set_cons_succ])
      clear hHeld0
      refine takeF (i := 13) (v := ?_) rfl (by kernel_rfl) (fun _ _ _ h => h) (Or.inl ⟨by kernel_rfl, ?_⟩) (by assumption) ?_; rotate_left; (focus (intro w _; go_simp; (try with_reducible rfl); done)); (try simp only [Act.put, List.getElem_toArray, List.getElem_cons_succ, List.getElem_cons_zero, List.setIfInBounds_toArray, List.set_cons_zero, List.set_cons_succ])
      refine takeF (i := 14) (v := ?_) rfl (by kernel_rfl) (fun _ _ _ h => h) (Or.inl ⟨by kernel_rfl, ?_⟩) (by assumption) ?_; rotate_left; (focus (intro w _; go_simp; (try with_reducible rfl); done)); (try simp only [Act.put, List.getElem_toArray, List.getElem_cons_succ, List.getElem_cons_zero, List.setIfInBounds_toArray, List.set_cons_zero, List.set_cons_succ])
      refine takeF (i := 15) (v := ?_) rfl (by kernel_rfl) (fun _ _ _ h => h) (Or.inl ⟨by kernel_rfl, ?_⟩) (by assumption) ?_; rotate_left; (focus (intro w _; go_simp; (try with_reducible rfl); done)); (try simp only [Act.put, List.getElem_toArray, List.getElem_cons_succ, List.getElem_cons_zero, List.setIfInBounds_toArray, List.set_cons_zero, List.set_cons_succ])
      refine takeF (i := 16) (v := ?_) rfl (by kernel_rfl) (fun _ _ _ h => h) (Or.inl ⟨by kernel_rfl, ?_⟩) (by assumption) ?_; rotate_left; (focus (intro w _; go_simp; (try with_reducible rfl); done)); (try simp only [Act.put, List.getElem_toArray, List.getElem_cons_succ, List.getElem_cons_zero, List.setIfInBounds_toArray, List.set_cons_zero, List.set_cons_succ])
      refine takeF (i := 17) (v := ?_) rfl (by kernel_rfl) (fun _ _ _ h => h) (Or.inl ⟨by kernel_rfl, ?_⟩) (by assumption) ?_; rotate_left; (focus (intro w _; go_simp; (try with_reducible rfl); done)); (try simp only [Act.put, List.getElem_toArray, List.getElem_cons_succ, List.getElem_cons_zero, List.setIfInBounds_toArray, List.set_cons_zero, List.set_cons_succ])
      clear hHeld
      refine doneS (by kernel_rfl) ?_ _
      go_wp2
      go_meet
      case rel => exact ⟨rfl, rfl, HD.out⟩
    case rest =>
    obtain ⟨rfl, rfl, hbc⟩ := hcut
    have HB4 := Lib.hid hbc
    clear hbc
    obtain ⟨w4, rfl⟩ : ∃ W, W = wc := ⟨_, rfl⟩
    go_upto_block 2 with (fail)
    go_cut [13] (fun v5 wx => ∃ k : Nat, v5 = .int .i64 k ∧ k ≤ own.length ∧ (0 < k → ∀ y, own[k - 1]? = some y → ¬ nearer x0 y0 x y) ∧ (k < own.length → ∀ y, own[k]? = some y → nearer x0 y0 x y) ∧ Below w3.heap.size w3 wx)
    case first =>
      go_wp2_with fail
      go_loopw [13] (fun v5 W => ∃ k : Nat, v5 = .int .i64 k ∧ k ≤ own.length ∧ (k < own.length → ∀ y, own[k]? = some y → nearer x0 y0 x y) ∧ Below w3.heap.size w3 W) (fun v5 _ => (intOf v5).toNat)
      case atStart => exact ⟨own.length, by rw [HOl.out], Nat.le_refl _, fun h => by omega, HB4.out⟩
      case round =>
      obtain ⟨k, rfl, hk, hkl2, hb⟩ := hrel
      have HKL := Lib.hid hkl2; have HBk := Lib.hid hb
      clear hkl2 hb
      obtain ⟨w5, rfl⟩ : ∃ W, W = wr := ⟨_, rfl⟩
      by_cases hk0 : 0 < k
      · have dk : decide ((k : Int) > 0) = true := decide_eq_true (by omega)
        have dkn : decide (0 < k) = true := decide_eq_true hk0
        obtain ⟨m, hm⟩ : ∃ m : Nat, k - 1 = m := ⟨_, rfl⟩
        have hw : IntKind.i64.wrap ((k : Int) - 1) = (m : Int) := by rw [IntWalk.i64_in _ (by omega)]; omega
        have hw2 : (k : Int) - 1 = (m : Int) := by omega
        have hm0 : IntKind.i64.wrap (m : Int) = (m : Int) := by rw [IntWalk.i64_in _ (by omega)]
        have hmo : m < own.length := by omega
        have bm : (m : Int) < own.length := by omega
        have bm2 : (m : Int) < i := by omega
        have hmk1 : m + 1 ≤ k := by omega
        have HQy : Hid (∀ W', Below w5.heap.size w5 W' → ∃ g5 o5, Ao = some ⟨g5, o5, none⟩ ∧ AtP W' g5 o5 m (own[m]'hmo)) := Lib.hid (fun W' hb => by
          obtain ⟨g5, o5, e, f5⟩ := p_at (HOwn0.out.below (below_up HBk.out hb)) hmo
          exact ⟨g5, o5, e, f5⟩)
        have HBy := Lib.hid (fun W => HBt.out _ (HFo.out _ (List.getElem_mem hmo)) W)
        have HY : Hid (own[m]? = some own[m]) := Lib.hid (List.getElem?_eq_getElem hmo)
        have HKm := Lib.hid hm
        generalize own[m] = y at *
        clear hm
        obtain ⟨h2, eh2⟩ : ∃ c, dist x0 y0 y.x y.y / 18446744073709551616 = c := ⟨_, rfl⟩
        obtain ⟨m2, em2⟩ : ∃ c, dist x0 y0 y.x y.y % 18446744073709551616 = c := ⟨_, rfl⟩
        rw [eh2, em2] at HBy
        have HNr := Lib.hid (nearer_iff x0 y0 x y h1 m1 h2 m2 HE1.out.1 HE1.out.2 eh2 em2)
        clear eh2 em2
        obtain ⟨g5, o5, rfl, _⟩ := HQy.out _ (Below.refl _ _)
        have HQ5 : Hid (∀ W', Below w5.heap.size w5 W' → AtP W' g5 o5 m y ∧ AtP W' g0 o0 i x) := Lib.hid (fun W' hb => by
          obtain ⟨g6, o6, e, f6⟩ := HQy.out _ hb
          cases e
          exact ⟨f6, HX0.out _ (below_up HBk.out hb)⟩)
        clear HQy
        go_upto_region 9 with (fail)
        go_cut [14, 15] (fun v14 v15 wx => v14 = .int .u64 (h2 : Nat) ∧ v15 = .int .u64 (m2 : Nat) ∧ Below w5.heap.size w5 wx)
        case first =>
          have hd := below_drew1 (w := w5)
          have f5 := (HQ5.out _ hd).1
          have HD := Lib.hid hd
          refine beginS (S := fun W => AtP W g5 o5 m y) [] (by kernel_rfl) f5 (fun hHeld0 => ?_)
          generalize (World.drew w5) = W0 at *
          clear f5 hd
          refine takeF (i := 0) (v := ?_) rfl (by kernel_rfl) (fun _ _ _ h => h) (Or.inl ⟨by kernel_rfl, ?_⟩) (by assumption) ?_; rotate_left; (focus (intro w _; go_simp; (try with_reducible rfl); done)); (try simp only [Act.put, List.getElem_toArray, List.getElem_cons_succ, List.getElem_cons_zero, List.setIfInBounds_toArray, List.set_cons_zero, List.set_cons_succ])
          refine takeF (i := 1) (v := ?_) rfl (by kernel_rfl) (fun _ _ _ h => h) (Or.inl ⟨by kernel_rfl, ?_⟩) (by assumption) ?_; rotate_left; (focus (intro w _; go_simp; (try with_reducible rfl); done)); (try simp only [Act.put, List.getElem_toArray, List.getElem_cons_succ, List.getElem_cons_zero, List.setIfInBounds_toArray, List.set_cons_zero, List.set_cons_succ])
          refine takeF (i := 2) (v := ?_) rfl (by kernel_rfl) (fun _ _ _ h => h) (Or.inl ⟨by kernel_rfl, ?_⟩) (by assumption) ?_; rotate_left; (focus (intro w _; go_simp; (try with_reducible rfl); done)); (try simp only [Act.put, List.getElem_toArray, List.getElem_cons_succ, List.getElem_cons_zero, List.setIfInBounds_toArray, List.set_cons_zero, List.set_cons_succ])
          refine takeF (i := 3) (v := ?_) rfl (by kernel_rfl) (fun _ _ _ h => h) (Or.inl ⟨by kernel_rfl, ?_⟩) (by assumption) ?_; rotate_left; (focus (intro w _; go_simp; (try with_reducible rfl); done)); (try simp only [Act.put, List.getElem_toArray, List.getElem_cons_succ, List.getElem_cons_zero, List.setIfInBounds_toArray, List.set_cons_zero, List.set_cons_succ])
          refine takeF (i := 4) (v := ?_) rfl (by kernel_rfl) (fun _ _ _ h => h) (Or.inl ⟨by kernel_rfl, ?_⟩) (by assumption) ?_; rotate_left; (focus (intro w _; go_simp; (try with_reducible rfl); done)); (try simp only [Act.put, List.getElem_toArray, List.getElem_cons_succ, List.getElem_cons_zero, List.setIfInBounds_toArray, List.set_cons_zero, List.set_cons_succ])
          refine takeF (i := 5) (v := ?_) rfl (by kernel_rfl) (fun _ _ _ h => h) (Or.inl ⟨by kernel_rfl, ?_⟩) (by assumption) ?_; rotate_left; (focus (intro w _; go_simp; (try with_reducible rfl); done)); (try simp only [Act.put, List.getElem_toArray, List.getElem_cons_succ, List.getElem_cons_zero, List.setIfInBounds_toArray, List.set_cons_zero, List.set_cons_succ])
          refine takeF (i := 6) (v := ?_) rfl (by kernel_rfl) (fun _ _ _ h => h) (Or.inl ⟨by kernel_rfl, ?_⟩) (by assumption) ?_; rotate_left; (focus (intro w _; go_simp; (try with_reducible rfl); done)); (try simp only [Act.put, List.getElem_toArray, List.getElem_cons_succ, List.getElem_cons_zero, List.setIfInBounds_toArray, List.set_cons_zero, List.set_cons_succ])
          refine takeH (i := 7) (v := ?_) rfl (by kernel_rfl) (fun _ _ _ h => h) (Or.inl ⟨by kernel_rfl, ?_⟩) (by assumption) ?_; rotate_left; (focus (intro w hSw; (try dsimp only at hSw); go_simp; (try with_reducible rfl); done)); (try simp only [Act.put, List.getElem_toArray, List.getElem_cons_succ, List.getElem_cons_zero, List.setIfInBounds_toArray, List.set_cons_zero, List.set_cons_succ])
          refine takeF (i := 8) (v := ?_) rfl (by kernel_rfl) (fun _ _ _ h => h) (Or.inl ⟨by kernel_rfl, ?_⟩) (by assumption) ?_; rotate_left; (focus (intro w _; go_simp; (try with_reducible rfl); done)); (try simp only [Act.put, List.getElem_toArray, List.getElem_cons_succ, List.getElem_cons_zero, List.setIfInBounds_toArray, List.set_cons_zero, List.set_cons_succ])
          refine takeF (i := 9) (v := ?_) rfl (by kernel_rfl) (fun _ _ _ h => h) (Or.inl ⟨by kernel_rfl, ?_⟩) (by assumption) ?_; rotate_left; (focus (intro w _; go_simp; (try with_reducible rfl); done)); (try simp only [Act.put, List.getElem_toArray, List.getElem_cons_succ, List.getElem_cons_zero, List.setIfInBounds_toArray, List.set_cons_zero, List.set_cons_succ])
          refine takeF (i := 10) (v := ?_) rfl (by kernel_rfl) (fun _ _ _ h => h) (Or.inl ⟨by kernel_rfl, ?_⟩) (by assumption) ?_; rotate_left; (focus (intro w _; go_simp; (try with_reducible rfl); done)); (try simp only [Act.put, List.getElem_toArray, List.getElem_cons_succ, List.getElem_cons_zero, List.setIfInBounds_toArray, List.set_cons_zero, List.set_cons_succ])
          refine takeF (i := 11) (v := ?_) rfl (by kernel_rfl) (fun _ _ _ h => h) (Or.inl ⟨by kernel_rfl, ?_⟩) (by assumption) ?_; rotate_left; (focus (intro w _; go_simp; (try with_reducible rfl); done)); (try simp only [Act.put, List.getElem_toArray, List.getElem_cons_succ, List.getElem_cons_zero, List.setIfInBounds_toArray, List.set_cons_zero, List.set_cons_succ])
          refine takeF (i := 12) (v := ?_) rfl (by kernel_rfl) (fun _ _ _ h => h) (Or.inl ⟨by kernel_rfl, ?_⟩) (by assumption) ?_; rotate_left; (focus (intro w _; go_simp; (try with_reducible rfl); done)); (try simp only [Act.put, List.getElem_toArray, List.getElem_cons_succ, List.getElem_cons_zero, List.setIfInBounds_toArray, List.set_cons_zero, List.set_cons_succ])
          refine takeH (i := 13) (v := ?_) rfl (by kernel_rfl) (fun _ _ _ h => h) (Or.inl ⟨by kernel_rfl, ?_⟩) (by assumption) ?_; rotate_left; (focus (intro w hSw; (try dsimp only at hSw); go_simp; (try with_reducible rfl); done)); (try simp only [Act.put, List.getElem_toArray, List.getElem_cons_succ, List.getElem_cons_zero, List.setIfInBounds_toArray, List.set_cons_zero, List.set_cons_succ])
          refine readyS (rs := [14]) (by kernel_rfl) (by simp) ?_
          refine ReadyS.consH rfl (fun K hK => ?_) ReadyS.nil
          (try simp only [List.getElem_toArray, List.getElem_cons_succ, List.getElem_cons_zero])
          go_simp
          (with_reducible refine (HBy.out _).mono ?_); rintro e W1 ⟨rfl, rfl⟩
          refine hK.out _ _ (hHeld0) (fun hHeld => ?_)
          clear hK K
          (try simp only [Act.put, List.getElem_toArray, List.getElem_cons_succ, List.getElem_cons_zero, List.setIfInBounds_toArray, List.set_cons_zero, List.set_cons_succ])
          clear hHeld0
          refine takeF (i := 15) (v := ?_) rfl (by kernel_rfl) (fun _ _ _ h => h) (Or.inl ⟨by kernel_rfl, ?_⟩) (by assumption) ?_; rotate_left; (focus (intro w _; go_simp; (try with_reducible rfl); done)); (try simp only [Act.put, List.getElem_toArray, List.getElem_cons_succ, List.getElem_cons_zero, List.setIfInBounds_toArray, List.set_cons_zero, List.set_cons_succ])
          refine takeF (i := 16) (v := ?_) rfl (by kernel_rfl) (fun _ _ _ h => h) (Or.inl ⟨by kernel_rfl, ?_⟩) (by assumption) ?_; rotate_left; (focus (intro w _; go_simp; (try with_reducible rfl); done)); (try simp only [Act.put, List.getElem_toArray, List.getElem_cons_succ, List.getElem_cons_zero, List.setIfInBounds_toArray, List.set_cons_zero, List.set_cons_succ])
          refine takeF (i := 17) (v := ?_) rfl (by kernel_rfl) (fun _ _ _ h => h) (Or.inl ⟨by kernel_rfl, ?_⟩) (by assumption) ?_; rotate_left; (focus (intro w _; go_simp; (try with_reducible rfl); done)); (try simp only [Act.put, List.getElem_toArray, List.getElem_cons_succ, List.getElem_cons_zero, List.setIfInBounds_toArray, List.set_cons_zero, List.set_cons_succ])
          refine takeF (i := 18) (v := ?_) rfl (by kernel_rfl) (fun _ _ _ h => h) (Or.inl ⟨by kernel_rfl, ?_⟩) (by assumption) ?_; rotate_left; (focus (intro w _; go_simp; (try with_reducible rfl); done)); (try simp only [Act.put, List.getElem_toArray, List.getElem_cons_succ, List.getElem_cons_zero, List.setIfInBounds_toArray, List.set_cons_zero, List.set_cons_succ])
          refine takeF (i := 19) (v := ?_) rfl (by kernel_rfl) (fun _ _ _ h => h) (Or.inl ⟨by kernel_rfl, ?_⟩) (by assumption) ?_; rotate_left; (focus (intro w _; go_simp; (try with_reducible rfl); done)); (try simp only [Act.put, List.getElem_toArray, List.getElem_cons_succ, List.getElem_cons_zero, List.setIfInBounds_toArray, List.set_cons_zero, List.set_cons_succ])
          clear hHeld
          refine doneS (by kernel_rfl) ?_ _
          go_wp2
          go_meet
          case rel => exact ⟨rfl, rfl, HD.out⟩
        case rest =>
        obtain ⟨rfl, rfl, hbc⟩ := hcut
        have HB5 := Lib.hid hbc
        clear hbc
        obtain ⟨w6, rfl⟩ : ∃ W, W = wc := ⟨_, rfl⟩
        have HD6 := Lib.hid (below_up HBk.out (below_up HB5.out (below_drew1 (w := w6))))
        obtain ⟨f5, f0⟩ := HQ5.out _ (below_up HB5.out (below_drew1 (w := w6)))
        have HLs := Lib.hid (fun W => rless_ok h1 m1 h2 m2 W)
        unfold lessB at HLs
        go_upto_region 10 with (fail)
        by_cases hL : h1 < h2 ∨ (h1 = h2 ∧ m1 < m2)
        · rw [decide_eq_true hL] at HLs
          have HYes := Lib.hid (HNr.out.2 (.inl hL))
          clear hL
          refine beginS (S := fun W => AtP W g5 o5 m y ∧ AtP W g0 o0 i x) [] (by kernel_rfl) ⟨f5, f0⟩ (fun hHeld0 => ?_)
          generalize (World.drew w6) = W0 at *
          clear f5 f0
          refine takeF (i := 0) (v := ?_) rfl (by kernel_rfl) (fun _ _ _ h => h) (Or.inl ⟨by kernel_rfl, ?_⟩) (by assumption) ?_; rotate_left; (focus (intro w _; go_simp; (try with_reducible rfl); done)); (try simp only [Act.put, List.getElem_toArray, List.getElem_cons_succ, List.getElem_cons_zero, List.setIfInBounds_toArray, List.set_cons_zero, List.set_cons_succ])
          refine takeF (i := 1) (v := ?_) rfl (by kernel_rfl) (fun _ _ _ h => h) (Or.inl ⟨by kernel_rfl, ?_⟩) (by assumption) ?_; rotate_left; (focus (intro w _; go_simp; (try with_reducible rfl); done)); (try simp only [Act.put, List.getElem_toArray, List.getElem_cons_succ, List.getElem_cons_zero, List.setIfInBounds_toArray, List.set_cons_zero, List.set_cons_succ])
          refine takeF (i := 2) (v := ?_) rfl (by kernel_rfl) (fun _ _ _ h => h) (Or.inl ⟨by kernel_rfl, ?_⟩) (by assumption) ?_; rotate_left; (focus (intro w _; go_simp; (try with_reducible rfl); done)); (try simp only [Act.put, List.getElem_toArray, List.getElem_cons_succ, List.getElem_cons_zero, List.setIfInBounds_toArray, List.set_cons_zero, List.set_cons_succ])
          refine takeF (i := 3) (v := ?_) rfl (by kernel_rfl) (fun _ _ _ h => h) (Or.inl ⟨by kernel_rfl, ?_⟩) (by assumption) ?_; rotate_left; (focus (intro w _; go_simp; (try with_reducible rfl); done)); (try simp only [Act.put, List.getElem_toArray, List.getElem_cons_succ, List.getElem_cons_zero, List.setIfInBounds_toArray, List.set_cons_zero, List.set_cons_succ])
          refine readyS (rs := [4]) (by kernel_rfl) (by simp) ?_
          refine ReadyS.consH rfl (fun K hK => ?_) ReadyS.nil
          (try simp only [List.getElem_toArray, List.getElem_cons_succ, List.getElem_cons_zero])
          go_simp
          (with_reducible refine (HLs.out _).mono ?_); rintro e W1 ⟨rfl, rfl⟩
          refine hK.out _ _ (hHeld0) (fun hHeld => ?_)
          clear hK K
          (try simp only [Act.put, List.getElem_toArray, List.getElem_cons_succ, List.getElem_cons_zero, List.setIfInBounds_toArray, List.set_cons_zero, List.set_cons_succ])
          clear hHeld0
          refine takeF (i := 5) (v := ?_) rfl (by kernel_rfl) (fun _ _ _ h => h) (Or.inl ⟨by kernel_rfl, ?_⟩) (by assumption) ?_; rotate_left; (focus (intro w _; go_simp; (try with_reducible rfl); done)); (try simp only [Act.put, List.getElem_toArray, List.getElem_cons_succ, List.getElem_cons_zero, List.setIfInBounds_toArray, List.set_cons_zero, List.set_cons_succ])
          refine takeF (i := 6) (v := ?_) rfl (by kernel_rfl) (fun _ _ _ h => h) (Or.inl ⟨by kernel_rfl, ?_⟩) (by assumption) ?_; rotate_left; (focus (intro w _; go_simp; (try with_reducible rfl); done)); (try simp only [Act.put, List.getElem_toArray, List.getElem_cons_succ, List.getElem_cons_zero, List.setIfInBounds_toArray, List.set_cons_zero, List.set_cons_succ])
          refine takeF (i := 7) (v := undef) rfl (by kernel_rfl) (fun _ _ _ h => h) (Or.inr ⟨by kernel_rfl, rfl⟩) (by assumption) ?_; (try simp only [Act.put, List.getElem_toArray, List.getElem_cons_succ, List.getElem_cons_zero, List.setIfInBounds_toArray, List.set_cons_zero, List.set_cons_succ])
          refine takeF (i := 8) (v := undef) rfl (by kernel_rfl) (fun _ _ _ h => h) (Or.inr ⟨by kernel_rfl, rfl⟩) (by assumption) ?_; (try simp only [Act.put, List.getElem_toArray, List.getElem_cons_succ, List.getElem_cons_zero, List.setIfInBounds_toArray, List.set_cons_zero, List.set_cons_succ])
          refine takeF (i := 9) (v := undef) rfl (by kernel_rfl) (fun _ _ _ h => h) (Or.inr ⟨by kernel_rfl, rfl⟩) (by assumption) ?_; (try simp only [Act.put, List.getElem_toArray, List.getElem_cons_succ, List.getElem_cons_zero, List.setIfInBounds_toArray, List.set_cons_zero, List.set_cons_succ])
          refine takeF (i := 10) (v := undef) rfl (by kernel_rfl) (fun _ _ _ h => h) (Or.inr ⟨by kernel_rfl, rfl⟩) (by assumption) ?_; (try simp only [Act.put, List.getElem_toArray, List.getElem_cons_succ, List.getElem_cons_zero, List.setIfInBounds_toArray, List.set_cons_zero, List.set_cons_succ])
          refine takeF (i := 11) (v := undef) rfl (by kernel_rfl) (fun _ _ _ h => h) (Or.inr ⟨by kernel_rfl, rfl⟩) (by assumption) ?_; (try simp only [Act.put, List.getElem_toArray, List.getElem_cons_succ, List.getElem_cons_zero, List.setIfInBounds_toArray, List.set_cons_zero, List.set_cons_succ])
          refine takeF (i := 12) (v := undef) rfl (by kernel_rfl) (fun _ _ _ h => h) (Or.inr ⟨by kernel_rfl, rfl⟩) (by assumption) ?_; (try simp only [Act.put, List.getElem_toArray, List.getElem_cons_succ, List.getElem_cons_zero, List.setIfInBounds_toArray, List.set_cons_zero, List.set_cons_succ])
          refine takeF (i := 13) (v := undef) rfl (by kernel_rfl) (fun _ _ _ h => h) (Or.inr ⟨by kernel_rfl, rfl⟩) (by assumption) ?_; (try simp only [Act.put, List.getElem_toArray, List.getElem_cons_succ, List.getElem_cons_zero, List.setIfInBounds_toArray, List.set_cons_zero, List.set_cons_succ])
          refine takeF (i := 14) (v := undef) rfl (by kernel_rfl) (fun _ _ _ h => h) (Or.inr ⟨by kernel_rfl, rfl⟩) (by assumption) ?_; (try simp only [Act.put, List.getElem_toArray, List.getElem_cons_succ, List.getElem_cons_zero, List.setIfInBounds_toArray, List.set_cons_zero, List.set_cons_succ])
          refine takeF (i := 15) (v := undef) rfl (by kernel_rfl) (fun _ _ _ h => h) (Or.inr ⟨by kernel_rfl, rfl⟩) (by assumption) ?_; (try simp only [Act.put, List.getElem_toArray, List.getElem_cons_succ, List.getElem_cons_zero, List.setIfInBounds_toArray, List.set_cons_zero, List.set_cons_succ])
          refine takeF (i := 16) (v := undef) rfl (by kernel_rfl) (fun _ _ _ h => h) (Or.inr ⟨by kernel_rfl, rfl⟩) (by assumption) ?_; (try simp only [Act.put, List.getElem_toArray, List.getElem_cons_succ, List.getElem_cons_zero, List.setIfInBounds_toArray, List.set_cons_zero, List.set_cons_succ])
          refine takeF (i := 17) (v := undef) rfl (by kernel_rfl) (fun _ _ _ h => h) (Or.inr ⟨by kernel_rfl, rfl⟩) (by assumption) ?_; (try simp only [Act.put, List.getElem_toArray, List.getElem_cons_succ, List.getElem_cons_zero, List.setIfInBounds_toArray, List.set_cons_zero, List.set_cons_succ])
          refine takeF (i := 18) (v := undef) rfl (by kernel_rfl) (fun _ _ _ h => h) (Or.inr ⟨by kernel_rfl, rfl⟩) (by assumption) ?_; (try simp only [Act.put, List.getElem_toArray, List.getElem_cons_succ, List.getElem_cons_zero, List.setIfInBounds_toArray, List.set_cons_zero, List.set_cons_succ])
          refine takeF (i := 19) (v := undef) rfl (by kernel_rfl) (fun _ _ _ h => h) (Or.inr ⟨by kernel_rfl, rfl⟩) (by assumption) ?_; (try simp only [Act.put, List.getElem_toArray, List.getElem_cons_succ, List.getElem_cons_zero, List.setIfInBounds_toArray, List.set_cons_zero, List.set_cons_succ])
          refine takeF (i := 20) (v := undef) rfl (by kernel_rfl) (fun _ _ _ h => h) (Or.inr ⟨by kernel_rfl, rfl⟩) (by assumption) ?_; (try simp only [Act.put, List.getElem_toArray, List.getElem_cons_succ, List.getElem_cons_zero, List.setIfInBounds_toArray, List.set_cons_zero, List.set_cons_succ])
          refine takeF (i := 21) (v := undef) rfl (by kernel_rfl) (fun _ _ _ h => h) (Or.inr ⟨by kernel_rfl, rfl⟩) (by assumption) ?_; (try simp only [Act.put, List.getElem_toArray, List.getElem_cons_succ, List.getElem_cons_zero, List.setIfInBounds_toArray, List.set_cons_zero, List.set_cons_succ])
          refine takeF (i := 22) (v := undef) rfl (by kernel_rfl) (fun _ _ _ h => h) (Or.inr ⟨by kernel_rfl, rfl⟩) (by assumption) ?_; (try simp only [Act.put, List.getElem_toArray, List.getElem_cons_succ, List.getElem_cons_zero, List.setIfInBounds_toArray, List.set_cons_zero, List.set_cons_succ])
          refine takeF (i := 23) (v := undef) rfl (by kernel_rfl) (fun _ _ _ h => h) (Or.inr ⟨by kernel_rfl, rfl⟩) (by assumption) ?_; (try simp only [Act.put, List.getElem_toArray, List.getElem_cons_succ, List.getElem_cons_zero, List.setIfInBounds_toArray, List.set_cons_zero, List.set_cons_succ])
          refine takeF (i := 24) (v := undef) rfl (by kernel_rfl) (fun _ _ _ h => h) (Or.inr ⟨by kernel_rfl, rfl⟩) (by assumption) ?_; (try simp only [Act.put, List.getElem_toArray, List.getElem_cons_succ, List.getElem_cons_zero, List.setIfInBounds_toArray, List.set_cons_zero, List.set_cons_succ])
          refine takeF (i := 25) (v := undef) rfl (by kernel_rfl) (fun _ _ _ h => h) (Or.inr ⟨by kernel_rfl, rfl⟩) (by assumption) ?_; (try simp only [Act.put, List.getElem_toArray, List.getElem_cons_succ, List.getElem_cons_zero, List.setIfInBounds_toArray, List.set_cons_zero, List.set_cons_succ])
          refine takeF (i := 26) (v := undef) rfl (by kernel_rfl) (fun _ _ _ h => h) (Or.inr ⟨by kernel_rfl, rfl⟩) (by assumption) ?_; (try simp only [Act.put, List.getElem_toArray, List.getElem_cons_succ, List.getElem_cons_zero, List.setIfInBounds_toArray, List.set_cons_zero, List.set_cons_succ])
          refine takeF (i := 27) (v := undef) rfl (by kernel_rfl) (fun _ _ _ h => h) (Or.inr ⟨by kernel_rfl, rfl⟩) (by assumption) ?_; (try simp only [Act.put, List.getElem_toArray, List.getElem_cons_succ, List.getElem_cons_zero, List.setIfInBounds_toArray, List.set_cons_zero, List.set_cons_succ])
          refine takeF (i := 28) (v := undef) rfl (by kernel_rfl) (fun _ _ _ h => h) (Or.inr ⟨by kernel_rfl, rfl⟩) (by assumption) ?_; (try simp only [Act.put, List.getElem_toArray, List.getElem_cons_succ, List.getElem_cons_zero, List.setIfInBounds_toArray, List.set_cons_zero, List.set_cons_succ])
          refine takeF (i := 29) (v := undef) rfl (by kernel_rfl) (fun _ _ _ h => h) (Or.inr ⟨by kernel_rfl, rfl⟩) (by assumption) ?_; (try simp only [Act.put, List.getElem_toArray, List.getElem_cons_succ, List.getElem_cons_zero, List.setIfInBounds_toArray, List.set_cons_zero, List.set_cons_succ])
          refine takeF (i := 30) (v := ?_) rfl (by kernel_rfl) (fun _ _ _ h => h) (Or.inl ⟨by kernel_rfl, ?_⟩) (by assumption) ?_; rotate_left; (focus (intro w _; go_simp; (try with_reducible rfl); done)); (try simp only [Act.put, List.getElem_toArray, List.getElem_cons_succ, List.getElem_cons_zero, List.setIfInBounds_toArray, List.set_cons_zero, List.set_cons_succ])
          clear hHeld
          refine doneS (by kernel_rfl) ?_ _
          go_wp2
          exact ⟨⟨m, rfl, by omega, fun _ y' e => by rw [HY.out] at e; cases e; exact HYes.out, HD6.out⟩, by simp [intOf]; omega⟩
        · rw [decide_eq_false hL] at HLs
          by_cases hq : h1 = h2
          · subst hq
            by_cases hm12 : m1 = m2
            · subst hm12
              by_cases hid : x.id < y.id
              · have dl : decide (x.id < y.id) = true := decide_eq_true hid
                have HYes := Lib.hid (HNr.out.2 (.inr ⟨rfl, rfl, hid⟩))
                clear hL hid
                refine beginS (S := fun W => AtP W g5 o5 m y ∧ AtP W g0 o0 i x) [] (by kernel_rfl) ⟨f5, f0⟩ (fun hHeld0 => ?_)
                generalize (World.drew w6) = W0 at *
                clear f5 f0
                refine takeF (i := 0) (v := ?_) rfl (by kernel_rfl) (fun _ _ _ h => h) (Or.inl ⟨by kernel_rfl, ?_⟩) (by assumption) ?_; rotate_left; (focus (intro w _; go_simp; (try with_reducible rfl); done)); (try simp only [Act.put, List.getElem_toArray, List.getElem_cons_succ, List.getElem_cons_zero, List.setIfInBounds_toArray, List.set_cons_zero, List.set_cons_succ])
                refine takeF (i := 1) (v := ?_) rfl (by kernel_rfl) (fun _ _ _ h => h) (Or.inl ⟨by kernel_rfl, ?_⟩) (by assumption) ?_; rotate_left; (focus (intro w _; go_simp; (try with_reducible rfl); done)); (try simp only [Act.put, List.getElem_toArray, List.getElem_cons_succ, List.getElem_cons_zero, List.setIfInBounds_toArray, List.set_cons_zero, List.set_cons_succ])
                refine takeF (i := 2) (v := ?_) rfl (by kernel_rfl) (fun _ _ _ h => h) (Or.inl ⟨by kernel_rfl, ?_⟩) (by assumption) ?_; rotate_left; (focus (intro w _; go_simp; (try with_reducible rfl); done)); (try simp only [Act.put, List.getElem_toArray, List.getElem_cons_succ, List.getElem_cons_zero, List.setIfInBounds_toArray, List.set_cons_zero, List.set_cons_succ])
                refine takeF (i := 3) (v := ?_) rfl (by kernel_rfl) (fun _ _ _ h => h) (Or.inl ⟨by kernel_rfl, ?_⟩) (by assumption) ?_; rotate_left; (focus (intro w _; go_simp; (try with_reducible rfl); done)); (try simp only [Act.put, List.getElem_toArray, List.getElem_cons_succ, List.getElem_cons_zero, List.setIfInBounds_toArray, List.set_cons_zero, List.set_cons_succ])
                refine readyS (rs := [4]) (by kernel_rfl) (by simp) ?_
                refine ReadyS.consH rfl (fun K hK => ?_) ReadyS.nil
                (try simp only [List.getElem_toArray, List.getElem_cons_succ, List.getElem_cons_zero])
                go_simp
                (with_reducible refine (HLs.out _).mono ?_); rintro e W1 ⟨rfl, rfl⟩
                refine hK.out _ _ (hHeld0) (fun hHeld => ?_)
                clear hK K
                (try simp only [Act.put, List.getElem_toArray, List.getElem_cons_succ, List.getElem_cons_zero, List.setIfInBounds_toArray, List.set_cons_zero, List.set_cons_succ])
                clear hHeld0
                refine takeF (i := 5) (v := ?_) rfl (by kernel_rfl) (fun _ _ _ h => h) (Or.inl ⟨by kernel_rfl, ?_⟩) (by assumption) ?_; rotate_left; (focus (intro w _; go_simp; (try with_reducible rfl); done)); (try simp only [Act.put, List.getElem_toArray, List.getElem_cons_succ, List.getElem_cons_zero, List.setIfInBounds_toArray, List.set_cons_zero, List.set_cons_succ])
                refine takeF (i := 6) (v := ?_) rfl (by kernel_rfl) (fun _ _ _ h => h) (Or.inl ⟨by kernel_rfl, ?_⟩) (by assumption) ?_; rotate_left; (focus (intro w _; go_simp; (try with_reducible rfl); done)); (try simp only [Act.put, List.getElem_toArray, List.getElem_cons_succ, List.getElem_cons_zero, List.setIfInBounds_toArray, List.set_cons_zero, List.set_cons_succ])
                refine takeF (i := 7) (v := ?_) rfl (by kernel_rfl) (fun _ _ _ h => h) (Or.inl ⟨by kernel_rfl, ?_⟩) (by assumption) ?_; rotate_left; (focus (intro w _; go_simp; (try with_reducible rfl); done)); (try simp only [Act.put, List.getElem_toArray, List.getElem_cons_succ, List.getElem_cons_zero, List.setIfInBounds_toArray, List.set_cons_zero, List.set_cons_succ])
                refine takeF (i := 8) (v := ?_) rfl (by kernel_rfl) (fun _ _ _ h => h) (Or.inl ⟨by kernel_rfl, ?_⟩) (by assumption) ?_; rotate_left; (focus (intro w _; go_simp; (try with_reducible rfl); done)); (try simp only [Act.put, List.getElem_toArray, List.getElem_cons_succ, List.getElem_cons_zero, List.setIfInBounds_toArray, List.set_cons_zero, List.set_cons_succ])
                refine takeF (i := 9) (v := ?_) rfl (by kernel_rfl) (fun _ _ _ h => h) (Or.inl ⟨by kernel_rfl, ?_⟩) (by assumption) ?_; rotate_left; (focus (intro w _; go_simp; (try with_reducible rfl); done)); (try simp only [Act.put, List.getElem_toArray, List.getElem_cons_succ, List.getElem_cons_zero, List.setIfInBounds_toArray, List.set_cons_zero, List.set_cons_succ])
                refine takeF (i := 10) (v := ?_) rfl (by kernel_rfl) (fun _ _ _ h => h) (Or.inl ⟨by kernel_rfl, ?_⟩) (by assumption) ?_; rotate_left; (focus (intro w _; go_simp; (try with_reducible rfl); done)); (try simp only [Act.put, List.getElem_toArray, List.getElem_cons_succ, List.getElem_cons_zero, List.setIfInBounds_toArray, List.set_cons_zero, List.set_cons_succ])
                refine takeF (i := 11) (v := ?_) rfl (by kernel_rfl) (fun _ _ _ h => h) (Or.inl ⟨by kernel_rfl, ?_⟩) (by assumption) ?_; rotate_left; (focus (intro w _; go_simp; (try with_reducible rfl); done)); (try simp only [Act.put, List.getElem_toArray, List.getElem_cons_succ, List.getElem_cons_zero, List.setIfInBounds_toArray, List.set_cons_zero, List.set_cons_succ])
                refine takeF (i := 12) (v := ?_) rfl (by kernel_rfl) (fun _ _ _ h => h) (Or.inl ⟨by kernel_rfl, ?_⟩) (by assumption) ?_; rotate_left; (focus (intro w _; go_simp; (try with_reducible rfl); done)); (try simp only [Act.put, List.getElem_toArray, List.getElem_cons_succ, List.getElem_cons_zero, List.setIfInBounds_toArray, List.set_cons_zero, List.set_cons_succ])
                refine takeF (i := 13) (v := ?_) rfl (by kernel_rfl) (fun _ _ _ h => h) (Or.inl ⟨by kernel_rfl, ?_⟩) (by assumption) ?_; rotate_left; (focus (intro w _; go_simp; (try with_reducible rfl); done)); (try simp only [Act.put, List.getElem_toArray, List.getElem_cons_succ, List.getElem_cons_zero, List.setIfInBounds_toArray, List.set_cons_zero, List.set_cons_succ])
                refine takeF (i := 14) (v := ?_) rfl (by kernel_rfl) (fun _ _ _ h => h) (Or.inl ⟨by kernel_rfl, ?_⟩) (by assumption) ?_; rotate_left; (focus (intro w _; go_simp; (try with_reducible rfl); done)); (try simp only [Act.put, List.getElem_toArray, List.getElem_cons_succ, List.getElem_cons_zero, List.setIfInBounds_toArray, List.set_cons_zero, List.set_cons_succ])
                refine takeF (i := 15) (v := ?_) rfl (by kernel_rfl) (fun _ _ _ h => h) (Or.inl ⟨by kernel_rfl, ?_⟩) (by assumption) ?_; rotate_left; (focus (intro w _; go_simp; (try with_reducible rfl); done)); (try simp only [Act.put, List.getElem_toArray, List.getElem_cons_succ, List.getElem_cons_zero, List.setIfInBounds_toArray, List.set_cons_zero, List.set_cons_succ])
                refine takeF (i := 16) (v := ?_) rfl (by kernel_rfl) (fun _ _ _ h => h) (Or.inl ⟨by kernel_rfl, ?_⟩) (by assumption) ?_; rotate_left; (focus (intro w _; go_simp; (try with_reducible rfl); done)); (try simp only [Act.put, List.getElem_toArray, List.getElem_cons_succ, List.getElem_cons_zero, List.setIfInBounds_toArray, List.set_cons_zero, List.set_cons_succ])
                refine takeF (i := 17) (v := ?_) rfl (by kernel_rfl) (fun _ _ _ h => h) (Or.inl ⟨by kernel_rfl, ?_⟩) (by assumption) ?_; rotate_left; (focus (intro w _; go_simp; (try with_reducible rfl); done)); (try simp only [Act.put, List.getElem_toArray, List.getElem_cons_succ, List.getElem_cons_zero, List.setIfInBounds_toArray, List.set_cons_zero, List.set_cons_succ])
                refine takeF (i := 18) (v := ?_) rfl (by kernel_rfl) (fun _ _ _ h => h) (Or.inl ⟨by kernel_rfl, ?_⟩) (by assumption) ?_; rotate_left; (focus (intro w _; go_simp; (try with_reducible rfl); done)); (try simp only [Act.put, List.getElem_toArray, List.getElem_cons_succ, List.getElem_cons_zero, List.setIfInBounds_toArray, List.set_cons_zero, List.set_cons_succ])
                refine takeF (i := 19) (v := ?_) rfl (by kernel_rfl) (fun _ _ _ h => h) (Or.inl ⟨by kernel_rfl, ?_⟩) (by assumption) ?_; rotate_left; (focus (intro w _; go_simp; (try with_reducible rfl); done)); (try simp only [Act.put, List.getElem_toArray, List.getElem_cons_succ, List.getElem_cons_zero, List.setIfInBounds_toArray, List.set_cons_zero, List.set_cons_succ])
                refine takeH (i := 20) (v := ?_) rfl (by kernel_rfl) (fun _ _ _ h => h) (Or.inl ⟨by kernel_rfl, ?_⟩) (by assumption) ?_; rotate_left; (focus (intro w hSw; (try dsimp only at hSw); go_simp; (try with_reducible rfl); done)); (try simp only [Act.put, List.getElem_toArray, List.getElem_cons_succ, List.getElem_cons_zero, List.setIfInBounds_toArray, List.set_cons_zero, List.set_cons_succ])
                refine takeF (i := 21) (v := ?_) rfl (by kernel_rfl) (fun _ _ _ h => h) (Or.inl ⟨by kernel_rfl, ?_⟩) (by assumption) ?_; rotate_left; (focus (intro w _; go_simp; (try with_reducible rfl); done)); (try simp only [Act.put, List.getElem_toArray, List.getElem_cons_succ, List.getElem_cons_zero, List.setIfInBounds_toArray, List.set_cons_zero, List.set_cons_succ])
                refine takeF (i := 22) (v := ?_) rfl (by kernel_rfl) (fun _ _ _ h => h) (Or.inl ⟨by kernel_rfl, ?_⟩) (by assumption) ?_; rotate_left; (focus (intro w _; go_simp; (try with_reducible rfl); done)); (try simp only [Act.put, List.getElem_toArray, List.getElem_cons_succ, List.getElem_cons_zero, List.setIfInBounds_toArray, List.set_cons_zero, List.set_cons_succ])
                refine takeF (i := 23) (v := ?_) rfl (by kernel_rfl) (fun _ _ _ h => h) (Or.inl ⟨by kernel_rfl, ?_⟩) (by assumption) ?_; rotate_left; (focus (intro w _; go_simp; (try with_reducible rfl); done)); (try simp only [Act.put, List.getElem_toArray, List.getElem_cons_succ, List.getElem_cons_zero, List.setIfInBounds_toArray, List.set_cons_zero, List.set_cons_succ])
                refine takeF (i := 24) (v := ?_) rfl (by kernel_rfl) (fun _ _ _ h => h) (Or.inl ⟨by kernel_rfl, ?_⟩) (by assumption) ?_; rotate_left; (focus (intro w _; go_simp; (try with_reducible rfl); done)); (try simp only [Act.put, List.getElem_toArray, List.getElem_cons_succ, List.getElem_cons_zero, List.setIfInBounds_toArray, List.set_cons_zero, List.set_cons_succ])
                refine takeF (i := 25) (v := ?_) rfl (by kernel_rfl) (fun _ _ _ h => h) (Or.inl ⟨by kernel_rfl, ?_⟩) (by assumption) ?_; rotate_left; (focus (intro w _; go_simp; (try with_reducible rfl); done)); (try simp only [Act.put, List.getElem_toArray, List.getElem_cons_succ, List.getElem_cons_zero, List.setIfInBounds_toArray, List.set_cons_zero, List.set_cons_succ])
                refine takeH (i := 26) (v := ?_) rfl (by kernel_rfl) (fun _ _ _ h => h) (Or.inl ⟨by kernel_rfl, ?_⟩) (by assumption) ?_; rotate_left; (focus (intro w hSw; (try dsimp only at hSw); go_simp; (try with_reducible rfl); done)); (try simp only [Act.put, List.getElem_toArray, List.getElem_cons_succ, List.getElem_cons_zero, List.setIfInBounds_toArray, List.set_cons_zero, List.set_cons_succ])
                refine takeF (i := 27) (v := ?_) rfl (by kernel_rfl) (fun _ _ _ h => h) (Or.inl ⟨by kernel_rfl, ?_⟩) (by assumption) ?_; rotate_left; (focus (intro w _; go_simp; (try with_reducible rfl); done)); (try simp only [Act.put, List.getElem_toArray, List.getElem_cons_succ, List.getElem_cons_zero, List.setIfInBounds_toArray, List.set_cons_zero, List.set_cons_succ])
                refine takeF (i := 28) (v := ?_) rfl (by kernel_rfl) (fun _ _ _ h => h) (Or.inl ⟨by kernel_rfl, ?_⟩) (by assumption) ?_; rotate_left; (focus (intro w _; go_simp; (try with_reducible rfl); done)); (try simp only [Act.put, List.getElem_toArray, List.getElem_cons_succ, List.getElem_cons_zero, List.setIfInBounds_toArray, List.set_cons_zero, List.set_cons_succ])
                refine takeF (i := 29) (v := ?_) rfl (by kernel_rfl) (fun _ _ _ h => h) (Or.inl ⟨by kernel_rfl, ?_⟩) (by assumption) ?_; rotate_left; (focus (intro w _; go_simp; (try with_reducible rfl); done)); (try simp only [Act.put, List.getElem_toArray, List.getElem_cons_succ, List.getElem_cons_zero, List.setIfInBounds_toArray, List.set_cons_zero, List.set_cons_succ])
                refine takeF (i := 30) (v := ?_) rfl (by kernel_rfl) (fun _ _ _ h => h) (Or.inl ⟨by kernel_rfl, ?_⟩) (by assumption) ?_; rotate_left; (focus (intro w _; go_simp; (try with_reducible rfl); done)); (try simp only [Act.put, List.getElem_toArray, List.getElem_cons_succ, List.getElem_cons_zero, List.setIfInBounds_toArray, List.set_cons_zero, List.set_cons_succ])
                clear hHeld
                refine doneS (by kernel_rfl) ?_ _
                go_wp2
                exact ⟨⟨m, rfl, by omega, fun _ y' e => by rw [HY.out] at e; cases e; exact HYes.out, HD6.out⟩, by simp [intOf]; omega⟩
              · have dl : decide (x.id < y.id) = false := decide_eq_false hid
                have HNo := Lib.hid (fun h => by
                  rcases HNr.out.1 h with h | h
                  · exact hL h
                  · exact hid h.2.2)
                clear hL hid
                refine beginS (S := fun W => AtP W g5 o5 m y ∧ AtP W g0 o0 i x) [] (by kernel_rfl) ⟨f5, f0⟩ (fun hHeld0 => ?_)
                generalize (World.drew w6) = W0 at *
                clear f5 f0
                refine takeF (i := 0) (v := ?_) rfl (by kernel_rfl) (fun _ _ _ h => h) (Or.inl ⟨by kernel_rfl, ?_⟩) (by assumption) ?_; rotate_left; (focus (intro w _; go_simp; (try with_reducible rfl); done)); (try simp only [Act.put, List.getElem_toArray, List.getElem_cons_succ, List.getElem_cons_zero, List.setIfInBounds_toArray, List.set_cons_zero, List.set_cons_succ])
                refine takeF (i := 1) (v := ?_) rfl (by kernel_rfl) (fun _ _ _ h => h) (Or.inl ⟨by kernel_rfl, ?_⟩) (by assumption) ?_; rotate_left; (focus (intro w _; go_simp; (try with_reducible rfl); done)); (try simp only [Act.put, List.getElem_toArray, List.getElem_cons_succ, List.getElem_cons_zero, List.setIfInBounds_toArray, List.set_cons_zero, List.set_cons_succ])
                refine takeF (i := 2) (v := ?_) rfl (by kernel_rfl) (fun _ _ _ h => h) (Or.inl ⟨by kernel_rfl, ?_⟩) (by assumption) ?_; rotate_left; (focus (intro w _; go_simp; (try with_reducible rfl); done)); (try simp only [Act.put, List.getElem_toArray, List.getElem_cons_succ, List.getElem_cons_zero, List.setIfInBounds_toArray, List.set_cons_zero, List.set_cons_succ])
                refine takeF (i := 3) (v := ?_) rfl (by kernel_rfl) (fun _ _ _ h => h) (Or.inl ⟨by kernel_rfl, ?_⟩) (by assumption) ?_; rotate_left; (focus (intro w _; go_simp; (try with_reducible rfl); done)); (try simp only [Act.put, List.getElem_toArray, List.getElem_cons_succ, List.getElem_cons_zero, List.setIfInBounds_toArray, List.set_cons_zero, List.set_cons_succ])
                refine readyS (rs := [4]) (by kernel_rfl) (by simp) ?_
                refine ReadyS.consH rfl (fun K hK => ?_) ReadyS.nil
                (try simp only [List.getElem_toArray, List.getElem_cons_succ, List.getElem_cons_zero])
                go_simp
                (with_reducible refine (HLs.out _).mono ?_); rintro e W1 ⟨rfl, rfl⟩
                refine hK.out _ _ (hHeld0) (fun hHeld => ?_)
                clear hK K
                (try simp only [Act.put, List.getElem_toArray, List.getElem_cons_succ, List.getElem_cons_zero, List.setIfInBounds_toArray, List.set_cons_zero, List.set_cons_succ])
                clear hHeld0
                refine takeF (i := 5) (v := ?_) rfl (by kernel_rfl) (fun _ _ _ h => h) (Or.inl ⟨by kernel_rfl, ?_⟩) (by assumption) ?_; rotate_left; (focus (intro w _; go_simp; (try with_reducible rfl); done)); (try simp only [Act.put, List.getElem_toArray, List.getElem_cons_succ, List.getElem_cons_zero, List.setIfInBounds_toArray, List.set_cons_zero, List.set_cons_succ])
                refine takeF (i := 6) (v := ?_) rfl (by kernel_rfl) (fun _ _ _ h => h) (Or.inl ⟨by kernel_rfl, ?_⟩) (by assumption) ?_; rotate_left; (focus (intro w _; go_simp; (try with_reducible rfl); done)); (try simp only [Act.put, List.getElem_toArray, List.getElem_cons_succ, List.getElem_cons_zero, List.setIfInBounds_toArray, List.set_cons_zero, List.set_cons_succ])
                refine takeF (i := 7) (v := ?_) rfl (by kernel_rfl) (fun _ _ _ h => h) (Or.inl ⟨by kernel_rfl, ?_⟩) (by assumption) ?_; rotate_left; (focus (intro w _; go_simp; (try with_reducible rfl); done)); (try simp only [Act.put, List.getElem_toArray, List.getElem_cons_succ, List.getElem_cons_zero, List.setIfInBounds_toArray, List.set_cons_zero, List.set_cons_succ])
                refine takeF (i := 8) (v := ?_) rfl (by kernel_rfl) (fun _ _ _ h => h) (Or.inl ⟨by kernel_rfl, ?_⟩) (by assumption) ?_; rotate_left; (focus (intro w _; go_simp; (try with_reducible rfl); done)); (try simp only [Act.put, List.getElem_toArray, List.getElem_cons_succ, List.getElem_cons_zero, List.setIfInBounds_toArray, List.set_cons_zero, List.set_cons_succ])
                refine takeF (i := 9) (v := ?_) rfl (by kernel_rfl) (fun _ _ _ h => h) (Or.inl ⟨by kernel_rfl, ?_⟩) (by assumption) ?_; rotate_left; (focus (intro w _; go_simp; (try with_reducible rfl); done)); (try simp only [Act.put, List.getElem_toArray, List.getElem_cons_succ, List.getElem_cons_zero, List.setIfInBounds_toArray, List.set_cons_zero, List.set_cons_succ])
                refine takeF (i := 10) (v := ?_) rfl (by kernel_rfl) (fun _ _ _ h => h) (Or.inl ⟨by kernel_rfl, ?_⟩) (by assumption) ?_; rotate_left; (focus (intro w _; go_simp; (try with_reducible rfl); done)); (try simp only [Act.put, List.getElem_toArray, List.getElem_cons_succ, List.getElem_cons_zero, List.setIfInBounds_toArray, List.set_cons_zero, List.set_cons_succ])
                refine takeF (i := 11) (v := ?_) rfl (by kernel_rfl) (fun _ _ _ h => h) (Or.inl ⟨by kernel_rfl, ?_⟩) (by assumption) ?_; rotate_left; (focus (intro w _; go_simp; (try with_reducible rfl); done)); (try simp only [Act.put, List.getElem_toArray, List.getElem_cons_succ, List.getElem_cons_zero, List.setIfInBounds_toArray, List.set_cons_zero, List.set_cons_succ])
                refine takeF (i := 12) (v := ?_) rfl (by kernel_rfl) (fun _ _ _ h => h) (Or.inl ⟨by kernel_rfl, ?_⟩) (by assumption) ?_; rotate_left; (focus (intro w _; go_simp; (try with_reducible rfl); done)); (try simp only [Act.put, List.getElem_toArray, List.getElem_cons_succ, List.getElem_cons_zero, List.setIfInBounds_toArray, List.set_cons_zero, List.set_cons_succ])
                refine takeF (i := 13) (v := ?_) rfl (by kernel_rfl) (fun _ _ _ h => h) (Or.inl ⟨by kernel_rfl, ?_⟩) (by assumption) ?_; rotate_left; (focus (intro w _; go_simp; (try with_reducible rfl); done)); (try simp only [Act.put, List.getElem_toArray, List.getElem_cons_succ, List.getElem_cons_zero, List.setIfInBounds_toArray, List.set_cons_zero, List.set_cons_succ])
                refine takeF (i := 14) (v := ?_) rfl (by kernel_rfl) (fun _ _ _ h => h) (Or.inl ⟨by kernel_rfl, ?_⟩) (by assumption) ?_; rotate_left; (focus (intro w _; go_simp; (try with_reducible rfl); done)); (try simp only [Act.put, List.getElem_toArray, List.getElem_cons_succ, List.getElem_cons_zero, List.setIfInBounds_toArray, List.set_cons_zero, List.set_cons_succ])
                refine takeF (i := 15) (v := ?_) rfl (by kernel_rfl) (fun _ _ _ h => h) (Or.inl ⟨by kernel_rfl, ?_⟩) (by assumption) ?_; rotate_left; (focus (intro w _; go_simp; (try with_reducible rfl); done)); (try simp only [Act.put, List.getElem_toArray, List.getElem_cons_succ, List.getElem_cons_zero, List.setIfInBounds_toArray, List.set_cons_zero, List.set_cons_succ])
                refine takeF (i := 16) (v := ?_) rfl (by kernel_rfl) (fun _ _ _ h => h) (Or.inl ⟨by kernel_rfl, ?_⟩) (by assumption) ?_; rotate_left; (focus (intro w _; go_simp; (try with_reducible rfl); done)); (try simp only [Act.put, List.getElem_toArray, List.getElem_cons_succ, List.getElem_cons_zero, List.setIfInBounds_toArray, List.set_cons_zero, List.set_cons_succ])
                refine takeF (i := 17) (v := ?_) rfl (by kernel_rfl) (fun _ _ _ h => h) (Or.inl ⟨by kernel_rfl, ?_⟩) (by assumption) ?_; rotate_left; (focus (intro w _; go_simp; (try with_reducible rfl); done)); (try simp only [Act.put, List.getElem_toArray, List.getElem_cons_succ, List.getElem_cons_zero, List.setIfInBounds_toArray, List.set_cons_zero, List.set_cons_succ])
                refine takeF (i := 18) (v := ?_) rfl (by kernel_rfl) (fun _ _ _ h => h) (Or.inl ⟨by kernel_rfl, ?_⟩) (by assumption) ?_; rotate_left; (focus (intro w _; go_simp; (try with_reducible rfl); done)); (try simp only [Act.put, List.getElem_toArray, List.getElem_cons_succ, List.getElem_cons_zero, List.setIfInBounds_toArray, List.set_cons_zero, List.set_cons_succ])
                refine takeF (i := 19) (v := ?_) rfl (by kernel_rfl) (fun _ _ _ h => h) (Or.inl ⟨by kernel_rfl, ?_⟩) (by assumption) ?_; rotate_left; (focus (intro w _; go_simp; (try with_reducible rfl); done)); (try simp only [Act.put, List.getElem_toArray, List.getElem_cons_succ, List.getElem_cons_zero, List.setIfInBounds_toArray, List.set_cons_zero, List.set_cons_succ])
                refine takeH (i := 20) (v := ?_) rfl (by kernel_rfl) (fun _ _ _ h => h) (Or.inl ⟨by kernel_rfl, ?_⟩) (by assumption) ?_; rotate_left; (focus (intro w hSw; (try dsimp only at hSw); go_simp; (try with_reducible rfl); done)); (try simp only [Act.put, List.getElem_toArray, List.getElem_cons_succ, List.getElem_cons_zero, List.setIfInBounds_toArray, List.set_cons_zero, List.set_cons_succ])
                refine takeF (i := 21) (v := ?_) rfl (by kernel_rfl) (fun _ _ _ h => h) (Or.inl ⟨by kernel_rfl, ?_⟩) (by assumption) ?_; rotate_left; (focus (intro w _; go_simp; (try with_reducible rfl); done)); (try simp only [Act.put, List.getElem_toArray, List.getElem_cons_succ, List.getElem_cons_zero, List.setIfInBounds_toArray, List.set_cons_zero, List.set_cons_succ])
                refine takeF (i := 22) (v := ?_) rfl (by kernel_rfl) (fun _ _ _ h => h) (Or.inl ⟨by kernel_rfl, ?_⟩) (by assumption) ?_; rotate_left; (focus (intro w _; go_simp; (try with_reducible rfl); done)); (try simp only [Act.put, List.getElem_toArray, List.getElem_cons_succ, List.getElem_cons_zero, List.setIfInBounds_toArray, List.set_cons_zero, List.set_cons_succ])
                refine takeF (i := 23) (v := ?_) rfl (by kernel_rfl) (fun _ _ _ h => h) (Or.inl ⟨by kernel_rfl, ?_⟩) (by assumption) ?_; rotate_left; (focus (intro w _; go_simp; (try with_reducible rfl); done)); (try simp only [Act.put, List.getElem_toArray, List.getElem_cons_succ, List.getElem_cons_zero, List.setIfInBounds_toArray, List.set_cons_zero, List.set_cons_succ])
                refine takeF (i := 24) (v := ?_) rfl (by kernel_rfl) (fun _ _ _ h => h) (Or.inl ⟨by kernel_rfl, ?_⟩) (by assumption) ?_; rotate_left; (focus (intro w _; go_simp; (try with_reducible rfl); done)); (try simp only [Act.put, List.getElem_toArray, List.getElem_cons_succ, List.getElem_cons_zero, List.setIfInBounds_toArray, List.set_cons_zero, List.set_cons_succ])
                refine takeF (i := 25) (v := ?_) rfl (by kernel_rfl) (fun _ _ _ h => h) (Or.inl ⟨by kernel_rfl, ?_⟩) (by assumption) ?_; rotate_left; (focus (intro w _; go_simp; (try with_reducible rfl); done)); (try simp only [Act.put, List.getElem_toArray, List.getElem_cons_succ, List.getElem_cons_zero, List.setIfInBounds_toArray, List.set_cons_zero, List.set_cons_succ])
                refine takeH (i := 26) (v := ?_) rfl (by kernel_rfl) (fun _ _ _ h => h) (Or.inl ⟨by kernel_rfl, ?_⟩) (by assumption) ?_; rotate_left; (focus (intro w hSw; (try dsimp only at hSw); go_simp; (try with_reducible rfl); done)); (try simp only [Act.put, List.getElem_toArray, List.getElem_cons_succ, List.getElem_cons_zero, List.setIfInBounds_toArray, List.set_cons_zero, List.set_cons_succ])
                refine takeF (i := 27) (v := ?_) rfl (by kernel_rfl) (fun _ _ _ h => h) (Or.inl ⟨by kernel_rfl, ?_⟩) (by assumption) ?_; rotate_left; (focus (intro w _; go_simp; (try with_reducible rfl); done)); (try simp only [Act.put, List.getElem_toArray, List.getElem_cons_succ, List.getElem_cons_zero, List.setIfInBounds_toArray, List.set_cons_zero, List.set_cons_succ])
                refine takeF (i := 28) (v := ?_) rfl (by kernel_rfl) (fun _ _ _ h => h) (Or.inl ⟨by kernel_rfl, ?_⟩) (by assumption) ?_; rotate_left; (focus (intro w _; go_simp; (try with_reducible rfl); done)); (try simp only [Act.put, List.getElem_toArray, List.getElem_cons_succ, List.getElem_cons_zero, List.setIfInBounds_toArray, List.set_cons_zero, List.set_cons_succ])
                refine takeF (i := 29) (v := ?_) rfl (by kernel_rfl) (fun _ _ _ h => h) (Or.inl ⟨by kernel_rfl, ?_⟩) (by assumption) ?_; rotate_left; (focus (intro w _; go_simp; (try with_reducible rfl); done)); (try simp only [Act.put, List.getElem_toArray, List.getElem_cons_succ, List.getElem_cons_zero, List.setIfInBounds_toArray, List.set_cons_zero, List.set_cons_succ])
                refine takeF (i := 30) (v := ?_) rfl (by kernel_rfl) (fun _ _ _ h => h) (Or.inl ⟨by kernel_rfl, ?_⟩) (by assumption) ?_; rotate_left; (focus (intro w _; go_simp; (try with_reducible rfl); done)); (try simp only [Act.put, List.getElem_toArray, List.getElem_cons_succ, List.getElem_cons_zero, List.setIfInBounds_toArray, List.set_cons_zero, List.set_cons_succ])
                clear hHeld
                refine doneS (by kernel_rfl) ?_ _
                go_wp2
                go_meet
                case rel => exact ⟨k, rfl, hk, fun _ y' e => by rw [HKm.out, HY.out] at e; cases e; exact HNo.out, HKL.out, HD6.out⟩
            · have HNo := Lib.hid (fun h => by
                rcases HNr.out.1 h with h | h
                · exact hL h
                · exact hm12 h.2.1)
              have dm : (m1 == m2) = false := by rw [beq_eq_false_iff_ne]; exact hm12
              have dmi : ((m1 : Int) == m2) = false := by rw [beq_eq_false_iff_ne]; omega
              clear hL hm12
              refine beginS (S := fun W => AtP W g5 o5 m y ∧ AtP W g0 o0 i x) [] (by kernel_rfl) ⟨f5, f0⟩ (fun hHeld0 => ?_)
              generalize (World.drew w6) = W0 at *
              clear f5 f0
              refine takeF (i := 0) (v := ?_) rfl (by kernel_rfl) (fun _ _ _ h => h) (Or.inl ⟨by kernel_rfl, ?_⟩) (by assumption) ?_; rotate_left; (focus (intro w _; go_simp; (try with_reducible rfl); done)); (try simp only [Act.put, List.getElem_toArray, List.getElem_cons_succ, List.getElem_cons_zero, List.setIfInBounds_toArray, List.set_cons_zero, List.set_cons_succ])
              refine takeF (i := 1) (v := ?_) rfl (by kernel_rfl) (fun _ _ _ h => h) (Or.inl ⟨by kernel_rfl, ?_⟩) (by assumption) ?_; rotate_left; (focus (intro w _; go_simp; (try with_reducible rfl); done)); (try simp only [Act.put, List.getElem_toArray, List.getElem_cons_succ, List.getElem_cons_zero, List.setIfInBounds_toArray, List.set_cons_zero, List.set_cons_succ])
              refine takeF (i := 2) (v := ?_) rfl (by kernel_rfl) (fun _ _ _ h => h) (Or.inl ⟨by kernel_rfl, ?_⟩) (by assumption) ?_; rotate_left; (focus (intro w _; go_simp; (try with_reducible rfl); done)); (try simp only [Act.put, List.getElem_toArray, List.getElem_cons_succ, List.getElem_cons_zero, List.setIfInBounds_toArray, List.set_cons_zero, List.set_cons_succ])
              refine takeF (i := 3) (v := ?_) rfl (by kernel_rfl) (fun _ _ _ h => h) (Or.inl ⟨by kernel_rfl, ?_⟩) (by assumption) ?_; rotate_left; (focus (intro w _; go_simp; (try with_reducible rfl); done)); (try simp only [Act.put, List.getElem_toArray, List.getElem_cons_succ, List.getElem_cons_zero, List.setIfInBounds_toArray, List.set_cons_zero, List.set_cons_succ])
              refine readyS (rs := [4]) (by kernel_rfl) (by simp) ?_
              refine ReadyS.consH rfl (fun K hK => ?_) ReadyS.nil
              (try simp only [List.getElem_toArray, List.getElem_cons_succ, List.getElem_cons_zero])
              go_simp
              (with_reducible refine (HLs.out _).mono ?_); rintro e W1 ⟨rfl, rfl⟩
              refine hK.out _ _ (hHeld0) (fun hHeld => ?_)
              clear hK K
              (try simp only [Act.put, List.getElem_toArray, List.getElem_cons_succ, List.getElem_cons_zero, List.setIfInBounds_toArray, List.set_cons_zero, List.set_cons_succ])
              clear hHeld0
              refine takeF (i := 5) (v := ?_) rfl (by kernel_rfl) (fun _ _ _ h => h) (Or.inl ⟨by kernel_rfl, ?_⟩) (by assumption) ?_; rotate_left; (focus (intro w _; go_simp; (try with_reducible rfl); done)); (try simp only [Act.put, List.getElem_toArray, List.getElem_cons_succ, List.getElem_cons_zero, List.setIfInBounds_toArray, List.set_cons_zero, List.set_cons_succ])
              refine takeF (i := 6) (v := ?_) rfl (by kernel_rfl) (fun _ _ _ h => h) (Or.inl ⟨by kernel_rfl, ?_⟩) (by assumption) ?_; rotate_left; (focus (intro w _; go_simp; (try with_reducible rfl); done)); (try simp only [Act.put, List.getElem_toArray, List.getElem_cons_succ, List.getElem_cons_zero, List.setIfInBounds_toArray, List.set_cons_zero, List.set_cons_succ])
              refine takeF (i := 7) (v := ?_) rfl (by kernel_rfl) (fun _ _ _ h => h) (Or.inl ⟨by kernel_rfl, ?_⟩) (by assumption) ?_; rotate_left; (focus (intro w _; go_simp; (try with_reducible rfl); done)); (try simp only [Act.put, List.getElem_toArray, List.getElem_cons_succ, List.getElem_cons_zero, List.setIfInBounds_toArray, List.set_cons_zero, List.set_cons_succ])
              refine takeF (i := 8) (v := ?_) rfl (by kernel_rfl) (fun _ _ _ h => h) (Or.inl ⟨by kernel_rfl, ?_⟩) (by assumption) ?_; rotate_left; (focus (intro w _; go_simp; (try with_reducible rfl); done)); (try simp only [Act.put, List.getElem_toArray, List.getElem_cons_succ, List.getElem_cons_zero, List.setIfInBounds_toArray, List.set_cons_zero, List.set_cons_succ])
              refine takeF (i := 9) (v := ?_) rfl (by kernel_rfl) (fun _ _ _ h => h) (Or.inl ⟨by kernel_rfl, ?_⟩) (by assumption) ?_; rotate_left; (focus (intro w _; go_simp; (try with_reducible rfl); done)); (try simp only [Act.put, List.getElem_toArray, List.getElem_cons_succ, List.getElem_cons_zero, List.setIfInBounds_toArray, List.set_cons_zero, List.set_cons_succ])
              refine takeF (i := 10) (v := ?_) rfl (by kernel_rfl) (fun _ _ _ h => h) (Or.inl ⟨by kernel_rfl, ?_⟩) (by assumption) ?_; rotate_left; (focus (intro w _; go_simp; (try with_reducible rfl); done)); (try simp only [Act.put, List.getElem_toArray, List.getElem_cons_succ, List.getElem_cons_zero, List.setIfInBounds_toArray, List.set_cons_zero, List.set_cons_succ])
              refine takeF (i := 11) (v := ?_) rfl (by kernel_rfl) (fun _ _ _ h => h) (Or.inl ⟨by kernel_rfl, ?_⟩) (by assumption) ?_; rotate_left; (focus (intro w _; go_simp; (try with_reducible rfl); done)); (try simp only [Act.put, List.getElem_toArray, List.getElem_cons_succ, List.getElem_cons_zero, List.setIfInBounds_toArray, List.set_cons_zero, List.set_cons_succ])
              refine takeF (i := 12) (v := ?_) rfl (by kernel_rfl) (fun _ _ _ h => h) (Or.inl ⟨by kernel_rfl, ?_⟩) (by assumption) ?_; rotate_left; (focus (intro w _; go_simp; (try with_reducible rfl); done)); (try simp only [Act.put, List.getElem_toArray, List.getElem_cons_succ, List.getElem_cons_zero, List.setIfInBounds_toArray, List.set_cons_zero, List.set_cons_succ])
              refine takeF (i := 13) (v := ?_) rfl (by kernel_rfl) (fun _ _ _ h => h) (Or.inl ⟨by kernel_rfl, ?_⟩) (by assumption) ?_; rotate_left; (focus (intro w _; go_simp; (try with_reducible rfl); done)); (try simp only [Act.put, List.getElem_toArray, List.getElem_cons_succ, List.getElem_cons_zero, List.setIfInBounds_toArray, List.set_cons_zero, List.set_cons_succ])
              refine takeF (i := 14) (v := ?_) rfl (by kernel_rfl) (fun _ _ _ h => h) (Or.inl ⟨by kernel_rfl, ?_⟩) (by assumption) ?_; rotate_left; (focus (intro w _; go_simp; (try with_reducible rfl); done)); (try simp only [Act.put, List.getElem_toArray, List.getElem_cons_succ, List.getElem_cons_zero, List.setIfInBounds_toArray, List.set_cons_zero, List.set_cons_succ])
              refine takeF (i := 15) (v := ?_) rfl (by kernel_rfl) (fun _ _ _ h => h) (Or.inl ⟨by kernel_rfl, ?_⟩) (by assumption) ?_; rotate_left; (focus (intro w _; go_simp; (try with_reducible rfl); done)); (try simp only [Act.put, List.getElem_toArray, List.getElem_cons_succ, List.getElem_cons_zero, List.setIfInBounds_toArray, List.set_cons_zero, List.set_cons_succ])
              refine takeF (i := 16) (v := undef) rfl (by kernel_rfl) (fun _ _ _ h => h) (Or.inr ⟨by kernel_rfl, rfl⟩) (by assumption) ?_; (try simp only [Act.put, List.getElem_toArray, List.getElem_cons_succ, List.getElem_cons_zero, List.setIfInBounds_toArray, List.set_cons_zero, List.set_cons_succ])
              refine takeF (i := 17) (v := undef) rfl (by kernel_rfl) (fun _ _ _ h => h) (Or.inr ⟨by kernel_rfl, rfl⟩) (by assumption) ?_; (try simp only [Act.put, List.getElem_toArray, List.getElem_cons_succ, List.getElem_cons_zero, List.setIfInBounds_toArray, List.set_cons_zero, List.set_cons_succ])
              refine takeF (i := 18) (v := undef) rfl (by kernel_rfl) (fun _ _ _ h => h) (Or.inr ⟨by kernel_rfl, rfl⟩) (by assumption) ?_; (try simp only [Act.put, List.getElem_toArray, List.getElem_cons_succ, List.getElem_cons_zero, List.setIfInBounds_toArray, List.set_cons_zero, List.set_cons_succ])
              refine takeF (i := 19) (v := undef) rfl (by kernel_rfl) (fun _ _ _ h => h) (Or.inr ⟨by kernel_rfl, rfl⟩) (by assumption) ?_; (try simp only [Act.put, List.getElem_toArray, List.getElem_cons_succ, List.getElem_cons_zero, List.setIfInBounds_toArray, List.set_cons_zero, List.set_cons_succ])
              refine takeF (i := 20) (v := undef) rfl (by kernel_rfl) (fun _ _ _ h => h) (Or.inr ⟨by kernel_rfl, rfl⟩) (by assumption) ?_; (try simp only [Act.put, List.getElem_toArray, List.getElem_cons_succ, List.getElem_cons_zero, List.setIfInBounds_toArray, List.set_cons_zero, List.set_cons_succ])
              refine takeF (i := 21) (v := undef) rfl (by kernel_rfl) (fun _ _ _ h => h) (Or.inr ⟨by kernel_rfl, rfl⟩) (by assumption) ?_; (try simp only [Act.put, List.getElem_toArray, List.getElem_cons_succ, List.getElem_cons_zero, List.setIfInBounds_toArray, List.set_cons_zero, List.set_cons_succ])
              refine takeF (i := 22) (v := undef) rfl (by kernel_rfl) (fun _ _ _ h => h) (Or.inr ⟨by kernel_rfl, rfl⟩) (by assumption) ?_; (try simp only [Act.put, List.getElem_toArray, List.getElem_cons_succ, List.getElem_cons_zero, List.setIfInBounds_toArray, List.set_cons_zero, List.set_cons_succ])
              refine takeF (i := 23) (v := undef) rfl (by kernel_rfl) (fun _ _ _ h => h) (Or.inr ⟨by kernel_rfl, rfl⟩) (by assumption) ?_; (try simp only [Act.put, List.getElem_toArray, List.getElem_cons_succ, List.getElem_cons_zero, List.setIfInBounds_toArray, List.set_cons_zero, List.set_cons_succ])
              refine takeF (i := 24) (v := undef) rfl (by kernel_rfl) (fun _ _ _ h => h) (Or.inr ⟨by kernel_rfl, rfl⟩) (by assumption) ?_; (try simp only [Act.put, List.getElem_toArray, List.getElem_cons_succ, List.getElem_cons_zero, List.setIfInBounds_toArray, List.set_cons_zero, List.set_cons_succ])
              refine takeF (i := 25) (v := undef) rfl (by kernel_rfl) (fun _ _ _ h => h) (Or.inr ⟨by kernel_rfl, rfl⟩) (by assumption) ?_; (try simp only [Act.put, List.getElem_toArray, List.getElem_cons_succ, List.getElem_cons_zero, List.setIfInBounds_toArray, List.set_cons_zero, List.set_cons_succ])
              refine takeF (i := 26) (v := undef) rfl (by kernel_rfl) (fun _ _ _ h => h) (Or.inr ⟨by kernel_rfl, rfl⟩) (by assumption) ?_; (try simp only [Act.put, List.getElem_toArray, List.getElem_cons_succ, List.getElem_cons_zero, List.setIfInBounds_toArray, List.set_cons_zero, List.set_cons_succ])
              refine takeF (i := 27) (v := undef) rfl (by kernel_rfl) (fun _ _ _ h => h) (Or.inr ⟨by kernel_rfl, rfl⟩) (by assumption) ?_; (try simp only [Act.put, List.getElem_toArray, List.getElem_cons_succ, List.getElem_cons_zero, List.setIfInBounds_toArray, List.set_cons_zero, List.set_cons_succ])
              refine takeF (i := 28) (v := ?_) rfl (by kernel_rfl) (fun _ _ _ h => h) (Or.inl ⟨by kernel_rfl, ?_⟩) (by assumption) ?_; rotate_left; (focus (intro w _; go_simp; (try with_reducible rfl); done)); (try simp only [Act.put, List.getElem_toArray, List.getElem_cons_succ, List.getElem_cons_zero, List.setIfInBounds_toArray, List.set_cons_zero, List.set_cons_succ])
              refine takeF (i := 29) (v := ?_) rfl (by kernel_rfl) (fun _ _ _ h => h) (Or.inl ⟨by kernel_rfl, ?_⟩) (by assumption) ?_; rotate_left; (focus (intro w _; go_simp; (try with_reducible rfl); done)); (try simp only [Act.put, List.getElem_toArray, List.getElem_cons_succ, List.getElem_cons_zero, List.setIfInBounds_toArray, List.set_cons_zero, List.set_cons_succ])
              refine takeF (i := 30) (v := ?_) rfl (by kernel_rfl) (fun _ _ _ h => h) (Or.inl ⟨by kernel_rfl, ?_⟩) (by assumption) ?_; rotate_left; (focus (intro w _; go_simp; (try with_reducible rfl); done)); (try simp only [Act.put, List.getElem_toArray, List.getElem_cons_succ, List.getElem_cons_zero, List.setIfInBounds_toArray, List.set_cons_zero, List.set_cons_succ])
              clear hHeld
              refine doneS (by kernel_rfl) ?_ _
              go_wp2
              go_meet
              case rel => exact ⟨k, rfl, hk, fun _ y' e => by rw [HKm.out, HY.out] at e; cases e; exact HNo.out, HKL.out, HD6.out⟩
          · have HNo := Lib.hid (fun h => by
              rcases HNr.out.1 h with h | h
              · exact hL h
              · exact hq h.1)
            have dm : (h1 == h2) = false := by rw [beq_eq_false_iff_ne]; exact hq
            have dmi : ((h1 : Int) == h2) = false := by rw [beq_eq_false_iff_ne]; omega
            clear hL hq
            refine beginS (S := fun W => AtP W g5 o5 m y ∧ AtP W g0 o0 i x) [] (by kernel_rfl) ⟨f5, f0⟩ (fun hHeld0 => ?_)
            generalize (World.drew w6) = W0 at *
            clear f5 f0
            refine takeF (i := 0) (v := ?_) rfl (by kernel_rfl) (fun _ _ _ h => h) (Or.inl ⟨by kernel_rfl, ?_⟩) (by assumption) ?_; rotate_left; (focus (intro w _; go_simp; (try with_reducible rfl); done)); (try simp only [Act.put, List.getElem_toArray, List.getElem_cons_succ, List.getElem_cons_zero, List.setIfInBounds_toArray, List.set_cons_zero, List.set_cons_succ])
            refine takeF (i := 1) (v := ?_) rfl (by kernel_rfl) (fun _ _ _ h => h) (Or.inl ⟨by kernel_rfl, ?_⟩) (by assumption) ?_; rotate_left; (focus (intro w _; go_simp; (try with_reducible rfl); done)); (try simp only [Act.put, List.getElem_toArray, List.getElem_cons_succ, List.getElem_cons_zero, List.setIfInBounds_toArray, List.set_cons_zero, List.set_cons_succ])
            refine takeF (i := 2) (v := ?_) rfl (by kernel_rfl) (fun _ _ _ h => h) (Or.inl ⟨by kernel_rfl, ?_⟩) (by assumption) ?_; rotate_left; (focus (intro w _; go_simp; (try with_reducible rfl); done)); (try simp only [Act.put, List.getElem_toArray, List.getElem_cons_succ, List.getElem_cons_zero, List.setIfInBounds_toArray, List.set_cons_zero, List.set_cons_succ])
            refine takeF (i := 3) (v := ?_) rfl (by kernel_rfl) (fun _ _ _ h => h) (Or.inl ⟨by kernel_rfl, ?_⟩) (by assumption) ?_; rotate_left; (focus (intro w _; go_simp; (try with_reducible rfl); done)); (try simp only [Act.put, List.getElem_toArray, List.getElem_cons_succ, List.getElem_cons_zero, List.setIfInBounds_toArray, List.set_cons_zero, List.set_cons_succ])
            refine readyS (rs := [4]) (by kernel_rfl) (by simp) ?_
            refine ReadyS.consH rfl (fun K hK => ?_) ReadyS.nil
            (try simp only [List.getElem_toArray, List.getElem_cons_succ, List.getElem_cons_zero])
            go_simp
            (with_reducible refine (HLs.out _).mono ?_); rintro e W1 ⟨rfl, rfl⟩
            refine hK.out _ _ (hHeld0) (fun hHeld => ?_)
            clear hK K
            (try simp only [Act.put, List.getElem_toArray, List.getElem_cons_succ, List.getElem_cons_zero, List.setIfInBounds_toArray, List.set_cons_zero, List.set_cons_succ])
            clear hHeld0
            refine takeF (i := 5) (v := ?_) rfl (by kernel_rfl) (fun _ _ _ h => h) (Or.inl ⟨by kernel_rfl, ?_⟩) (by assumption) ?_; rotate_left; (focus (intro w _; go_simp; (try with_reducible rfl); done)); (try simp only [Act.put, List.getElem_toArray, List.getElem_cons_succ, List.getElem_cons_zero, List.setIfInBounds_toArray, List.set_cons_zero, List.set_cons_succ])
            refine takeF (i := 6) (v := ?_) rfl (by kernel_rfl) (fun _ _ _ h => h) (Or.inl ⟨by kernel_rfl, ?_⟩) (by assumption) ?_; rotate_left; (focus (intro w _; go_simp; (try with_reducible rfl); done)); (try simp only [Act.put, List.getElem_toArray, List.getElem_cons_succ, List.getElem_cons_zero, List.setIfInBounds_toArray, List.set_cons_zero, List.set_cons_succ])
            refine takeF (i := 7) (v := ?_) rfl (by kernel_rfl) (fun _ _ _ h => h) (Or.inl ⟨by kernel_rfl, ?_⟩) (by assumption) ?_; rotate_left; (focus (intro w _; go_simp; (try with_reducible rfl); done)); (try simp only [Act.put, List.getElem_toArray, List.getElem_cons_succ, List.getElem_cons_zero, List.setIfInBounds_toArray, List.set_cons_zero, List.set_cons_succ])
            refine takeF (i := 8) (v := ?_) rfl (by kernel_rfl) (fun _ _ _ h => h) (Or.inl ⟨by kernel_rfl, ?_⟩) (by assumption) ?_; rotate_left; (focus (intro w _; go_simp; (try with_reducible rfl); done)); (try simp only [Act.put, List.getElem_toArray, List.getElem_cons_succ, List.getElem_cons_zero, List.setIfInBounds_toArray, List.set_cons_zero, List.set_cons_succ])
            refine takeF (i := 9) (v := ?_) rfl (by kernel_rfl) (fun _ _ _ h => h) (Or.inl ⟨by kernel_rfl, ?_⟩) (by assumption) ?_; rotate_left; (focus (intro w _; go_simp; (try with_reducible rfl); done)); (try simp only [Act.put, List.getElem_toArray, List.getElem_cons_succ, List.getElem_cons_zero, List.setIfInBounds_toArray, List.set_cons_zero, List.set_cons_succ])
            refine takeF (i := 10) (v := ?_) rfl (by kernel_rfl) (fun _ _ _ h => h) (Or.inl ⟨by kernel_rfl, ?_⟩) (by assumption) ?_; rotate_left; (focus (intro w _; go_simp; (try with_reducible rfl); done)); (try simp only [Act.put, List.getElem_toArray, List.getElem_cons_succ, List.getElem_cons_zero, List.setIfInBounds_toArray, List.set_cons_zero, List.set_cons_succ])
            refine takeF (i := 11) (v := undef) rfl (by kernel_rfl) (fun _ _ _ h => h) (Or.inr ⟨by kernel_rfl, rfl⟩) (by assumption) ?_; (try simp only [Act.put, List.getElem_toArray, List.getElem_cons_succ, List.getElem_cons_zero, List.setIfInBounds_toArray, List.set_cons_zero, List.set_cons_succ])
            refine takeF (i := 12) (v := undef) rfl (by kernel_rfl) (fun _ _ _ h => h) (Or.inr ⟨by kernel_rfl, rfl⟩) (by assumption) ?_; (try simp only [Act.put, List.getElem_toArray, List.getElem_cons_succ, List.getElem_cons_zero, List.setIfInBounds_toArray, List.set_cons_zero, List.set_cons_succ])
            refine takeF (i := 13) (v := undef) rfl (by kernel_rfl) (fun _ _ _ h => h) (Or.inr ⟨by kernel_rfl, rfl⟩) (by assumption) ?_; (try simp only [Act.put, List.getElem_toArray, List.getElem_cons_succ, List.getElem_cons_zero, List.setIfInBounds_toArray, List.set_cons_zero, List.set_cons_succ])
            refine takeF (i := 14) (v := ?_) rfl (by kernel_rfl) (fun _ _ _ h => h) (Or.inl ⟨by kernel_rfl, ?_⟩) (by assumption) ?_; rotate_left; (focus (intro w _; go_simp; (try with_reducible rfl); done)); (try simp only [Act.put, List.getElem_toArray, List.getElem_cons_succ, List.getElem_cons_zero, List.setIfInBounds_toArray, List.set_cons_zero, List.set_cons_succ])
            refine takeF (i := 15) (v := ?_) rfl (by kernel_rfl) (fun _ _ _ h => h) (Or.inl ⟨by kernel_rfl, ?_⟩) (by assumption) ?_; rotate_left; (focus (intro w _; go_simp; (try with_reducible rfl); done)); (try simp only [Act.put, List.getElem_toArray, List.getElem_cons_succ, List.getElem_cons_zero, List.setIfInBounds_toArray, List.set_cons_zero, List.set_cons_succ])
            refine takeF (i := 16) (v := undef) rfl (by kernel_rfl) (fun _ _ _ h => h) (Or.inr ⟨by kernel_rfl, rfl⟩) (by assumption) ?_; (try simp only [Act.put, List.getElem_toArray, List.getElem_cons_succ, List.getElem_cons_zero, List.setIfInBounds_toArray, List.set_cons_zero, List.set_cons_succ])
            refine takeF (i := 17) (v := undef) rfl (by kernel_rfl) (fun _ _ _ h => h) (Or.inr ⟨by kernel_rfl, rfl⟩) (by assumption) ?_; (try simp only [Act.put, List.getElem_toArray, List.getElem_cons_succ, List.getElem_cons_zero, List.setIfInBounds_toArray, List.set_cons_zero, List.set_cons_succ])
            refine takeF (i := 18) (v := undef) rfl (by kernel_rfl) (fun _ _ _ h => h) (Or.inr ⟨by kernel_rfl, rfl⟩) (by assumption) ?_; (try simp only [Act.put, List.getElem_toArray, List.getElem_cons_succ, List.getElem_cons_zero, List.setIfInBounds_toArray, List.set_cons_zero, List.set_cons_succ])
            refine takeF (i := 19) (v := undef) rfl (by kernel_rfl) (fun _ _ _ h => h) (Or.inr ⟨by kernel_rfl, rfl⟩) (by assumption) ?_; (try simp only [Act.put, List.getElem_toArray, List.getElem_cons_succ, List.getElem_cons_zero, List.setIfInBounds_toArray, List.set_cons_zero, List.set_cons_succ])
            refine takeF (i := 20) (v := undef) rfl (by kernel_rfl) (fun _ _ _ h => h) (Or.inr ⟨by kernel_rfl, rfl⟩) (by assumption) ?_; (try simp only [Act.put, List.getElem_toArray, List.getElem_cons_succ, List.getElem_cons_zero, List.setIfInBounds_toArray, List.set_cons_zero, List.set_cons_succ])
            refine takeF (i := 21) (v := undef) rfl (by kernel_rfl) (fun _ _ _ h => h) (Or.inr ⟨by kernel_rfl, rfl⟩) (by assumption) ?_; (try simp only [Act.put, List.getElem_toArray, List.getElem_cons_succ, List.getElem_cons_zero, List.setIfInBounds_toArray, List.set_cons_zero, List.set_cons_succ])
            refine takeF (i := 22) (v := undef) rfl (by kernel_rfl) (fun _ _ _ h => h) (Or.inr ⟨by kernel_rfl, rfl⟩) (by assumption) ?_; (try simp only [Act.put, List.getElem_toArray, List.getElem_cons_succ, List.getElem_cons_zero, List.setIfInBounds_toArray, List.set_cons_zero, List.set_cons_succ])
            refine takeF (i := 23) (v := undef) rfl (by kernel_rfl) (fun _ _ _ h => h) (Or.inr ⟨by kernel_rfl, rfl⟩) (by assumption) ?_; (try simp only [Act.put, List.getElem_toArray, List.getElem_cons_succ, List.getElem_cons_zero, List.setIfInBounds_toArray, List.set_cons_zero, List.set_cons_succ])
            refine takeF (i := 24) (v := undef) rfl (by kernel_rfl) (fun _ _ _ h => h) (Or.inr ⟨by kernel_rfl, rfl⟩) (by assumption) ?_; (try simp only [Act.put, List.getElem_toArray, List.getElem_cons_succ, List.getElem_cons_zero, List.setIfInBounds_toArray, List.set_cons_zero, List.set_cons_succ])
            refine takeF (i := 25) (v := undef) rfl (by kernel_rfl) (fun _ _ _ h => h) (Or.inr ⟨by kernel_rfl, rfl⟩) (by assumption) ?_; (try simp only [Act.put, List.getElem_toArray, List.getElem_cons_succ, List.getElem_cons_zero, List.setIfInBounds_toArray, List.set_cons_zero, List.set_cons_succ])
            refine takeF (i := 26) (v := undef) rfl (by kernel_rfl) (fun _ _ _ h => h) (Or.inr ⟨by kernel_rfl, rfl⟩) (by assumption) ?_; (try simp only [Act.put, List.getElem_toArray, List.getElem_cons_succ, List.getElem_cons_zero, List.setIfInBounds_toArray, List.set_cons_zero, List.set_cons_succ])
            refine takeF (i := 27) (v := undef) rfl (by kernel_rfl) (fun _ _ _ h => h) (Or.inr ⟨by kernel_rfl, rfl⟩) (by assumption) ?_; (try simp only [Act.put, List.getElem_toArray, List.getElem_cons_succ, List.getElem_cons_zero, List.setIfInBounds_toArray, List.set_cons_zero, List.set_cons_succ])
            refine takeF (i := 28) (v := ?_) rfl (by kernel_rfl) (fun _ _ _ h => h) (Or.inl ⟨by kernel_rfl, ?_⟩) (by assumption) ?_; rotate_left; (focus (intro w _; go_simp; (try with_reducible rfl); done)); (try simp only [Act.put, List.getElem_toArray, List.getElem_cons_succ, List.getElem_cons_zero, List.setIfInBounds_toArray, List.set_cons_zero, List.set_cons_succ])
            refine takeF (i := 29) (v := ?_) rfl (by kernel_rfl) (fun _ _ _ h => h) (Or.inl ⟨by kernel_rfl, ?_⟩) (by assumption) ?_; rotate_left; (focus (intro w _; go_simp; (try with_reducible rfl); done)); (try simp only [Act.put, List.getElem_toArray, List.getElem_cons_succ, List.getElem_cons_zero, List.setIfInBounds_toArray, List.set_cons_zero, List.set_cons_succ])
            refine takeF (i := 30) (v := ?_) rfl (by kernel_rfl) (fun _ _ _ h => h) (Or.inl ⟨by kernel_rfl, ?_⟩) (by assumption) ?_; rotate_left; (focus (intro w _; go_simp; (try with_reducible rfl); done)); (try simp only [Act.put, List.getElem_toArray, List.getElem_cons_succ, List.getElem_cons_zero, List.setIfInBounds_toArray, List.set_cons_zero, List.set_cons_succ])
            clear hHeld
            refine doneS (by kernel_rfl) ?_ _
            go_wp2
            go_meet
            case rel => exact ⟨k, rfl, hk, fun _ y' e => by rw [HKm.out, HY.out] at e; cases e; exact HNo.out, HKL.out, HD6.out⟩
      · obtain rfl : k = 0 := by omega
        go_wp2
        go_meet
        case rel => exact ⟨0, rfl, hk, fun h => by omega, HKL.out, HBk.out⟩
    case rest =>
    obtain ⟨k, rfl, hk, hkn, hkl2, hb⟩ := hcut
    have HBc := Lib.hid hb
    have HOwn := HOwn0
    clear HOwn0
    have HIns : Hid (own.take k ++ x :: own.drop k = byNear x0 y0 (l.take (i + 1))) := Lib.hid (by
      rw [HSn.out]
      refine ins_sort (swo_near x0 y0) (l.take i) own HOn.out x (by rw [List.length_take]; omega) (fun h y e => ?_) (fun h y e => ?_)
      · rw [ltc_near_f]; exact hkn h y e
      · rw [ltc_near]; exact hkl2 (by rw [List.length_take] at h; omega) y e)
    clear hkn hkl2 hb
    have bk : (k : Int) ≤ own.length := by omega
    have bkc : (k : Int) ≤ co := by omega
    have bki : (k : Int) ≤ i := by omega
    have bnc : (own.length : Int) ≤ co := by omega
    have bic : (i : Int) ≤ co := by omega
    have HFin2 : Hid (∀ (W' : World) (A : Option Addr) (n c : Nat), W'.ownsRow w3.heap.size 56 4 (.slice A n c) (own.take k ++ (x :: own.drop k)).length ((own.take k ++ (x :: own.drop k)).flatMap PtS.cells) → Below w3.heap.size w3 W' →
        n = i + 1 ∧ i + 1 ≤ c ∧ W'.ownsRow w.heap.size 56 4 (.slice A (i + 1) c) (i + 1) ((byNear x0 y0 (l.take (i + 1))).flatMap PtS.cells) ∧ Below w.heap.size w W') := Lib.hid (fun W' A n c hown hb => by
      have hln : (own.take k ++ (x :: own.drop k)).length = i + 1 := by rw [HIns.out, byNear_length, List.length_take]; omega
      obtain ⟨A', c', e, hc1, _⟩ := own_rd hown
      injection e with e1 e2 e3
      have hnn : n = i + 1 := by omega
      subst hnn
      have h1 := own_lower hown (base' := w.heap.size) HBr.out.size
      rw [hln, HIns.out] at h1
      exact ⟨rfl, by rw [e3]; omega, h1, below_up HBr.out hb⟩)
    go_upto_region 12 with (fail)
    have HB3 := Lib.hid (below_up HBc.out (below_drew1 (w := wc)))
    have HQ : Hid (∀ W' : World, Below w3.heap.size w3 W' → AtP W' g0 o0 i x ∧ Below w3.heap.size w3 W') := Lib.hid (fun W' hb => ⟨HX0.out W' hb, hb⟩)
    have HRt : Hid (∀ W' : World, Below w3.heap.size w3 W' → Rd W' Ao ((own.take k).flatMap PtS.cells) ∧ Rd W' (if co = k then Ao else Option.map (fun x => x.add (k * 4)) Ao) ((own.drop k).flatMap PtS.cells)) := Lib.hid (fun W' hb => prow_parts (HOwn.out.below hb) hk)
    have HFin : Hid (∀ (W' : World) (v : Value) (n : Nat), W'.ownsRow w3.heap.size 56 4 v n ((own.take k).flatMap PtS.cells ++ [x].flatMap PtS.cells ++ (own.drop k).flatMap PtS.cells) → W'.ownsRow w3.heap.size 56 4 v (own.take k ++ (x :: own.drop k)).length ((own.take k ++ (x :: own.drop k)).flatMap PtS.cells)) := Lib.hid (fun W' v n h => by
      have hl := own_len h
      have e : (own.take k).flatMap PtS.cells ++ [x].flatMap PtS.cells ++ (own.drop k).flatMap PtS.cells = (own.take k ++ (x :: own.drop k)).flatMap PtS.cells := by simp [List.flatMap_append, List.flatMap_cons]
      rw [e] at h hl
      rw [flat_len PtS.cells_len] at hl
      rw [Nat.eq_of_mul_eq_mul_right (by decide) hl]
      exact h)
    refine beginS (S := fun W' => AtP W' g0 o0 i x ∧ Below w3.heap.size w3 W') [] (by kernel_rfl) (HQ.out _ HB3.out) (fun hHeld0 => ?_)
    have Hb := HB3
    clear HB3
    generalize (World.drew wc) = Wc at *
    refine takeF (i := 1) (v := ?_) rfl (by kernel_rfl) (fun _ _ _ h => h) (Or.inl ⟨by kernel_rfl, ?_⟩) (by assumption) ?_; rotate_left; (focus (intro w _; go_simp; (try with_reducible rfl); done)); (try simp only [Act.put, List.getElem_toArray, List.getElem_cons_succ, List.getElem_cons_zero, List.setIfInBounds_toArray, List.set_cons_zero, List.set_cons_succ])
    refine takeF (i := 2) (v := ?_) rfl (by kernel_rfl) (fun _ _ _ h => h) (Or.inl ⟨by kernel_rfl, ?_⟩) (by assumption) ?_; rotate_left; (focus (intro w _; go_simp; (try with_reducible rfl); done)); (try simp only [Act.put, List.getElem_toArray, List.getElem_cons_succ, List.getElem_cons_zero, List.setIfInBounds_toArray, List.set_cons_zero, List.set_cons_succ])
    refine takeF (i := 3) (v := ?_) rfl (by kernel_rfl) (fun _ _ _ h => h) (Or.inl ⟨by kernel_rfl, ?_⟩) (by assumption) ?_; rotate_left; (focus (intro w _; go_simp; (try with_reducible rfl); done)); (try simp only [Act.put, List.getElem_toArray, List.getElem_cons_succ, List.getElem_cons_zero, List.setIfInBounds_toArray, List.set_cons_zero, List.set_cons_succ])
    refine takeF (i := 5) (v := ?_) rfl (by kernel_rfl) (fun _ _ _ h => h) (Or.inl ⟨by kernel_rfl, ?_⟩) (by assumption) ?_; rotate_left; (focus (intro w _; go_simp; (try with_reducible rfl); done)); (try simp only [Act.put, List.getElem_toArray, List.getElem_cons_succ, List.getElem_cons_zero, List.setIfInBounds_toArray, List.set_cons_zero, List.set_cons_succ])
    refine takeF (i := 6) (v := ?_) rfl (by kernel_rfl) (fun _ _ _ h => h) (Or.inl ⟨by kernel_rfl, ?_⟩) (by assumption) ?_; rotate_left; (focus (intro w _; go_simp; (try with_reducible rfl); done)); (try simp only [Act.put, List.getElem_toArray, List.getElem_cons_succ, List.getElem_cons_zero, List.setIfInBounds_toArray, List.set_cons_zero, List.set_cons_succ])
    refine takeF (i := 7) (v := ?_) rfl (by kernel_rfl) (fun _ _ _ h => h) (Or.inl ⟨by kernel_rfl, ?_⟩) (by assumption) ?_; rotate_left; (focus (intro w _; go_simp; (try with_reducible rfl); done)); (try simp only [Act.put, List.getElem_toArray, List.getElem_cons_succ, List.getElem_cons_zero, List.setIfInBounds_toArray, List.set_cons_zero, List.set_cons_succ])
    refine takeH (i := 8) (v := ?_) rfl (by kernel_rfl) (fun _ _ _ h => h) (Or.inl ⟨by kernel_rfl, ?_⟩) (by assumption) ?_; rotate_left; (focus (intro w hSw; (try dsimp only at hSw); go_simp; (try with_reducible rfl); done)); (try simp only [Act.put, List.getElem_toArray, List.getElem_cons_succ, List.getElem_cons_zero, List.setIfInBounds_toArray, List.set_cons_zero, List.set_cons_succ])
    refine takeF (i := 11) (v := ?_) rfl (by kernel_rfl) (fun _ _ _ h => h) (Or.inl ⟨by kernel_rfl, ?_⟩) (by assumption) ?_; rotate_left; (focus (intro w _; go_simp; (try with_reducible rfl); done)); (try simp only [Act.put, List.getElem_toArray, List.getElem_cons_succ, List.getElem_cons_zero, List.setIfInBounds_toArray, List.set_cons_zero, List.set_cons_succ])
    refine takeF (i := 12) (v := ?_) rfl (by kernel_rfl) (fun _ _ _ h => h) (Or.inl ⟨by kernel_rfl, ?_⟩) (by assumption) ?_; rotate_left; (focus (intro w _; go_simp; (try with_reducible rfl); done)); (try simp only [Act.put, List.getElem_toArray, List.getElem_cons_succ, List.getElem_cons_zero, List.setIfInBounds_toArray, List.set_cons_zero, List.set_cons_succ])
    refine takeF (i := 13) (v := ?_) rfl (by kernel_rfl) (fun _ _ _ h => h) (Or.inl ⟨by kernel_rfl, ?_⟩) (by assumption) ?_; rotate_left; (focus (intro w _; go_simp; (try with_reducible rfl); done)); (try simp only [Act.put, List.getElem_toArray, List.getElem_cons_succ, List.getElem_cons_zero, List.setIfInBounds_toArray, List.set_cons_zero, List.set_cons_succ])
    obtain ⟨A2, hA2⟩ : ∃ A2, (if co = k then Ao else Option.map (fun x => x.add (k * 4)) Ao) = A2 := ⟨_, rfl⟩
    rw [hA2] at HRt ⊢
    clear hA2
    refine readyS (rs := [0, 9]) (by kernel_rfl) (by simp) ?_
    refine ReadyS.consH rfl (fun K hK => ?_) (ReadyS.consH rfl (fun K hK => ?_) ReadyS.nil)
    (try simp only [List.getElem_toArray, List.getElem_cons_succ, List.getElem_cons_zero])
    · go_simp
      have H0' := Lib.hid (own_lower (own_zero Wc 56 4) Hb.out.size)
      have Hb' := Lib.hid (below_alloc Hb.out (.cells #[] 56))
      clear hHeld0
      refine hK.out _ _ (HQ.out _ Hb'.out) (fun hHeld0 => ?_)
      clear hK K
      clear Hb
      have H0 := H0'; have Hb := Hb'; clear H0' Hb'
      generalize (World.alloc Wc _) = Wd at *
      obtain ⟨Wc, rfl⟩ : ∃ W, W = Wd := ⟨_, rfl⟩
      (try simp only [Act.put, List.getElem_toArray, List.getElem_cons_succ, List.getElem_cons_zero, List.setIfInBounds_toArray, List.set_cons_zero, List.set_cons_succ])
      refine readyS (rs := [4, 9]) (by kernel_rfl) (by simp) ?_
      refine ReadyS.consH rfl (fun K hK => ?_) (ReadyS.consH rfl (fun K hK => ?_) ReadyS.nil)
      (try simp only [List.getElem_toArray, List.getElem_cons_succ, List.getElem_cons_zero])
      · rw [if_pos (by kernel_rfl)]
        refine wp_app _ _ 49 (by rfl) w3.heap.size 56 (.agg #[.int .i64 0, .int .u32 0, .int .u32 0, .string ⟨#[]⟩]) 4 32 Try.underlying49 info_pt4 rfl (by decide) (by decide) _ 0 [] (by rfl) Ao k co ((own.take k).flatMap PtS.cells) (by rfl) H0.out (by rw [flat_len PtS.cells_len, List.length_take, Nat.min_eq_left hk]) (HRt.out _ Hb.out).1 (flat_one PtS.cells_one _) (by omega) Hb.out.size ?_
        intro A4 c4 Wd hown hgrow hat
        rw [Nat.zero_add] at hown hat ⊢
        rw [List.nil_append] at hown
        have Hb' := Lib.hid (below_grown Hb.out hgrow (fun k e => own_base H0.out k e))
        have H4 := Lib.hid hown
        clear hown hgrow hat
        clear hHeld0
        refine hK.out _ _ (HQ.out _ Hb'.out) (fun hHeld0 => ?_)
        clear hK K
        clear Hb H0
        have Hb := Hb'; clear Hb'
        obtain ⟨Wc, rfl⟩ : ∃ W, W = Wd := ⟨_, rfl⟩
        (try simp only [Act.put, List.getElem_toArray, List.getElem_cons_succ, List.getElem_cons_zero, List.setIfInBounds_toArray, List.set_cons_zero, List.set_cons_succ])
        refine readyS (rs := [9]) (by kernel_rfl) (by simp) ?_
        refine ReadyS.consH rfl (fun K hK => ?_) ReadyS.nil
        (try simp only [List.getElem_toArray, List.getElem_cons_succ, List.getElem_cons_zero])
        go_simp
        have H9' := Lib.hid (rd_new Wc #[.int .i64 x.id, .int .u32 (x.x : Nat), .int .u32 (x.y : Nat), .string x.d] 56 ([x].flatMap PtS.cells) rfl)
        have Hb' := Lib.hid (below_alloc Hb.out (.cells #[.int .i64 x.id, .int .u32 (x.x : Nat), .int .u32 (x.y : Nat), .string x.d] 56))
        have H4' := Lib.hid (own_below H4.out (below_alloc1 Wc (.cells #[.int .i64 x.id, .int .u32 (x.x : Nat), .int .u32 (x.y : Nat), .string x.d] 56)))
        clear hHeld0
        refine hK.out _ _ (HQ.out _ Hb'.out) (fun hHeld0 => ?_)
        clear hK K
        clear Hb H4
        have H9 := H9'; have Hb := Hb'; clear H9' Hb'
        have H4 := H4'; clear H4'
        generalize (World.alloc Wc _) = Wd at *
        obtain ⟨Wc, rfl⟩ : ∃ W, W = Wd := ⟨_, rfl⟩
        (try simp only [Act.put, List.getElem_toArray, List.getElem_cons_succ, List.getElem_cons_zero, List.setIfInBounds_toArray, List.set_cons_zero, List.set_cons_succ])
        refine readyS (rs := [10]) (by kernel_rfl) (by simp) ?_
        refine ReadyS.consH rfl (fun K hK => ?_) ReadyS.nil
        (try simp only [List.getElem_toArray, List.getElem_cons_succ, List.getElem_cons_zero])
        rw [if_pos (by kernel_rfl)]
        refine wp_app _ _ 49 (by rfl) w3.heap.size 56 (.agg #[.int .i64 0, .int .u32 0, .int .u32 0, .string ⟨#[]⟩]) 4 32 Try.underlying49 info_pt4 rfl (by decide) (by decide) (.slice A4 k c4) k ((own.take k).flatMap PtS.cells) (by rfl) _ 1 1 ([x].flatMap PtS.cells) (by rfl) H4.out rfl H9.out (flat_one PtS.cells_one _) (by omega) Hb.out.size ?_
        intro A10 c10 Wd hown hgrow hat
        have Hb' := Lib.hid (below_grown Hb.out hgrow (fun k e => own_base H4.out k e))
        have H10 := Lib.hid hown
        clear hown hgrow hat
        clear hHeld0
        refine hK.out _ _ (HQ.out _ Hb'.out) (fun hHeld0 => ?_)
        clear hK K
        clear Hb H4 H9
        have Hb := Hb'; clear Hb'
        obtain ⟨Wc, rfl⟩ : ∃ W, W = Wd := ⟨_, rfl⟩
        (try simp only [Act.put, List.getElem_toArray, List.getElem_cons_succ, List.getElem_cons_zero, List.setIfInBounds_toArray, List.set_cons_zero, List.set_cons_succ])
        refine readyS (rs := [14]) (by kernel_rfl) (by simp) ?_
        refine ReadyS.consH rfl (fun K hK => ?_) ReadyS.nil
        (try simp only [List.getElem_toArray, List.getElem_cons_succ, List.getElem_cons_zero])
        rw [if_pos (by kernel_rfl)]
        refine wp_app _ _ 49 (by rfl) w3.heap.size 56 (.agg #[.int .i64 0, .int .u32 0, .int .u32 0, .string ⟨#[]⟩]) 4 32 Try.underlying49 info_pt4 rfl (by decide) (by decide) (.slice A10 (k + 1) c10) (k + 1) ((own.take k).flatMap PtS.cells ++ [x].flatMap PtS.cells) (by rfl) A2 (i - k) (co - k) ((own.drop k).flatMap PtS.cells) (by rfl) H10.out (by rw [flat_len PtS.cells_len, List.length_drop, HOl.out]) (HRt.out _ Hb.out).2 (flat_one PtS.cells_one _) (by omega) Hb.out.size ?_
        intro A14 c14 Wd hown hgrow hat
        have Hb' := Lib.hid (below_grown Hb.out hgrow (fun k e => own_base H10.out k e))
        have H14 := Lib.hid hown
        clear hown hgrow hat
        clear hHeld0
        refine hK.out _ _ (HQ.out _ Hb'.out) (fun hHeld0 => ?_)
        clear hK K
        clear Hb H10
        have Hb := Hb'; clear Hb'
        obtain ⟨Wc, rfl⟩ : ∃ W, W = Wd := ⟨_, rfl⟩
        (try simp only [Act.put, List.getElem_toArray, List.getElem_cons_succ, List.getElem_cons_zero, List.setIfInBounds_toArray, List.set_cons_zero, List.set_cons_succ])
        refine takeF (i := 15) (v := ?_) rfl (by kernel_rfl) (fun _ _ _ h => h) (Or.inl ⟨by kernel_rfl, ?_⟩) (by assumption) ?_; rotate_left; (focus (intro w _; go_simp; (try with_reducible rfl); done)); (try simp only [Act.put, List.getElem_toArray, List.getElem_cons_succ, List.getElem_cons_zero, List.setIfInBounds_toArray, List.set_cons_zero, List.set_cons_succ])
        have HE := Lib.hid (HFin2.out _ _ _ _ (HFin.out _ _ _ H14.out) Hb.out)
        clear hHeld0
        refine doneS (by kernel_rfl) ?_ _
        go_wp2
        exact ⟨⟨i + 1, A14, c14, by go_num, by omega, congrArg (fun n => Value.slice A14 n c14) (by omega), HE.out.2.1, HE.out.2.2.1, HE.out.2.2.2⟩, by simp [intOf]; omega⟩
      · go_simp
        have H9' := Lib.hid (rd_new Wc #[.int .i64 x.id, .int .u32 (x.x : Nat), .int .u32 (x.y : Nat), .string x.d] 56 ([x].flatMap PtS.cells) rfl)
        have Hb' := Lib.hid (below_alloc Hb.out (.cells #[.int .i64 x.id, .int .u32 (x.x : Nat), .int .u32 (x.y : Nat), .string x.d] 56))
        have Hne := Lib.hid (own_lt H0.out _ rfl)
        have H0' := Lib.hid (own_below H0.out (below_alloc1 Wc (.cells #[.int .i64 x.id, .int .u32 (x.x : Nat), .int .u32 (x.y : Nat), .string x.d] 56)))
        clear hHeld0
        refine hK.out _ _ (HQ.out _ Hb'.out) (fun hHeld0 => ?_)
        clear hK K
        clear Hb H0
        have H9 := H9'; have Hb := Hb'; clear H9' Hb'
        have H0 := H0'; clear H0'
        generalize (World.alloc Wc _) = Wd at *
        obtain ⟨Wc, rfl⟩ : ∃ W, W = Wd := ⟨_, rfl⟩
        (try simp only [Act.put, List.getElem_toArray, List.getElem_cons_succ, List.getElem_cons_zero, List.setIfInBounds_toArray, List.set_cons_zero, List.set_cons_succ])
        refine readyS (rs := [4]) (by kernel_rfl) (by simp) ?_
        refine ReadyS.consH rfl (fun K hK => ?_) ReadyS.nil
        (try simp only [List.getElem_toArray, List.getElem_cons_succ, List.getElem_cons_zero])
        rw [if_pos (by kernel_rfl)]
        refine wp_app _ _ 49 (by rfl) w3.heap.size 56 (.agg #[.int .i64 0, .int .u32 0, .int .u32 0, .string ⟨#[]⟩]) 4 32 Try.underlying49 info_pt4 rfl (by decide) (by decide) _ 0 [] (by rfl) Ao k co ((own.take k).flatMap PtS.cells) (by rfl) H0.out (by rw [flat_len PtS.cells_len, List.length_take, Nat.min_eq_left hk]) (HRt.out _ Hb.out).1 (flat_one PtS.cells_one _) (by omega) Hb.out.size ?_
        intro A4 c4 Wd hown hgrow hat
        rw [Nat.zero_add] at hown hat ⊢
        rw [List.nil_append] at hown
        have Hb' := Lib.hid (below_grown Hb.out hgrow (fun k e => own_base H0.out k e))
        have H4 := Lib.hid hown
        have H9' := Lib.hid (rd_grown H9.out hgrow (fun ad e hk => by cases e; have h1 := Option.some.inj hk; have h2 := Hne.out; (try dsimp only at h1 h2); omega))
        clear hown hgrow hat
        clear hHeld0
        refine hK.out _ _ (HQ.out _ Hb'.out) (fun hHeld0 => ?_)
        clear hK K
        clear Hb H0 H9 Hne
        have Hb := Hb'; clear Hb'
        have H9 := H9'; clear H9'
        obtain ⟨Wc, rfl⟩ : ∃ W, W = Wd := ⟨_, rfl⟩
        (try simp only [Act.put, List.getElem_toArray, List.getElem_cons_succ, List.getElem_cons_zero, List.setIfInBounds_toArray, List.set_cons_zero, List.set_cons_succ])
        refine readyS (rs := [10]) (by kernel_rfl) (by simp) ?_
        refine ReadyS.consH rfl (fun K hK => ?_) ReadyS.nil
        (try simp only [List.getElem_toArray, List.getElem_cons_succ, List.getElem_cons_zero])
        rw [if_pos (by kernel_rfl)]
        refine wp_app _ _ 49 (by rfl) w3.heap.size 56 (.agg #[.int .i64 0, .int .u32 0, .int .u32 0, .string ⟨#[]⟩]) 4 32 Try.underlying49 info_pt4 rfl (by decide) (by decide) (.slice A4 k c4) k ((own.take k).flatMap PtS.cells) (by rfl) _ 1 1 ([x].flatMap PtS.cells) (by rfl) H4.out rfl H9.out (flat_one PtS.cells_one _) (by omega) Hb.out.size ?_
        intro A10 c10 Wd hown hgrow hat
        have Hb' := Lib.hid (below_grown Hb.out hgrow (fun k e => own_base H4.out k e))
        have H10 := Lib.hid hown
        clear hown hgrow hat
        clear hHeld0
        refine hK.out _ _ (HQ.out _ Hb'.out) (fun hHeld0 => ?_)
        clear hK K
        clear Hb H4 H9
        have Hb := Hb'; clear Hb'
        obtain ⟨Wc, rfl⟩ : ∃ W, W = Wd := ⟨_, rfl⟩
        (try simp only [Act.put, List.getElem_toArray, List.getElem_cons_succ, List.getElem_cons_zero, List.setIfInBounds_toArray, List.set_cons_zero, List.set_cons_succ])
        refine readyS (rs := [14]) (by kernel_rfl) (by simp) ?_
        refine ReadyS.consH rfl (fun K hK => ?_) ReadyS.nil
        (try simp only [List.getElem_toArray, List.getElem_cons_succ, List.getElem_cons_zero])
        rw [if_pos (by kernel_rfl)]
        refine wp_app _ _ 49 (by rfl) w3.heap.size 56 (.agg #[.int .i64 0, .int .u32 0, .int .u32 0, .string ⟨#[]⟩]) 4 32 Try.underlying49 info_pt4 rfl (by decide) (by decide) (.slice A10 (k + 1) c10) (k + 1) ((own.take k).flatMap PtS.cells ++ [x].flatMap PtS.cells) (by rfl) A2 (i - k) (co - k) ((own.drop k).flatMap PtS.cells) (by rfl) H10.out (by rw [flat_len PtS.cells_len, List.length_drop, HOl.out]) (HRt.out _ Hb.out).2 (flat_one PtS.cells_one _) (by omega) Hb.out.size ?_
        intro A14 c14 Wd hown hgrow hat
        have Hb' := Lib.hid (below_grown Hb.out hgrow (fun k e => own_base H10.out k e))
        have H14 := Lib.hid hown
        clear hown hgrow hat
        clear hHeld0
        refine hK.out _ _ (HQ.out _ Hb'.out) (fun hHeld0 => ?_)
        clear hK K
        clear Hb H10
        have Hb := Hb'; clear Hb'
        obtain ⟨Wc, rfl⟩ : ∃ W, W = Wd := ⟨_, rfl⟩
        (try simp only [Act.put, List.getElem_toArray, List.getElem_cons_succ, List.getElem_cons_zero, List.setIfInBounds_toArray, List.set_cons_zero, List.set_cons_succ])
        refine takeF (i := 15) (v := ?_) rfl (by kernel_rfl) (fun _ _ _ h => h) (Or.inl ⟨by kernel_rfl, ?_⟩) (by assumption) ?_; rotate_left; (focus (intro w _; go_simp; (try with_reducible rfl); done)); (try simp only [Act.put, List.getElem_toArray, List.getElem_cons_succ, List.getElem_cons_zero, List.setIfInBounds_toArray, List.set_cons_zero, List.set_cons_succ])
        have HE := Lib.hid (HFin2.out _ _ _ _ (HFin.out _ _ _ H14.out) Hb.out)
        clear hHeld0
        refine doneS (by kernel_rfl) ?_ _
        go_wp2
        exact ⟨⟨i + 1, A14, c14, by go_num, by omega, congrArg (fun n => Value.slice A14 n c14) (by omega), HE.out.2.1, HE.out.2.2.1, HE.out.2.2.2⟩, by simp [intOf]; omega⟩
    · go_simp
      have H9' := Lib.hid (rd_new Wc #[.int .i64 x.id, .int .u32 (x.x : Nat), .int .u32 (x.y : Nat), .string x.d] 56 ([x].flatMap PtS.cells) rfl)
      have Hb' := Lib.hid (below_alloc Hb.out (.cells #[.int .i64 x.id, .int .u32 (x.x : Nat), .int .u32 (x.y : Nat), .string x.d] 56))
      clear hHeld0
      refine hK.out _ _ (HQ.out _ Hb'.out) (fun hHeld0 => ?_)
      clear hK K
      clear Hb
      have H9 := H9'; have Hb := Hb'; clear H9' Hb'
      generalize (World.alloc Wc _) = Wd at *
      obtain ⟨Wc, rfl⟩ : ∃ W, W = Wd := ⟨_, rfl⟩
      (try simp only [Act.put, List.getElem_toArray, List.getElem_cons_succ, List.getElem_cons_zero, List.setIfInBounds_toArray, List.set_cons_zero, List.set_cons_succ])
      refine readyS (rs := [0]) (by kernel_rfl) (by simp) ?_
      refine ReadyS.consH rfl (fun K hK => ?_) ReadyS.nil
      (try simp only [List.getElem_toArray, List.getElem_cons_succ, List.getElem_cons_zero])
      go_simp
      have H0' := Lib.hid (own_lower (own_zero Wc 56 4) Hb.out.size)
      have Hb' := Lib.hid (below_alloc Hb.out (.cells #[] 56))
      have Hne := Lib.hid (H9.out.lt (by simp [PtS.cells]))
      have H9' := Lib.hid (H9.out.below (below_alloc1 Wc (.cells #[] 56)))
      clear hHeld0
      refine hK.out _ _ (HQ.out _ Hb'.out) (fun hHeld0 => ?_)
      clear hK K
      clear Hb H9
      have H0 := H0'; have Hb := Hb'; clear H0' Hb'
      have H9 := H9'; clear H9'
      generalize (World.alloc Wc _) = Wd at *
      obtain ⟨Wc, rfl⟩ : ∃ W, W = Wd := ⟨_, rfl⟩
      (try simp only [Act.put, List.getElem_toArray, List.getElem_cons_succ, List.getElem_cons_zero, List.setIfInBounds_toArray, List.set_cons_zero, List.set_cons_succ])
      refine readyS (rs := [4]) (by kernel_rfl) (by simp) ?_
      refine ReadyS.consH rfl (fun K hK => ?_) ReadyS.nil
      (try simp only [List.getElem_toArray, List.getElem_cons_succ, List.getElem_cons_zero])
      rw [if_pos (by kernel_rfl)]
      refine wp_app _ _ 49 (by rfl) w3.heap.size 56 (.agg #[.int .i64 0, .int .u32 0, .int .u32 0, .string ⟨#[]⟩]) 4 32 Try.underlying49 info_pt4 rfl (by decide) (by decide) _ 0 [] (by rfl) Ao k co ((own.take k).flatMap PtS.cells) (by rfl) H0.out (by rw [flat_len PtS.cells_len, List.length_take, Nat.min_eq_left hk]) (HRt.out _ Hb.out).1 (flat_one PtS.cells_one _) (by omega) Hb.out.size ?_
      intro A4 c4 Wd hown hgrow hat
      rw [Nat.zero_add] at hown hat ⊢
      rw [List.nil_append] at hown
      have Hb' := Lib.hid (below_grown Hb.out hgrow (fun k e => own_base H0.out k e))
      have H4 := Lib.hid hown
      have H9' := Lib.hid (rd_grown H9.out hgrow (fun ad e hk => by cases e; have h1 := Option.some.inj hk; have h2 := Hne.out; (try dsimp only at h1 h2); omega))
      clear hown hgrow hat
      clear hHeld0
      refine hK.out _ _ (HQ.out _ Hb'.out) (fun hHeld0 => ?_)
      clear hK K
      clear Hb H0 H9 Hne
      have Hb := Hb'; clear Hb'
      have H9 := H9'; clear H9'
      obtain ⟨Wc, rfl⟩ : ∃ W, W = Wd := ⟨_, rfl⟩
      (try simp only [Act.put, List.getElem_toArray, List.getElem_cons_succ, List.getElem_cons_zero, List.setIfInBounds_toArray, List.set_cons_zero, List.set_cons_succ])
      refine readyS (rs := [10]) (by kernel_rfl) (by simp) ?_
      refine ReadyS.consH rfl (fun K hK => ?_) ReadyS.nil
      (try simp only [List.getElem_toArray, List.getElem_cons_succ, List.getElem_cons_zero])
      rw [if_pos (by kernel_rfl)]
      refine wp_app _ _ 49 (by rfl) w3.heap.size 56 (.agg #[.int .i64 0, .int .u32 0, .int .u32 0, .string ⟨#[]⟩]) 4 32 Try.underlying49 info_pt4 rfl (by decide) (by decide) (.slice A4 k c4) k ((own.take k).flatMap PtS.cells) (by rfl) _ 1 1 ([x].flatMap PtS.cells) (by rfl) H4.out rfl H9.out (flat_one PtS.cells_one _) (by omega) Hb.out.size ?_
      intro A10 c10 Wd hown hgrow hat
      have Hb' := Lib.hid (below_grown Hb.out hgrow (fun k e => own_base H4.out k e))
      have H10 := Lib.hid hown
      clear hown hgrow hat
      clear hHeld0
      refine hK.out _ _ (HQ.out _ Hb'.out) (fun hHeld0 => ?_)
      clear hK K
      clear Hb H4 H9
      have Hb := Hb'; clear Hb'
      obtain ⟨Wc, rfl⟩ : ∃ W, W = Wd := ⟨_, rfl⟩
      (try simp only [Act.put, List.getElem_toArray, List.getElem_cons_succ, List.getElem_cons_zero, List.setIfInBounds_toArray, List.set_cons_zero, List.set_cons_succ])
      refine readyS (rs := [14]) (by kernel_rfl) (by simp) ?_
      refine ReadyS.consH rfl (fun K hK => ?_) ReadyS.nil
      (try simp only [List.getElem_toArray, List.getElem_cons_succ, List.getElem_cons_zero])
      rw [if_pos (by kernel_rfl)]
      refine wp_app _ _ 49 (by rfl) w3.heap.size 56 (.agg #[.int .i64 0, .int .u32 0, .int .u32 0, .string ⟨#[]⟩]) 4 32 Try.underlying49 info_pt4 rfl (by decide) (by decide) (.slice A10 (k + 1) c10) (k + 1) ((own.take k).flatMap PtS.cells ++ [x].flatMap PtS.cells) (by rfl) A2 (i - k) (co - k) ((own.drop k).flatMap PtS.cells) (by rfl) H10.out (by rw [flat_len PtS.cells_len, List.length_drop, HOl.out]) (HRt.out _ Hb.out).2 (flat_one PtS.cells_one _) (by omega) Hb.out.size ?_
      intro A14 c14 Wd hown hgrow hat
      have Hb' := Lib.hid (below_grown Hb.out hgrow (fun k e => own_base H10.out k e))
      have H14 := Lib.hid hown
      clear hown hgrow hat
      clear hHeld0
      refine hK.out _ _ (HQ.out _ Hb'.out) (fun hHeld0 => ?_)
      clear hK K
      clear Hb H10
      have Hb := Hb'; clear Hb'
      obtain ⟨Wc, rfl⟩ : ∃ W, W = Wd := ⟨_, rfl⟩
      (try simp only [Act.put, List.getElem_toArray, List.getElem_cons_succ, List.getElem_cons_zero, List.setIfInBounds_toArray, List.set_cons_zero, List.set_cons_succ])
      refine takeF (i := 15) (v := ?_) rfl (by kernel_rfl) (fun _ _ _ h => h) (Or.inl ⟨by kernel_rfl, ?_⟩) (by assumption) ?_; rotate_left; (focus (intro w _; go_simp; (try with_reducible rfl); done)); (try simp only [Act.put, List.getElem_toArray, List.getElem_cons_succ, List.getElem_cons_zero, List.setIfInBounds_toArray, List.set_cons_zero, List.set_cons_succ])
      have HE := Lib.hid (HFin2.out _ _ _ _ (HFin.out _ _ _ H14.out) Hb.out)
      clear hHeld0
      refine doneS (by kernel_rfl) ?_ _
      go_wp2
      exact ⟨⟨i + 1, A14, c14, by go_num, by omega, congrArg (fun n => Value.slice A14 n c14) (by omega), HE.out.2.1, HE.out.2.2.1, HE.out.2.2.2⟩, by simp [intOf]; omega⟩
  · obtain rfl : i = l.length := by omega
    have d : decide (l.length < l.length) = false := decide_eq_false (by omega)
    have di : decide ((l.length : Int) < l.length) = false := decide_eq_false (by omega)
    have HE : Hid (PRow w3 (.slice Ao nk co) ((byNear x0 y0 l).take nk)) := Lib.hid (take_prow (N := l.length) (by
      have h0 := HO.out
      rw [List.take_length] at h0
      have h1 : w3.ownsRow w.heap.size 56 4 (.slice Ao l.length co) (byNear x0 y0 l).length ((byNear x0 y0 l).flatMap PtS.cells) := by rw [byNear_length]; exact h0
      exact srd_own PtS.cells_len (by decide) h1) (by rw [byNear_length]; exact hkl))
    have hki : (nk : Int) = min K l.length := by rw [← HKK.out]; exact HKI.out
    have HKI2 := Lib.hid hki
    clear HO hki
    go_wp2
    all_goals (go_ret; exact ⟨.slice Ao nk co, ret_sl (by have := HKI2.out; omega), HE.out, HBr.out⟩)
end Go.Proofs.Ytdomngpkahgoiaa.Md
