/- The walks over rect.Has, croftplain.Has, package model's New, Range, Near. -/
import Derived.Test.YtdomngpkahgoiaaMd2
import Derived.Test.YtdomngpkahgoiaaRc
import Derived.Test.YtdomngpkahgoiaaWi2
namespace Go.Proofs.Ytdomngpkahgoiaa.Md
open Go.RowKit Pt St Rg Ti Wi
set_option linter.unusedVariables false
set_option linter.unusedSimpArgs false
theorem hasr_ok (r : RcS) (x y : Nat) (w : World) : Calls Try.prog 64 #[rcv r, .int .u32 (x : Nat), .int .u32 (y : Nat)] w fun e w' => e = .returned (.bool (inR r x y)) ∧ Below w.heap.size w w' := by
  obtain ⟨a, b, c, d⟩ := r
  unfold inR
  by_cases h1 : a ≤ x
  · by_cases h2 : x ≤ c
    · by_cases h3 : b ≤ y
      · by_cases h4 : y ≤ d
        · rw [decide_eq_true (p := _ ∧ _) ⟨h1, h2, h3, h4⟩]
          have k1 : decide (a ≤ x) = true := decide_eq_true h1
          have k2 : decide (x ≤ c) = true := decide_eq_true h2
          have k3 : decide (b ≤ y) = true := decide_eq_true h3
          have k4 : decide (y ≤ d) = true := decide_eq_true h4
          go_enter Try.func64, Try.ntmps64
          go_wp2
          go_ret
          exact ⟨rfl, below_alloc1 _ _⟩
        · rw [decide_eq_false (p := _ ∧ _) (fun h => h4 h.2.2.2)]
          have k1 : decide (a ≤ x) = true := decide_eq_true h1
          have k2 : decide (x ≤ c) = true := decide_eq_true h2
          have k3 : decide (b ≤ y) = true := decide_eq_true h3
          have k4 : decide (y ≤ d) = false := decide_eq_false h4
          go_enter Try.func64, Try.ntmps64
          go_wp2
          go_ret
          exact ⟨rfl, below_alloc1 _ _⟩
      · rw [decide_eq_false (p := _ ∧ _) (fun h => h3 h.2.2.1)]
        have k1 : decide (a ≤ x) = true := decide_eq_true h1
        have k2 : decide (x ≤ c) = true := decide_eq_true h2
        have k3 : decide (b ≤ y) = false := decide_eq_false h3
        go_enter Try.func64, Try.ntmps64
        go_wp2
        go_ret
        exact ⟨rfl, below_alloc1 _ _⟩
    · rw [decide_eq_false (p := _ ∧ _) (fun h => h2 h.2.1)]
      have k1 : decide (a ≤ x) = true := decide_eq_true h1
      have k2 : decide (x ≤ c) = false := decide_eq_false h2
      go_enter Try.func64, Try.ntmps64
      go_wp2
      go_ret
      exact ⟨rfl, below_alloc1 _ _⟩
  · rw [decide_eq_false (p := _ ∧ _) (fun h => h1 h.1)]
    have k1 : decide (a ≤ x) = false := decide_eq_false h1
    go_enter Try.func64, Try.ntmps64
    go_wp2
    go_ret
    exact ⟨rfl, below_alloc1 _ _⟩
theorem hasp_ok (r : RcS) (p : PtS) (w : World) : Calls Try.prog 65 #[rcv r, pv p] w fun e w' => e = .returned (.bool (inR r p.x p.y)) ∧ Below w.heap.size w w' := by
  obtain ⟨a, b, c, d⟩ := r
  obtain ⟨pi, x, y, pd⟩ := p
  unfold inR
  simp only
  by_cases h1 : a ≤ x
  · by_cases h2 : x ≤ c
    · by_cases h3 : b ≤ y
      · by_cases h4 : y ≤ d
        · rw [decide_eq_true (p := _ ∧ _) ⟨h1, h2, h3, h4⟩]
          have k1 : decide (a ≤ x) = true := decide_eq_true h1
          have k2 : decide (x ≤ c) = true := decide_eq_true h2
          have k3 : decide (b ≤ y) = true := decide_eq_true h3
          have k4 : decide (y ≤ d) = true := decide_eq_true h4
          go_enter Try.func65, Try.ntmps65
          go_wp2
          go_ret
          exact ⟨rfl, below_alloc (below_alloc1 _ _) _⟩
        · rw [decide_eq_false (p := _ ∧ _) (fun h => h4 h.2.2.2)]
          have k1 : decide (a ≤ x) = true := decide_eq_true h1
          have k2 : decide (x ≤ c) = true := decide_eq_true h2
          have k3 : decide (b ≤ y) = true := decide_eq_true h3
          have k4 : decide (y ≤ d) = false := decide_eq_false h4
          go_enter Try.func65, Try.ntmps65
          go_wp2
          go_ret
          exact ⟨rfl, below_alloc (below_alloc1 _ _) _⟩
      · rw [decide_eq_false (p := _ ∧ _) (fun h => h3 h.2.2.1)]
        have k1 : decide (a ≤ x) = true := decide_eq_true h1
        have k2 : decide (x ≤ c) = true := decide_eq_true h2
        have k3 : decide (b ≤ y) = false := decide_eq_false h3
        go_enter Try.func65, Try.ntmps65
        go_wp2
        go_ret
        exact ⟨rfl, below_alloc (below_alloc1 _ _) _⟩
    · rw [decide_eq_false (p := _ ∧ _) (fun h => h2 h.2.1)]
      have k1 : decide (a ≤ x) = true := decide_eq_true h1
      have k2 : decide (x ≤ c) = false := decide_eq_false h2
      go_enter Try.func65, Try.ntmps65
      go_wp2
      go_ret
      exact ⟨rfl, below_alloc (below_alloc1 _ _) _⟩
  · rw [decide_eq_false (p := _ ∧ _) (fun h => h1 h.1)]
    have k1 : decide (a ≤ x) = false := decide_eq_false h1
    go_enter Try.func65, Try.ntmps65
    go_wp2
    go_ret
    exact ⟨rfl, below_alloc (below_alloc1 _ _) _⟩
/-- The window's block. -/
def CPr (R : Nat) (r : RcS) (W : World) : Prop := W.heap[R]? = some (.cells #[.int .u32 (r.x0 : Nat), .int .u32 (r.y0 : Nat), .int .u32 (r.x1 : Nat), .int .u32 (r.y1 : Nat)] 24 (0, 0))
set_option maxRecDepth 100000 in
theorem range1_ok (R : Nat) (r : RcS) : PredOk 63 #[.pointer (some ⟨R, 0, none⟩)] (CPr R r) (fun p => !inR r p.x p.y) := fun p W hc => by
  have hq := block_up hc (below_alloc1 W (.cells #[.int .i64 p.id, .int .u32 (p.x : Nat), .int .u32 (p.y : Nat), .string p.d] 56))
  obtain ⟨c0, c1, c2, c3⟩ := cells4 hq
  have HH := Lib.hid (fun W => hasr_ok r p.x p.y W)
  have HB := Lib.hid (below_alloc1 W (.cells #[.int .i64 p.id, .int .u32 (p.x : Nat), .int .u32 (p.y : Nat), .string p.d] 56))
  clear hc hq
  show Calls Try.prog 63 #[pv p, .pointer (some ⟨R, 0, none⟩)] W fun e w' => e = .returned (.bool (!inR r p.x p.y)) ∧ Below W.heap.size W w'
  generalize inR r p.x p.y = b at *
  obtain ⟨pi, x, y, pd⟩ := p
  show Calls Try.prog 63 #[pv ⟨pi, x, y, pd⟩, .pointer (some ⟨R, 0, none⟩)] W fun e w' => e = .returned (.bool (!b)) ∧ Below W.heap.size W w'
  simp only at HH HB c0 c1 c2 c3
  go_enter Try.func63, Try.ntmps63
  go_wp2_with fail
  (with_reducible refine (HH.out _).mono ?_); rintro e w1 ⟨rfl, hb⟩
  have H1 := Lib.hid (below_up HB.out hb); clear hb
  go_wp2
  go_ret
  exact ⟨rfl, H1.out⟩
theorem runs_range : RunsF 63 := fun args W => by go_simp
set_option maxHeartbeats 2000000 in
theorem range_ok {W : World} {base g : Nat} {v : Value} {L : List PtS} (h : MdV W base g v L) (hl : L.length ≤ 1000000) (r : RcS) :
    Calls Try.prog 34 #[.pointer (some ⟨g, 0, none⟩), rcv r] W fun e w' => ∃ v', e = .returned v' ∧ w'.ownsRow W.heap.size 56 4 v' (L.filter (fun p => inR r p.x p.y)).length ((L.filter (fun p => inR r p.x p.y)).flatMap PtS.cells) ∧ Below W.heap.size W w' := by
  have hb1 := below_alloc1 W (.cells #[.int .u32 (r.x0 : Nat), .int .u32 (r.y0 : Nat), .int .u32 (r.x1 : Nat), .int .u32 (r.y1 : Nat)] 24)
  have HQ := Lib.hid (alloc_at (w := W) (.cells #[.int .u32 (r.x0 : Nat), .int .u32 (r.y0 : Nat), .int .u32 (r.x1 : Nat), .int .u32 (r.y1 : Nat)] 24) rfl)
  have HP := Lib.hid (points_ok (h.below hb1) (by omega))
  have HB := Lib.hid hb1
  have HDf := fun (g2 cap : Nat) (W2 : World) (hcp : CPr W.heap.size r W2) (hne : g2 ≠ W.heap.size) => pdelf_ok (base := W.heap.size) (g := g2) (cap := cap) (range1_ok W.heap.size r) (fun W W' hc hb => block_up hc hb) (fun W W' hc hf => blk_fr hc hf (fun e => hne e.symm)) runs_range W2 hcp L (by omega)
  simp only [Bool.not_not] at HDf
  have HDf := Lib.hid HDf
  have HPI := fun (W2 : World) (hcp : CPr W.heap.size r W2) => pidxg_ok (range1_ok W.heap.size r) (fun W W' hc hb => block_up hc hb) runs_range hcp (.slice none 0 0) [] (srd_nil _ _ _) (by simp)
  have HPI := Lib.hid HPI
  clear h hb1
  go_enter Try.func34, Try.ntmps34
  go_wp2_with fail
  (with_reducible refine HP.out.mono ?_); rintro e w1 ⟨v', rfl, ho, hb⟩
  have HB1 := Lib.hid (below_up HB.out hb)
  have HC1 := Lib.hid (block_up HQ.out hb)
  have hbs := hb.size
  have hz : (W.alloc (.cells #[.int .u32 (r.x0 : Nat), .int .u32 (r.y0 : Nat), .int .u32 (r.x1 : Nat), .int .u32 (r.y1 : Nat)] 24)).heap.size = W.heap.size + 1 := by unfold World.alloc; simp
  rw [hz] at ho
  have HO := Lib.hid ho
  clear hb hbs hz ho
  rcases HO.out.2 with ⟨rfl, hl0⟩ | ⟨g2, cap, cur, rfl, hbg, _⟩
  · obtain rfl : L = [] := List.eq_nil_of_length_eq_zero hl0
    have HN := Lib.hid (pdelf_nil (.func (.func 63) #[] #[.pointer (some ⟨W.heap.size, 0, none⟩)]) w1 (HPI.out w1 HC1.out))
    go_wp2_with fail
    (with_reducible refine HN.out.mono ?_); rintro e w2 ⟨rfl, hb2⟩
    have H2 := Lib.hid (below_up HB1.out hb2)
    clear hb2
    go_wp2
    go_ret
    exact ⟨_, rfl, ⟨rfl, .inl ⟨rfl, rfl⟩⟩, H2.out⟩
  · have HD := Lib.hid (HDf.out g2 cap w1 HC1.out (by omega) (own_lower HO.out (by omega)))
    have HG := Lib.hid hbg
    clear hbg
    go_wp2_with fail
    (with_reducible refine HD.out.mono ?_); rintro e w2 ⟨rfl, ho2, hf2⟩
    have H2 := Lib.hid (And.intro ho2 hf2)
    clear ho2 hf2
    go_wp2
    go_ret
    exact ⟨_, rfl, H2.out.1, ((Fr.of_below (S := fun k => W.heap.size ≤ k) HB1.out).trans H2.out.2 (fun k _ h => by subst h; have := HG.out; omega)).toBelow (fun _ h => h) (Nat.le_refl _)⟩
/-- How near points are told: by distance, then Id. -/
def cmNear (x y : Nat) (a b : PtS) : Int := orL [orL [cmpI (dist x y a.x a.y / 18446744073709551616 : Nat) (dist x y b.x b.y / 18446744073709551616 : Nat), cmpI (dist x y a.x a.y % 18446744073709551616 : Nat) (dist x y b.x b.y % 18446744073709551616 : Nat)], cmpI a.id b.id]
def nearer (x y : Nat) (a b : PtS) : Prop := dist x y a.x a.y < dist x y b.x b.y ∨ (dist x y a.x a.y = dist x y b.x b.y ∧ a.id < b.id)
theorem cmNear_lt (x y : Nat) (a b : PtS) : cmNear x y a b < 0 ↔ nearer x y a b := by
  unfold cmNear nearer orL orL orL orL cmpI
  generalize dist x y a.x a.y = P
  generalize dist x y b.x b.y = Q
  (repeat' split) <;> omega
theorem ltc_near (x y : Nat) (a b : PtS) : ltc (cmNear x y) a b = true ↔ nearer x y a b := by unfold ltc; rw [decide_eq_true_iff]; exact cmNear_lt x y a b
theorem ltc_near_f (x y : Nat) (a b : PtS) : ltc (cmNear x y) a b = false ↔ ¬ nearer x y a b := by rw [← ltc_near, Bool.not_eq_true]
theorem swo_near (x y : Nat) : SWO (ltc (cmNear x y)) where
  asymm := fun a b h => by rw [ltc_near] at h; rw [ltc_near_f]; unfold nearer at *; omega
  trans := fun a b c h1 h2 => by rw [ltc_near] at *; unfold nearer at *; omega
  ntrans := fun a b c h1 h2 => by rw [ltc_near_f] at *; unfold nearer at *; omega
/-- The nearest ones in order. -/
def byNear (x y : Nat) (L : List PtS) : List PtS := L.mergeSort (fun a b => !ltc (cmNear x y) b a)
def CPn (X Y : Nat) (x y : Nat) (W : World) : Prop := W.cell? ⟨X, 0, none⟩ = some (.int .u32 (x : Nat)) ∧ W.cell? ⟨Y, 0, none⟩ = some (.int .u32 (y : Nat))
set_option maxHeartbeats 4000000 in
set_option maxRecDepth 100000 in
theorem near1_ok (X Y x y : Nat) (hx : x < 4294967296) (hy : y < 4294967296) : CmpOk 67 #[.pointer (some ⟨X, 0, none⟩), .pointer (some ⟨Y, 0, none⟩)] (CPn X Y x y) (fun p => p.x < 4294967296 ∧ p.y < 4294967296) (cmNear x y) := fun a b W ha hb hcp => by
  have HB1 := Lib.hid (fun W => between_ok x y a.x a.y hx hy ha.1 ha.2 W)
  have HB2 := Lib.hid (fun W => between_ok x y b.x b.y hx hy hb.1 hb.2 W)
  show Calls Try.prog 67 #[pv a, pv b, .pointer (some ⟨X, 0, none⟩), .pointer (some ⟨Y, 0, none⟩)] W fun e w' => e = .returned (.int .i64 (cmNear x y a b)) ∧ Below W.heap.size W w'
  unfold cmNear
  unfold dv at HB1 HB2
  obtain ⟨p1, e1⟩ : ∃ c, dist x y a.x a.y / 18446744073709551616 = c := ⟨_, rfl⟩
  obtain ⟨p2, e2⟩ : ∃ c, dist x y a.x a.y % 18446744073709551616 = c := ⟨_, rfl⟩
  obtain ⟨q1, e3⟩ : ∃ c, dist x y b.x b.y / 18446744073709551616 = c := ⟨_, rfl⟩
  obtain ⟨q2, e4⟩ : ∃ c, dist x y b.x b.y % 18446744073709551616 = c := ⟨_, rfl⟩
  rw [e1, e2] at HB1
  rw [e3, e4] at HB2
  rw [e1, e2, e3, e4]
  clear e1 e2 e3 e4 ha hb
  have h1 := fun (W : World) => wcmp_ok p1 p2 q1 q2 W
  have h2 := fun (W : World) => cmpi_ok a.id b.id W
  obtain ⟨c1, e1⟩ : ∃ c, orL [cmpI (p1 : Int) (q1 : Int), cmpI (p2 : Int) (q2 : Int)] = c := ⟨_, rfl⟩
  obtain ⟨c2, e2⟩ : ∃ c, cmpI a.id b.id = c := ⟨_, rfl⟩
  rw [e1, e2]
  simp only [e1] at h1
  simp only [e2] at h2
  have HN := Lib.hid (And.intro h1 h2); clear h1 h2 e1 e2
  obtain ⟨ai, ax, ay, ad⟩ := a
  obtain ⟨bi, bx, bY, bd⟩ := b
  simp only at HB1 HB2 HN
  have hg1 := alloc_at (w := W) (.cells #[.int .i64 ai, .int .u32 (ax : Nat), .int .u32 (ay : Nat), .string ad] 56) rfl
  have hb1 := below_alloc1 W (.cells #[.int .i64 ai, .int .u32 (ax : Nat), .int .u32 (ay : Nat), .string ad] 56)
  have hw1 : (W.alloc (.cells #[.int .i64 ai, .int .u32 (ax : Nat), .int .u32 (ay : Nat), .string ad] 56)).heap.size = W.heap.size + 1 := by unfold World.alloc; simp
  have hg2 := alloc_at (w := W.alloc (.cells #[.int .i64 ai, .int .u32 (ax : Nat), .int .u32 (ay : Nat), .string ad] 56)) (.cells #[.int .i64 bi, .int .u32 (bx : Nat), .int .u32 (bY : Nat), .string bd] 56) hw1.symm
  have hg1' := alloc_old hg1 (.cells #[.int .i64 bi, .int .u32 (bx : Nat), .int .u32 (bY : Nat), .string bd] 56)
  have hb2 := below_alloc hb1 (.cells #[.int .i64 bi, .int .u32 (bx : Nat), .int .u32 (bY : Nat), .string bd] 56)
  have HG := Lib.hid (And.intro hg1' (And.intro hg2 (And.intro hb2 (And.intro (cell_up hcp.1 hb2) (cell_up hcp.2 hb2)))))
  clear hg1 hb1 hw1 hg2 hg1' hb2 hcp
  go_enter Try.func67, Try.ntmps67
  go_upto_region 1 with (fail)
  generalize ((W.alloc _).alloc _) = w0 at *
  have HQ : Hid (∀ (W' : World) (hb : Below w0.heap.size w0 W'), (W'.cell? ⟨X, 0, none⟩ = some (.int .u32 (x : Nat)) ∧ W'.cell? ⟨Y, 0, none⟩ = some (.int .u32 (y : Nat))) ∧ (W'.cell? ⟨W.heap.size, 0, none⟩ = some (.int .i64 ai) ∧ W'.cell? ⟨W.heap.size, 1, none⟩ = some (.int .u32 (ax : Nat)) ∧ W'.cell? ⟨W.heap.size, 2, none⟩ = some (.int .u32 (ay : Nat)) ∧ W'.cell? ⟨W.heap.size, 3, none⟩ = some (.string ad)) ∧ (W'.cell? ⟨W.heap.size + 1, 0, none⟩ = some (.int .i64 bi) ∧ W'.cell? ⟨W.heap.size + 1, 1, none⟩ = some (.int .u32 (bx : Nat)) ∧ W'.cell? ⟨W.heap.size + 1, 2, none⟩ = some (.int .u32 (bY : Nat)) ∧ W'.cell? ⟨W.heap.size + 1, 3, none⟩ = some (.string bd)) ∧ Below w0.heap.size w0 W') := Lib.hid (fun W' hb => ⟨⟨cell_up HG.out.2.2.2.1 hb, cell_up HG.out.2.2.2.2 hb⟩, cells4 (block_up HG.out.1 hb), cells4 (block_up HG.out.2.1 hb), hb⟩)
  refine beginS (S := fun W' => (W'.cell? ⟨X, 0, none⟩ = some (.int .u32 (x : Nat)) ∧ W'.cell? ⟨Y, 0, none⟩ = some (.int .u32 (y : Nat))) ∧ (W'.cell? ⟨W.heap.size, 0, none⟩ = some (.int .i64 ai) ∧ W'.cell? ⟨W.heap.size, 1, none⟩ = some (.int .u32 (ax : Nat)) ∧ W'.cell? ⟨W.heap.size, 2, none⟩ = some (.int .u32 (ay : Nat)) ∧ W'.cell? ⟨W.heap.size, 3, none⟩ = some (.string ad)) ∧ (W'.cell? ⟨W.heap.size + 1, 0, none⟩ = some (.int .i64 bi) ∧ W'.cell? ⟨W.heap.size + 1, 1, none⟩ = some (.int .u32 (bx : Nat)) ∧ W'.cell? ⟨W.heap.size + 1, 2, none⟩ = some (.int .u32 (bY : Nat)) ∧ W'.cell? ⟨W.heap.size + 1, 3, none⟩ = some (.string bd)) ∧ Below w0.heap.size w0 W') [] (by kernel_rfl) (HQ.out _ below_drew1) (fun hHeld0 => ?_)
  have Hb := Lib.hid (below_drew1 (w := w0))
  generalize (World.drew w0) = Wc at *
  refine takeH (i := 0) (v := ?_) rfl (by kernel_rfl) (fun _ _ _ h => h) (Or.inl ⟨by kernel_rfl, ?_⟩) (by assumption) ?_; rotate_left; (focus (intro w hSw; (try dsimp only at hSw); go_simp; (try with_reducible rfl); done)); (try simp only [Act.put, List.getElem_toArray, List.getElem_cons_succ, List.getElem_cons_zero, List.setIfInBounds_toArray, List.set_cons_zero, List.set_cons_succ])
  refine takeH (i := 1) (v := ?_) rfl (by kernel_rfl) (fun _ _ _ h => h) (Or.inl ⟨by kernel_rfl, ?_⟩) (by assumption) ?_; rotate_left; (focus (intro w hSw; (try dsimp only at hSw); go_simp; (try with_reducible rfl); done)); (try simp only [Act.put, List.getElem_toArray, List.getElem_cons_succ, List.getElem_cons_zero, List.setIfInBounds_toArray, List.set_cons_zero, List.set_cons_succ])
  refine takeF (i := 2) (v := ?_) rfl (by kernel_rfl) (fun _ _ _ h => h) (Or.inl ⟨by kernel_rfl, ?_⟩) (by assumption) ?_; rotate_left; (focus (intro w _; go_simp; (try with_reducible rfl); done)); (try simp only [Act.put, List.getElem_toArray, List.getElem_cons_succ, List.getElem_cons_zero, List.setIfInBounds_toArray, List.set_cons_zero, List.set_cons_succ])
  refine takeH (i := 3) (v := ?_) rfl (by kernel_rfl) (fun _ _ _ h => h) (Or.inl ⟨by kernel_rfl, ?_⟩) (by assumption) ?_; rotate_left; (focus (intro w hSw; (try dsimp only at hSw); go_simp; (try with_reducible rfl); done)); (try simp only [Act.put, List.getElem_toArray, List.getElem_cons_succ, List.getElem_cons_zero, List.setIfInBounds_toArray, List.set_cons_zero, List.set_cons_succ])
  refine takeF (i := 4) (v := ?_) rfl (by kernel_rfl) (fun _ _ _ h => h) (Or.inl ⟨by kernel_rfl, ?_⟩) (by assumption) ?_; rotate_left; (focus (intro w _; go_simp; (try with_reducible rfl); done)); (try simp only [Act.put, List.getElem_toArray, List.getElem_cons_succ, List.getElem_cons_zero, List.setIfInBounds_toArray, List.set_cons_zero, List.set_cons_succ])
  refine takeH (i := 5) (v := ?_) rfl (by kernel_rfl) (fun _ _ _ h => h) (Or.inl ⟨by kernel_rfl, ?_⟩) (by assumption) ?_; rotate_left; (focus (intro w hSw; (try dsimp only at hSw); go_simp; (try with_reducible rfl); done)); (try simp only [Act.put, List.getElem_toArray, List.getElem_cons_succ, List.getElem_cons_zero, List.setIfInBounds_toArray, List.set_cons_zero, List.set_cons_succ])
  refine takeH (i := 7) (v := ?_) rfl (by kernel_rfl) (fun _ _ _ h => h) (Or.inl ⟨by kernel_rfl, ?_⟩) (by assumption) ?_; rotate_left; (focus (intro w hSw; (try dsimp only at hSw); go_simp; (try with_reducible rfl); done)); (try simp only [Act.put, List.getElem_toArray, List.getElem_cons_succ, List.getElem_cons_zero, List.setIfInBounds_toArray, List.set_cons_zero, List.set_cons_succ])
  refine takeH (i := 8) (v := ?_) rfl (by kernel_rfl) (fun _ _ _ h => h) (Or.inl ⟨by kernel_rfl, ?_⟩) (by assumption) ?_; rotate_left; (focus (intro w hSw; (try dsimp only at hSw); go_simp; (try with_reducible rfl); done)); (try simp only [Act.put, List.getElem_toArray, List.getElem_cons_succ, List.getElem_cons_zero, List.setIfInBounds_toArray, List.set_cons_zero, List.set_cons_succ])
  refine takeF (i := 9) (v := ?_) rfl (by kernel_rfl) (fun _ _ _ h => h) (Or.inl ⟨by kernel_rfl, ?_⟩) (by assumption) ?_; rotate_left; (focus (intro w _; go_simp; (try with_reducible rfl); done)); (try simp only [Act.put, List.getElem_toArray, List.getElem_cons_succ, List.getElem_cons_zero, List.setIfInBounds_toArray, List.set_cons_zero, List.set_cons_succ])
  refine takeH (i := 10) (v := ?_) rfl (by kernel_rfl) (fun _ _ _ h => h) (Or.inl ⟨by kernel_rfl, ?_⟩) (by assumption) ?_; rotate_left; (focus (intro w hSw; (try dsimp only at hSw); go_simp; (try with_reducible rfl); done)); (try simp only [Act.put, List.getElem_toArray, List.getElem_cons_succ, List.getElem_cons_zero, List.setIfInBounds_toArray, List.set_cons_zero, List.set_cons_succ])
  refine takeF (i := 11) (v := ?_) rfl (by kernel_rfl) (fun _ _ _ h => h) (Or.inl ⟨by kernel_rfl, ?_⟩) (by assumption) ?_; rotate_left; (focus (intro w _; go_simp; (try with_reducible rfl); done)); (try simp only [Act.put, List.getElem_toArray, List.getElem_cons_succ, List.getElem_cons_zero, List.setIfInBounds_toArray, List.set_cons_zero, List.set_cons_succ])
  refine takeH (i := 12) (v := ?_) rfl (by kernel_rfl) (fun _ _ _ h => h) (Or.inl ⟨by kernel_rfl, ?_⟩) (by assumption) ?_; rotate_left; (focus (intro w hSw; (try dsimp only at hSw); go_simp; (try with_reducible rfl); done)); (try simp only [Act.put, List.getElem_toArray, List.getElem_cons_succ, List.getElem_cons_zero, List.setIfInBounds_toArray, List.set_cons_zero, List.set_cons_succ])
  refine takeF (i := 15) (v := ?_) rfl (by kernel_rfl) (fun _ _ _ h => h) (Or.inl ⟨by kernel_rfl, ?_⟩) (by assumption) ?_; rotate_left; (focus (intro w _; go_simp; (try with_reducible rfl); done)); (try simp only [Act.put, List.getElem_toArray, List.getElem_cons_succ, List.getElem_cons_zero, List.setIfInBounds_toArray, List.set_cons_zero, List.set_cons_succ])
  refine takeH (i := 16) (v := ?_) rfl (by kernel_rfl) (fun _ _ _ h => h) (Or.inl ⟨by kernel_rfl, ?_⟩) (by assumption) ?_; rotate_left; (focus (intro w hSw; (try dsimp only at hSw); go_simp; (try with_reducible rfl); done)); (try simp only [Act.put, List.getElem_toArray, List.getElem_cons_succ, List.getElem_cons_zero, List.setIfInBounds_toArray, List.set_cons_zero, List.set_cons_succ])
  refine takeF (i := 17) (v := ?_) rfl (by kernel_rfl) (fun _ _ _ h => h) (Or.inl ⟨by kernel_rfl, ?_⟩) (by assumption) ?_; rotate_left; (focus (intro w _; go_simp; (try with_reducible rfl); done)); (try simp only [Act.put, List.getElem_toArray, List.getElem_cons_succ, List.getElem_cons_zero, List.setIfInBounds_toArray, List.set_cons_zero, List.set_cons_succ])
  refine takeH (i := 18) (v := ?_) rfl (by kernel_rfl) (fun _ _ _ h => h) (Or.inl ⟨by kernel_rfl, ?_⟩) (by assumption) ?_; rotate_left; (focus (intro w hSw; (try dsimp only at hSw); go_simp; (try with_reducible rfl); done)); (try simp only [Act.put, List.getElem_toArray, List.getElem_cons_succ, List.getElem_cons_zero, List.setIfInBounds_toArray, List.set_cons_zero, List.set_cons_succ])
  clear hHeld0
  refine readyS (rs := [6]) (by kernel_rfl) (by simp) ?_
  refine ReadyS.consH rfl (fun K hK => ?_) ReadyS.nil
  (try simp only [List.getElem_toArray, List.getElem_cons_succ, List.getElem_cons_zero])
  go_simp
  (with_reducible refine (HB1.out _).mono ?_); rintro e W1 ⟨rfl, hb⟩
  have Hb1 := Lib.hid (below_up Hb.out hb); clear hb
  refine hK.out _ _ (HQ.out _ Hb1.out) (fun hHeld => ?_)
  clear hK K
  (try simp only [Act.put, List.getElem_toArray, List.getElem_cons_succ, List.getElem_cons_zero, List.setIfInBounds_toArray, List.set_cons_zero, List.set_cons_succ])
  clear hHeld
  refine readyS (rs := [13]) (by kernel_rfl) (by simp) ?_
  refine ReadyS.consH rfl (fun K hK => ?_) ReadyS.nil
  (try simp only [List.getElem_toArray, List.getElem_cons_succ, List.getElem_cons_zero])
  go_simp
  (with_reducible refine (HB2.out _).mono ?_); rintro e W2 ⟨rfl, hb⟩
  have Hb2 := Lib.hid (below_up Hb1.out hb); clear hb
  refine hK.out _ _ (HQ.out _ Hb2.out) (fun hHeld => ?_)
  clear hK K
  (try simp only [Act.put, List.getElem_toArray, List.getElem_cons_succ, List.getElem_cons_zero, List.setIfInBounds_toArray, List.set_cons_zero, List.set_cons_succ])
  clear hHeld
  refine readyS (rs := [14]) (by kernel_rfl) (by simp) ?_
  refine ReadyS.consH rfl (fun K hK => ?_) ReadyS.nil
  (try simp only [List.getElem_toArray, List.getElem_cons_succ, List.getElem_cons_zero])
  go_simp
  (with_reducible refine (HN.out.1 _).mono ?_); rintro e W3 ⟨rfl, hb⟩
  have Hb3 := Lib.hid (below_up Hb2.out hb); clear hb
  refine hK.out _ _ (HQ.out _ Hb3.out) (fun hHeld => ?_)
  clear hK K
  (try simp only [Act.put, List.getElem_toArray, List.getElem_cons_succ, List.getElem_cons_zero, List.setIfInBounds_toArray, List.set_cons_zero, List.set_cons_succ])
  clear hHeld
  refine readyS (rs := [19]) (by kernel_rfl) (by simp) ?_
  refine ReadyS.consH rfl (fun K hK => ?_) ReadyS.nil
  (try simp only [List.getElem_toArray, List.getElem_cons_succ, List.getElem_cons_zero])
  go_simp
  (with_reducible refine (HN.out.2 _).mono ?_); rintro e W4 ⟨rfl, rfl⟩
  refine hK.out _ _ (HQ.out _ Hb3.out) (fun hHeld => ?_)
  clear hK K
  (try simp only [Act.put, List.getElem_toArray, List.getElem_cons_succ, List.getElem_cons_zero, List.setIfInBounds_toArray, List.set_cons_zero, List.set_cons_succ])
  clear hHeld
  refine readyS (rs := [20]) (by kernel_rfl) (by simp) ?_
  refine ReadyS.consH rfl (fun K hK => ?_) ReadyS.nil
  (try simp only [List.getElem_toArray, List.getElem_cons_succ, List.getElem_cons_zero])
  go_simp
  have hi := ird_new W3 [c1, c2] #[.int .i64 c1, .int .i64 c2] rfl 2 rfl
  have Hb4 := Lib.hid (below_alloc Hb3.out (.cells #[.int .i64 c1, .int .i64 c2] 3))
  have HL := Lib.hid (show [c1, c2].length ≤ 100 by simp)
  have HI := Lib.hid hi; clear hi
  refine hK.out _ _ (HQ.out _ Hb4.out) (fun hHeld => ?_)
  clear hK K
  (try simp only [Act.put, List.getElem_toArray, List.getElem_cons_succ, List.getElem_cons_zero, List.setIfInBounds_toArray, List.set_cons_zero, List.set_cons_succ])
  clear hHeld
  generalize (World.alloc W3 _) = Wd at *
  refine readyS (rs := [21]) (by kernel_rfl) (by simp) ?_
  refine ReadyS.consH rfl (fun K hK => ?_) ReadyS.nil
  (try simp only [List.getElem_toArray, List.getElem_cons_succ, List.getElem_cons_zero])
  go_simp
  (with_reducible refine (or_ok _ _ _ HI.out HL.out).mono ?_); rintro e W5 ⟨rfl, rfl⟩
  refine hK.out _ _ (HQ.out _ Hb4.out) (fun hHeld => ?_)
  clear hK K
  (try simp only [Act.put, List.getElem_toArray, List.getElem_cons_succ, List.getElem_cons_zero, List.setIfInBounds_toArray, List.set_cons_zero, List.set_cons_succ])
  refine takeF (i := 22) (v := ?_) rfl (by kernel_rfl) (fun _ _ _ h => h) (Or.inl ⟨by kernel_rfl, ?_⟩) (by assumption) ?_; rotate_left; (focus (intro w _; go_simp; (try with_reducible rfl); done)); (try simp only [Act.put, List.getElem_toArray, List.getElem_cons_succ, List.getElem_cons_zero, List.setIfInBounds_toArray, List.set_cons_zero, List.set_cons_succ])
  clear hHeld
  refine doneS (by kernel_rfl) ?_ _
  go_wp2
  go_ret
  exact ⟨rfl, below_up HG.out.2.2.1 Hb4.out⟩
theorem runs_near : RunsF 67 := fun args W => by go_simp
theorem ret_sl {A : Option Addr} {m n c : Nat} (h : m = n) : Ending.returned (.slice A m c) = .returned (.slice A n c) := by rw [h]
/-- How many are told. -/
def nearK (k : Int) (n : Nat) : Nat := min (min (max k 0) 64).toNat n
theorem nearK_le (k : Int) (n : Nat) : nearK k n ≤ n := Nat.min_le_right _ _
theorem nearK_int (k : Int) (n : Nat) (hn : n ≤ 1000000) : (nearK k n : Int) = min (min (max k 0) 64) n := by unfold nearK; omega
theorem near_no {W : World} {p : Value} (h : Nob W p) (x y : Nat) (k : Int) (hk : -9223372036854775808 ≤ k ∧ k ≤ 9223372036854775807) : Calls Try.prog 36 #[p, .int .u32 (x : Nat), .int .u32 (y : Nat), .int .i64 k] W fun e w' => (∃ c, e = .returned (.slice none 0 c)) ∧ Below W.heap.size W w' := by
  have hb := below_alloc (below_alloc1 W (.cells #[.int .u32 (x : Nat)] 22)) (.cells #[.int .u32 (y : Nat)] 22)
  have HP := Lib.hid (points_no (h.below hb))
  have HB := Lib.hid hb
  have HS := Lib.hid (fun vf W => sort_nil vf W)
  clear h hb
  go_enter Try.func36, Try.ntmps36
  go_wp2_with fail
  (with_reducible refine HP.out.mono ?_); rintro e w1 ⟨rfl, rfl⟩
  go_wp2_with fail
  (with_reducible refine (HS.out _ _).mono ?_); rintro e w2 ⟨rfl, rfl⟩
  go_wp2
  all_goals (go_ret; exact ⟨⟨0, ret_sl (by omega)⟩, HB.out⟩)
theorem take_prow {W : World} {A : Option Addr} {N c : Nat} {L : List PtS} (h : PRow W (.slice A N c) L) {n : Nat} (hn : n ≤ L.length) : PRow W (.slice A n c) (L.take n) := by
  have hl := SRd.len h
  obtain ⟨A1, c1, e1, h0, h1⟩ := SRd.take h PtS.cells_len hn c (by omega)
  injection e1 with e1 _ e3
  subst e1
  subst e3
  exact ⟨A, c, by rw [List.length_take, Nat.min_eq_left hn], h0, h1⟩
set_option maxHeartbeats 2000000 in
set_option maxRecDepth 100000 in
theorem near_ok {W : World} {base g : Nat} {v : Value} {L : List PtS} (h : MdV W base g v L) (hl : L.length ≤ 1000000) (hf : ∀ p ∈ L, p.fine) (x y : Nat) (hx : x < 4294967296) (hy : y < 4294967296) (k : Int) (hk : -9223372036854775808 ≤ k ∧ k ≤ 9223372036854775807) :
    Calls Try.prog 36 #[.pointer (some ⟨g, 0, none⟩), .int .u32 (x : Nat), .int .u32 (y : Nat), .int .i64 k] W fun e w' => ∃ v', e = .returned v' ∧ PRow w' v' ((byNear x y L).take (nearK k L.length)) ∧ Below W.heap.size W w' := by
  have hb := below_alloc (below_alloc1 W (.cells #[.int .u32 (x : Nat)] 22)) (.cells #[.int .u32 (y : Nat)] 22)
  have hq1 := alloc_at (w := W) (.cells #[.int .u32 (x : Nat)] 22) rfl
  have hw1 : (W.alloc (.cells #[.int .u32 (x : Nat)] 22)).heap.size = W.heap.size + 1 := by unfold World.alloc; simp
  have hw2 : ((W.alloc (.cells #[.int .u32 (x : Nat)] 22)).alloc (.cells #[.int .u32 (y : Nat)] 22)).heap.size = W.heap.size + 1 + 1 := by unfold World.alloc; simp
  have hq2 := alloc_at (w := W.alloc (.cells #[.int .u32 (x : Nat)] 22)) (.cells #[.int .u32 (y : Nat)] 22) hw1.symm
  have hq1' := alloc_old hq1 (.cells #[.int .u32 (y : Nat)] 22)
  have HC := Lib.hid (show CPn W.heap.size (W.heap.size + 1) x y _ from ⟨by rw [cell_block hq1']; rfl, by rw [cell_block hq2]; rfl⟩)
  have HZ := Lib.hid hw2
  have HP := Lib.hid (points_ok (h.below hb) (by omega))
  have HB := Lib.hid hb
  have HN := Lib.hid (fun vf W => sort_nil vf W)
  have HSo := Lib.hid (fun (g2 cap : Nat) (W2 : World) (hcp : CPn W.heap.size (W.heap.size + 1) x y W2) (h1 : g2 ≠ W.heap.size) (h2 : g2 ≠ W.heap.size + 1) => sort_ok (base := W.heap.size) (g := g2) (cap := cap) (near1_ok W.heap.size (W.heap.size + 1) x y hx hy) (swo_near x y) (fun W W' hc hf => ⟨cell_fr hc.1 hf (fun e => h1 e.symm), cell_fr hc.2 hf (fun e => h2 e.symm)⟩) runs_near W2 hcp L (fun p hp => ⟨(hf p hp).2.1, (hf p hp).2.2.1⟩) (by omega))
  have hki := nearK_int k L.length hl
  have hkl := nearK_le k L.length
  have HLen : Hid ((byNear x y L).length = L.length) := Lib.hid (List.length_mergeSort _)
  obtain ⟨n, hn⟩ : ∃ n, nearK k L.length = n := ⟨_, rfl⟩
  rw [hn] at hki hkl ⊢
  clear h hb hq1 hq2 hq1' hw1 hw2 hn
  go_enter Try.func36, Try.ntmps36
  go_wp2_with fail
  (with_reducible refine HP.out.mono ?_); rintro e w1 ⟨v', rfl, ho, hb⟩
  have HB1 := Lib.hid (below_up HB.out hb)
  have HC1 := Lib.hid (show CPn W.heap.size (W.heap.size + 1) x y w1 from ⟨cell_up HC.out.1 hb, cell_up HC.out.2 hb⟩)
  rw [HZ.out] at ho
  have HO := Lib.hid ho
  clear hb ho
  rcases HO.out.2 with ⟨rfl, hl0⟩ | ⟨g2, cap, cur, rfl, hbg, _, hcap, hcm, _⟩
  · obtain rfl : L = [] := List.eq_nil_of_length_eq_zero hl0
    go_wp2_with fail
    (with_reducible refine (HN.out _ _).mono ?_); rintro e w2 ⟨rfl, rfl⟩
    rw [List.length_nil] at hkl
    obtain rfl : n = 0 := by omega
    have HE : Hid (PRow w1 (.slice none 0 0) ((byNear x y []).take 0)) := Lib.hid (by rw [List.take_zero]; exact srd_nil _ _ _)
    clear hkl hki
    go_wp2
    all_goals (go_ret; exact ⟨.slice none 0 0, ret_sl (by omega), HE.out, HB1.out⟩)
  · have HD := Lib.hid (HSo.out g2 cap w1 HC1.out (by omega) (by omega) (own_lower HO.out (by omega)))
    have HG := Lib.hid hbg
    clear hbg
    go_wp2_with fail
    (with_reducible refine HD.out.mono ?_); rintro e w2 ⟨rfl, ho2, hf2⟩
    have HE : Hid (PRow w2 (.slice (some ⟨g2, 0, none⟩) n cap) ((byNear x y L).take n)) := Lib.hid (take_prow (N := L.length) (by
      have h1 : w2.ownsRow W.heap.size 56 4 (.slice (some ⟨g2, 0, none⟩) L.length cap) (byNear x y L).length ((byNear x y L).flatMap PtS.cells) := by rw [HLen.out]; exact ho2
      exact srd_own PtS.cells_len (by decide) h1) (by rw [HLen.out]; exact hkl))
    have HF := Lib.hid (((Fr.of_below (S := fun k => W.heap.size ≤ k) HB1.out).trans hf2 (fun k _ h => by subst h; have := HG.out; omega)).toBelow (fun _ h => h) (Nat.le_refl _))
    clear ho2 hf2
    clear hcm
    go_wp2
    all_goals (go_ret; exact ⟨.slice (some ⟨g2, 0, none⟩) n cap, ret_sl (by omega), HE.out, HF.out⟩)
end Go.Proofs.Ytdomngpkahgoiaa.Md
