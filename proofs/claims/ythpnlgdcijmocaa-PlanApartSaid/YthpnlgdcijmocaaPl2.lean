/- Package plan, plainly: where entries go; the walks over planner.on, planner.take. -/
import Derived.Test.YthpnlgdcijmocaaPl0
namespace Go.Proofs.Ythpnlgdcijmocaa.Pl
open Go.RowKit Rg
set_option linter.unusedVariables false
set_option linter.unusedSimpArgs false
/-- Room for a part: here, or in the next segment. -/
def onL (g : GeS) (p : PlcS) (free : List Int) : Option (PlcS × List Int) :=
  if 2 ≤ g.siz - p.off then some (p, free) else match free with
    | [] => none
    | a :: t => some (⟨p.next, 0, a⟩, t)
def needL (e : EntS) : Int := if e.kind = 1 then 1 else 0
/-- How many entries fit, and their sectors. -/
def takeL (room : Int) : Nat → Int → List EntS → Nat × Int
  | n, s, [] => (n, s)
  | n, s, e :: t => if n = 64 ∨ room - s < needL e then (n, s) else takeL room (n + 1) (s + needL e) t
structure PartD where
  p : PlcS
  last : Bool
  es : List EntS
deriving DecidableEq
/-- The parts of all entries. -/
def allL (g : GeS) : Nat → PlcS → List Int → List EntS → Option (List PartD × PlcS × List Int)
  | _, p, free, [] => some ([], p, free)
  | 0, _, _, _ :: _ => none
  | k + 1, p, free, e :: t =>
    match onL g p free with
    | none => none
    | some (p1, f1) =>
      match allL g k ⟨p1.seg, p1.off + (takeL (g.siz - p1.off) 0 1 (e :: t)).2, p1.next⟩ f1 ((e :: t).drop (takeL (g.siz - p1.off) 0 1 (e :: t)).1) with
      | none => none
      | some (ps, q, f) => some (⟨p1, (takeL (g.siz - p1.off) 0 1 (e :: t)).1 == (e :: t).length, (e :: t).take (takeL (g.siz - p1.off) 0 1 (e :: t)).1⟩ :: ps, q, f)
theorem needL_01 (e : EntS) : needL e = 0 ∨ needL e = 1 := by
  unfold needL; split
  · exact .inr rfl
  · exact .inl rfl
theorem takeL_le (room : Int) : ∀ (l : List EntS) (n : Nat) (s : Int), n ≤ 64 → s ≤ room → n ≤ (takeL room n s l).1 ∧ (takeL room n s l).1 ≤ 64 ∧ (takeL room n s l).1 ≤ n + l.length ∧ s ≤ (takeL room n s l).2 ∧ (takeL room n s l).2 ≤ room
  | [], n, s, h1, h2 => ⟨Nat.le_refl _, h1, Nat.le_refl _, Int.le_refl _, h2⟩
  | e :: t, n, s, h1, h2 => by
    unfold takeL
    split
    · exact ⟨Nat.le_refl _, h1, Nat.le_add_right _ _, Int.le_refl _, h2⟩
    · rename_i h
      have h3 := needL_01 e
      have h4 := takeL_le room t (n + 1) (s + needL e) (by omega) (by omega)
      simp only [List.length_cons]
      omega
theorem takeL_pos (room : Int) (hr : 2 ≤ room) (e : EntS) (t : List EntS) : 1 ≤ (takeL room 0 1 (e :: t)).1 := by
  unfold takeL
  have h3 := needL_01 e
  rw [if_neg (by omega)]
  have := takeL_le room t (0 + 1) (1 + needL e) (by omega) (by omega)
  omega
/-- Ints read, one less. -/
theorem ird_rest {W : World} {A : Option Addr} {n c : Nat} {x : Int} {r : List Int} (h : IRd W (.slice A n c) (x :: r)) : ∃ g o, A = some ⟨g, o, none⟩ ∧ W.cell? ⟨g, o, none⟩ = some (.int .i64 x) ∧ IRd W (.slice (if c = 1 then some ⟨g, o, none⟩ else some ⟨g, o + 1, none⟩) r.length (c - 1)) r := by
  obtain ⟨hn, hc⟩ := h.len
  obtain ⟨A', c', e, h1, h2⟩ := h
  injection e with e1 e2 e3
  subst e1
  obtain ⟨ad, rfl, h0⟩ := h2.at_ (i := 0) (by simp [iv])
  have hsp := World.cell?_spot h0
  obtain ⟨g, o, sp⟩ := ad
  have hsp : sp = none := by simpa [Addr.add] using hsp
  subst hsp
  rw [add_plain] at h0
  refine ⟨g, o, rfl, by simpa [iv] using h0, ?_⟩
  have hn2 : n = r.length + 1 := by simpa using hn
  by_cases hc1 : c = 1
  · rw [if_pos hc1]
    have e : r = [] := List.eq_nil_of_length_eq_zero (by omega)
    subst e
    exact ⟨_, c - 1, rfl, Nat.zero_le _, Rd.nil _ _⟩
  · rw [if_neg hc1]
    refine ⟨_, c - 1, rfl, by omega, ?_⟩
    have := rd_add h2 1
    have e3 : (iv (x :: r)).drop 1 = iv r := by simp [iv]
    rw [e3] at this
    have e4 : Option.map (fun x => x.add 1) (some (⟨g, o, none⟩ : Addr)) = some ⟨g, o + 1, none⟩ := by simp [add_plain]
    rwa [e4] at this
/-- The row's block is no older. -/
def geB (B : Nat) (v : Value) : Prop := ∀ a n c, v = .slice (some a) n c → B ≤ a.block
def OnE (W1 : World) (q : Nat) (g : GeS) (v : Value) (R : Option (PlcS × List Int)) (e : Ending) (w' : World) : Prop :=
  (∃ p1 f1 v1, R = some (p1, f1) ∧ e = .returned (.bool true) ∧ w'.heap[q]? = some (.cells (pcs g p1 v1) 122 (0, 0)) ∧ IRd W1 v1 f1 ∧ (∀ B, geB B v → geB B v1)) ∨ (R = none ∧ e = .returned (.bool false))
set_option maxHeartbeats 8000000 in
set_option maxRecDepth 100000 in
theorem on_ok {W1 W : World} {q : Nat} {g : GeS} {p : PlcS} {v : Value} {free : List Int} (h : W.heap[q]? = some (.cells (pcs g p v) 122 (0, 0))) (hi : IRd W1 v free) (hb : Below W1.heap.size W1 W) (hq : W1.heap.size ≤ q) (o1 : 0 ≤ p.off) (o2 : p.off ≤ g.siz) (o3 : g.siz ≤ 32) (hl : free.length ≤ 140737488355328) :
    Calls Try.prog 97 #[.pointer (some ⟨q, 0, none⟩)] W fun e w' =>
      OnE W1 q g v (onL g p free) e w' ∧ Fr (fun k => k = q) W w' := by
  have HX := Lib.hid h
  have HB := Lib.hid hb
  have HI := Lib.hid hi
  obtain ⟨Af, cf, rfl, _, _⟩ := hi
  have HD := Lib.hid (below_drew1 (w := W))
  obtain ⟨R, hR⟩ : ∃ R, onL g p free = R := ⟨_, rfl⟩
  rw [hR]
  unfold onL at hR
  have ks : IntKind.i64.wrap (g.siz - p.off) = g.siz - p.off := by rw [IntWalk.i64_in _ (by omega)]
  clear h hb
  obtain ⟨nf, hnf⟩ : ∃ n, free.length = n := ⟨_, rfl⟩
  rw [hnf] at HI HX
  go_enter Try.func97, Try.ntmps97
  go_upto_region 1 with (fail)
  have HQ : Hid (∀ W', Below W.heap.size W W' → (W'.cell? ⟨q, 0, none⟩ = some (.int .i64 g.seg) ∧ W'.cell? ⟨q, 1, none⟩ = some (.int .i64 g.siz) ∧ W'.cell? ⟨q, 2, none⟩ = some (.int .i64 p.seg) ∧ W'.cell? ⟨q, 3, none⟩ = some (.int .i64 p.off) ∧ W'.cell? ⟨q, 4, none⟩ = some (.int .i64 p.next) ∧ W'.cell? ⟨q, 5, none⟩ = some (.slice Af nf cf))) := Lib.hid (fun W' hb => pl_all (block_up HX.out hb))
  refine beginS (S := fun W' => (W'.cell? ⟨q, 0, none⟩ = some (.int .i64 g.seg) ∧ W'.cell? ⟨q, 1, none⟩ = some (.int .i64 g.siz) ∧ W'.cell? ⟨q, 2, none⟩ = some (.int .i64 p.seg) ∧ W'.cell? ⟨q, 3, none⟩ = some (.int .i64 p.off) ∧ W'.cell? ⟨q, 4, none⟩ = some (.int .i64 p.next) ∧ W'.cell? ⟨q, 5, none⟩ = some (.slice Af nf cf))) [] (by kernel_rfl) (HQ.out _ HD.out) (fun hHeld0 => ?_)
  have HX1 := Lib.hid (block_up HX.out HD.out)
  have HB1 := Lib.hid (below_up HB.out HD.out)
  have HFr := Lib.hid (Fr.of_below (S := fun k => k = q) HD.out)
  generalize (World.drew W) = W0 at *
  refine takeF (i := 0) (v := ?_) rfl (by kernel_rfl) (fun _ _ _ h => h) (Or.inl ⟨by kernel_rfl, ?_⟩) (by assumption) ?_; rotate_left; (focus (intro w _; go_simp; (try with_reducible rfl); done)); (try simp only [Act.put, List.getElem_toArray, List.getElem_cons_succ, List.getElem_cons_zero, List.setIfInBounds_toArray, List.set_cons_zero, List.set_cons_succ])
  refine takeF (i := 1) (v := ?_) rfl (by kernel_rfl) (fun _ _ _ h => h) (Or.inl ⟨by kernel_rfl, ?_⟩) (by assumption) ?_; rotate_left; (focus (intro w _; go_simp; (try with_reducible rfl); done)); (try simp only [Act.put, List.getElem_toArray, List.getElem_cons_succ, List.getElem_cons_zero, List.setIfInBounds_toArray, List.set_cons_zero, List.set_cons_succ])
  refine takeF (i := 2) (v := ?_) rfl (by kernel_rfl) (fun _ _ _ h => h) (Or.inl ⟨by kernel_rfl, ?_⟩) (by assumption) ?_; rotate_left; (focus (intro w _; go_simp; (try with_reducible rfl); done)); (try simp only [Act.put, List.getElem_toArray, List.getElem_cons_succ, List.getElem_cons_zero, List.setIfInBounds_toArray, List.set_cons_zero, List.set_cons_succ])
  refine takeF (i := 3) (v := ?_) rfl (by kernel_rfl) (fun _ _ _ h => h) (Or.inl ⟨by kernel_rfl, ?_⟩) (by assumption) ?_; rotate_left; (focus (intro w _; go_simp; (try with_reducible rfl); done)); (try simp only [Act.put, List.getElem_toArray, List.getElem_cons_succ, List.getElem_cons_zero, List.setIfInBounds_toArray, List.set_cons_zero, List.set_cons_succ])
  refine takeH (i := 4) (v := ?_) rfl (by kernel_rfl) (fun _ _ _ h => h) (Or.inl ⟨by kernel_rfl, ?_⟩) (by assumption) ?_; rotate_left; (focus (intro w hSw; (try dsimp only at hSw); go_simp; (try with_reducible rfl); done)); (try simp only [Act.put, List.getElem_toArray, List.getElem_cons_succ, List.getElem_cons_zero, List.setIfInBounds_toArray, List.set_cons_zero, List.set_cons_succ])
  refine takeF (i := 5) (v := ?_) rfl (by kernel_rfl) (fun _ _ _ h => h) (Or.inl ⟨by kernel_rfl, ?_⟩) (by assumption) ?_; rotate_left; (focus (intro w _; go_simp; (try with_reducible rfl); done)); (try simp only [Act.put, List.getElem_toArray, List.getElem_cons_succ, List.getElem_cons_zero, List.setIfInBounds_toArray, List.set_cons_zero, List.set_cons_succ])
  refine takeF (i := 6) (v := ?_) rfl (by kernel_rfl) (fun _ _ _ h => h) (Or.inl ⟨by kernel_rfl, ?_⟩) (by assumption) ?_; rotate_left; (focus (intro w _; go_simp; (try with_reducible rfl); done)); (try simp only [Act.put, List.getElem_toArray, List.getElem_cons_succ, List.getElem_cons_zero, List.setIfInBounds_toArray, List.set_cons_zero, List.set_cons_succ])
  refine takeF (i := 7) (v := ?_) rfl (by kernel_rfl) (fun _ _ _ h => h) (Or.inl ⟨by kernel_rfl, ?_⟩) (by assumption) ?_; rotate_left; (focus (intro w _; go_simp; (try with_reducible rfl); done)); (try simp only [Act.put, List.getElem_toArray, List.getElem_cons_succ, List.getElem_cons_zero, List.setIfInBounds_toArray, List.set_cons_zero, List.set_cons_succ])
  refine takeF (i := 8) (v := ?_) rfl (by kernel_rfl) (fun _ _ _ h => h) (Or.inl ⟨by kernel_rfl, ?_⟩) (by assumption) ?_; rotate_left; (focus (intro w _; go_simp; (try with_reducible rfl); done)); (try simp only [Act.put, List.getElem_toArray, List.getElem_cons_succ, List.getElem_cons_zero, List.setIfInBounds_toArray, List.set_cons_zero, List.set_cons_succ])
  refine takeH (i := 9) (v := ?_) rfl (by kernel_rfl) (fun _ _ _ h => h) (Or.inl ⟨by kernel_rfl, ?_⟩) (by assumption) ?_; rotate_left; (focus (intro w hSw; (try dsimp only at hSw); go_simp; (try with_reducible rfl); done)); (try simp only [Act.put, List.getElem_toArray, List.getElem_cons_succ, List.getElem_cons_zero, List.setIfInBounds_toArray, List.set_cons_zero, List.set_cons_succ])
  refine takeF (i := 10) (v := ?_) rfl (by kernel_rfl) (fun _ _ _ h => h) (Or.inl ⟨by kernel_rfl, ?_⟩) (by assumption) ?_; rotate_left; (focus (intro w _; go_simp; (try with_reducible rfl); done)); (try simp only [Act.put, List.getElem_toArray, List.getElem_cons_succ, List.getElem_cons_zero, List.setIfInBounds_toArray, List.set_cons_zero, List.set_cons_succ])
  refine takeF (i := 11) (v := ?_) rfl (by kernel_rfl) (fun _ _ _ h => h) (Or.inl ⟨by kernel_rfl, ?_⟩) (by assumption) ?_; rotate_left; (focus (intro w _; go_simp; (try with_reducible rfl); done)); (try simp only [Act.put, List.getElem_toArray, List.getElem_cons_succ, List.getElem_cons_zero, List.setIfInBounds_toArray, List.set_cons_zero, List.set_cons_succ])
  clear hHeld0
  refine doneS (by kernel_rfl) ?_ _
  by_cases h2 : 2 ≤ g.siz - p.off
  · rw [if_pos h2] at hR
    have d2 : decide (g.siz - p.off ≥ 2) = true := decide_eq_true h2
    have HRr := Lib.hid hR
    clear hR
    go_wp2
    go_ret
    exact ⟨.inl ⟨p, free, _, HRr.out.symm, rfl, HX1.out, hnf ▸ HI.out, by rw [hnf]; exact fun _ h => h⟩, HFr.out⟩
  · rw [if_neg h2] at hR
    have d2 : decide (g.siz - p.off ≥ 2) = false := decide_eq_false (by omega)
    have q5 := (pl_all HX1.out).2.2.2.2.2
    cases free with
    | nil =>
      simp only [List.length_nil] at hnf
      subst hnf
      have HRr := Lib.hid hR
      clear hR
      go_wp2
      go_ret
      exact ⟨.inr ⟨HRr.out.symm, rfl⟩, HFr.out⟩
    | cons a t =>
      simp only [List.length_cons] at hnf hl
      subst hnf
      have HRr := Lib.hid hR
      clear hR
      obtain ⟨gf, of', rfl, hca, hrest⟩ := ird_rest HI.out
      have HRest := Lib.hid hrest
      have HCa := Lib.hid hca
      have e0 : (((t.length + 1 : Nat) : Int) == 0) = false := by rw [beq_eq_false_iff_ne]; omega
      clear hca hrest
      go_upto_region 5 with (fail)
      clear q5
      have HQ2 : Hid (∀ W', Below W0.heap.size W0 W' → (W'.cell? ⟨q, 0, none⟩ = some (.int .i64 g.seg) ∧ W'.cell? ⟨q, 1, none⟩ = some (.int .i64 g.siz) ∧ W'.cell? ⟨q, 2, none⟩ = some (.int .i64 p.seg) ∧ W'.cell? ⟨q, 3, none⟩ = some (.int .i64 p.off) ∧ W'.cell? ⟨q, 4, none⟩ = some (.int .i64 p.next) ∧ W'.cell? ⟨q, 5, none⟩ = some (.slice (some ⟨gf, of', none⟩) (t.length + 1) cf)) ∧ W'.cell? ⟨gf, of', none⟩ = some (.int .i64 a)) := Lib.hid (fun W' hb => ⟨pl_all (block_up HX1.out hb), cell_up HCa.out (below_up HB1.out hb)⟩)
      have HD2 := Lib.hid (below_drew1 (w := W0))
      refine beginS (S := fun W' => (W'.cell? ⟨q, 0, none⟩ = some (.int .i64 g.seg) ∧ W'.cell? ⟨q, 1, none⟩ = some (.int .i64 g.siz) ∧ W'.cell? ⟨q, 2, none⟩ = some (.int .i64 p.seg) ∧ W'.cell? ⟨q, 3, none⟩ = some (.int .i64 p.off) ∧ W'.cell? ⟨q, 4, none⟩ = some (.int .i64 p.next) ∧ W'.cell? ⟨q, 5, none⟩ = some (.slice (some ⟨gf, of', none⟩) (t.length + 1) cf)) ∧ W'.cell? ⟨gf, of', none⟩ = some (.int .i64 a)) [15] (by kernel_rfl) (HQ2.out _ HD2.out) (fun hHeld0 => ?_)
      have HX2 := Lib.hid (block_up HX1.out HD2.out)
      have HFr2 := Lib.hid (HFr.out.trans (Fr.of_below (S := fun k => k = q) HD2.out) (fun _ _ h => h))
      generalize (World.drew W0) = Wd at *
      refine takeF (i := 0) (v := ?_) rfl (by kernel_rfl) (fun _ _ _ h => h) (Or.inl ⟨by kernel_rfl, ?_⟩) (by assumption) ?_; rotate_left; (focus (intro w _; go_simp; (try with_reducible rfl); done)); (try simp only [Act.put, List.getElem_toArray, List.getElem_cons_succ, List.getElem_cons_zero, List.setIfInBounds_toArray, List.set_cons_zero, List.set_cons_succ])
      refine takeF (i := 1) (v := ?_) rfl (by kernel_rfl) (fun _ _ _ h => h) (Or.inl ⟨by kernel_rfl, ?_⟩) (by assumption) ?_; rotate_left; (focus (intro w _; go_simp; (try with_reducible rfl); done)); (try simp only [Act.put, List.getElem_toArray, List.getElem_cons_succ, List.getElem_cons_zero, List.setIfInBounds_toArray, List.set_cons_zero, List.set_cons_succ])
      refine takeF (i := 2) (v := ?_) rfl (by kernel_rfl) (fun _ _ _ h => h) (Or.inl ⟨by kernel_rfl, ?_⟩) (by assumption) ?_; rotate_left; (focus (intro w _; go_simp; (try with_reducible rfl); done)); (try simp only [Act.put, List.getElem_toArray, List.getElem_cons_succ, List.getElem_cons_zero, List.setIfInBounds_toArray, List.set_cons_zero, List.set_cons_succ])
      refine takeF (i := 3) (v := ?_) rfl (by kernel_rfl) (fun _ _ _ h => h) (Or.inl ⟨by kernel_rfl, ?_⟩) (by assumption) ?_; rotate_left; (focus (intro w _; go_simp; (try with_reducible rfl); done)); (try simp only [Act.put, List.getElem_toArray, List.getElem_cons_succ, List.getElem_cons_zero, List.setIfInBounds_toArray, List.set_cons_zero, List.set_cons_succ])
      refine takeF (i := 4) (v := ?_) rfl (by kernel_rfl) (fun _ _ _ h => h) (Or.inl ⟨by kernel_rfl, ?_⟩) (by assumption) ?_; rotate_left; (focus (intro w _; go_simp; (try with_reducible rfl); done)); (try simp only [Act.put, List.getElem_toArray, List.getElem_cons_succ, List.getElem_cons_zero, List.setIfInBounds_toArray, List.set_cons_zero, List.set_cons_succ])
      refine takeH (i := 5) (v := ?_) rfl (by kernel_rfl) (fun _ _ _ h => h) (Or.inl ⟨by kernel_rfl, ?_⟩) (by assumption) ?_; rotate_left; (focus (intro w hSw; (try dsimp only at hSw); go_simp; (try with_reducible rfl); done)); (try simp only [Act.put, List.getElem_toArray, List.getElem_cons_succ, List.getElem_cons_zero, List.setIfInBounds_toArray, List.set_cons_zero, List.set_cons_succ])
      refine takeF (i := 6) (v := ?_) rfl (by kernel_rfl) (fun _ _ _ h => h) (Or.inl ⟨by kernel_rfl, ?_⟩) (by assumption) ?_; rotate_left; (focus (intro w _; go_simp; (try with_reducible rfl); done)); (try simp only [Act.put, List.getElem_toArray, List.getElem_cons_succ, List.getElem_cons_zero, List.setIfInBounds_toArray, List.set_cons_zero, List.set_cons_succ])
      refine takeF (i := 7) (v := ?_) rfl (by kernel_rfl) (fun _ _ _ h => h) (Or.inl ⟨by kernel_rfl, ?_⟩) (by assumption) ?_; rotate_left; (focus (intro w _; go_simp; (try with_reducible rfl); done)); (try simp only [Act.put, List.getElem_toArray, List.getElem_cons_succ, List.getElem_cons_zero, List.setIfInBounds_toArray, List.set_cons_zero, List.set_cons_succ])
      refine takeF (i := 8) (v := ?_) rfl (by kernel_rfl) (fun _ _ _ h => h) (Or.inl ⟨by kernel_rfl, ?_⟩) (by assumption) ?_; rotate_left; (focus (intro w _; go_simp; (try with_reducible rfl); done)); (try simp only [Act.put, List.getElem_toArray, List.getElem_cons_succ, List.getElem_cons_zero, List.setIfInBounds_toArray, List.set_cons_zero, List.set_cons_succ])
      refine takeH (i := 9) (v := ?_) rfl (by kernel_rfl) (fun _ _ _ h => h) (Or.inl ⟨by kernel_rfl, ?_⟩) (by assumption) ?_; rotate_left; (focus (intro w hSw; (try dsimp only at hSw); go_simp; (try with_reducible rfl); done)); (try simp only [Act.put, List.getElem_toArray, List.getElem_cons_succ, List.getElem_cons_zero, List.setIfInBounds_toArray, List.set_cons_zero, List.set_cons_succ])
      refine takeF (i := 10) (v := ?_) rfl (by kernel_rfl) (fun _ _ _ h => h) (Or.inl ⟨by kernel_rfl, ?_⟩) (by assumption) ?_; rotate_left; (focus (intro w _; go_simp; (try with_reducible rfl); done)); (try simp only [Act.put, List.getElem_toArray, List.getElem_cons_succ, List.getElem_cons_zero, List.setIfInBounds_toArray, List.set_cons_zero, List.set_cons_succ])
      refine takeH (i := 11) (v := ?_) rfl (by kernel_rfl) (fun _ _ _ h => h) (Or.inl ⟨by kernel_rfl, ?_⟩) (by assumption) ?_; rotate_left; (focus (intro w hSw; (try dsimp only at hSw); go_simp; (try with_reducible rfl); done)); (try simp only [Act.put, List.getElem_toArray, List.getElem_cons_succ, List.getElem_cons_zero, List.setIfInBounds_toArray, List.set_cons_zero, List.set_cons_succ])
      refine takeF (i := 12) (v := ?_) rfl (by kernel_rfl) (fun _ _ _ h => h) (Or.inl ⟨by kernel_rfl, ?_⟩) (by assumption) ?_; rotate_left; (focus (intro w _; go_simp; (try with_reducible rfl); done)); (try simp only [Act.put, List.getElem_toArray, List.getElem_cons_succ, List.getElem_cons_zero, List.setIfInBounds_toArray, List.set_cons_zero, List.set_cons_succ])
      refine takeF (i := 13) (v := ?_) rfl (by kernel_rfl) (fun _ _ _ h => h) (Or.inl ⟨by kernel_rfl, ?_⟩) (by assumption) ?_; rotate_left; (focus (intro w _; go_simp; (try with_reducible rfl); done)); (try simp only [Act.put, List.getElem_toArray, List.getElem_cons_succ, List.getElem_cons_zero, List.setIfInBounds_toArray, List.set_cons_zero, List.set_cons_succ])
      refine takeF (i := 14) (v := ?_) rfl (by kernel_rfl) (fun _ _ _ h => h) (Or.inl ⟨by kernel_rfl, ?_⟩) (by assumption) ?_; rotate_left; (focus (intro w _; go_simp; (try with_reducible rfl); done)); (try simp only [Act.put, List.getElem_toArray, List.getElem_cons_succ, List.getElem_cons_zero, List.setIfInBounds_toArray, List.set_cons_zero, List.set_cons_succ])
      clear hHeld0
      obtain ⟨_, _, z2, z3, z4, _⟩ := pl_all HX2.out
      have f2 := free_block HX2.out 2
      have f3 := free_block HX2.out 3
      have f4 := free_block HX2.out 4
      refine readyS (rs := [15]) (by kernel_rfl) (by simp) ?_
      refine ReadyS.consP rfl (by kernel_rfl) (fun K hK => ?_) ReadyS.nil
      (try simp only [List.getElem_toArray, List.getElem_cons_succ, List.getElem_cons_zero])
      go_simp
      have HX3 := Lib.hid (blk_set (blk_set (blk_set HX2.out 2 (.int .i64 p.next)) 3 (.int .i64 0)) 4 (.int .i64 a))
      have HFr3 := Lib.hid (((HFr2.out.set (p := ⟨q, 2, none⟩) (fun _ => rfl) (.int .i64 p.next)).set (p := ⟨q, 3, none⟩) (fun _ => rfl) (.int .i64 0)).set (p := ⟨q, 4, none⟩) (fun _ => rfl) (.int .i64 a))
      refine hK.out _ _ ?_
      clear hK K
      (try simp only [Act.put, List.getElem_toArray, List.getElem_cons_succ, List.getElem_cons_zero, List.setIfInBounds_toArray, List.set_cons_zero, List.set_cons_succ])
      clear z2 z3 z4 f2 f3 f4
      generalize (((Wd.setCell _ _).setCell _ _).setCell _ _) = We at *
      refine doneS (by kernel_rfl) ?_ _
      have HX4 : Hid (We.heap[q]? = some (.cells (pcs g ⟨p.next, 0, a⟩ (.slice (some ⟨gf, of', none⟩) (t.length + 1) cf)) 122 (0, 0))) := HX3
      have q5 := (pl_all HX4.out).2.2.2.2.2
      have f5 := free_block HX4.out 5
      have b1 : (1 : Int) ≤ ((t.length + 1 : Nat) : Int) := by omega
      obtain ⟨A5, hA5⟩ : ∃ A5, (if cf = 1 then some (⟨gf, of', none⟩ : Addr) else some ⟨gf, of' + 1, none⟩) = A5 := ⟨_, rfl⟩
      have HGe : Hid (∀ B, geB B (.slice (some ⟨gf, of', none⟩) (t.length + 1) cf) → geB B (.slice A5 t.length (cf - 1))) := Lib.hid (fun B hB a n c e => by
        have h1 := hB _ _ _ rfl
        cases e
        split at hA5
        · cases hA5; exact h1
        · cases hA5; exact h1)
      rw [hA5] at HRest
      go_wp2
      go_ret
      exact ⟨.inl ⟨⟨p.next, 0, a⟩, t, _, HRr.out.symm, rfl, blk_set HX4.out 5 (.slice A5 t.length (cf - 1)), HRest.out, HGe.out⟩, HFr3.out.set (p := ⟨q, 5, none⟩) (fun _ => rfl) _⟩
end Go.Proofs.Ythpnlgdcijmocaa.Pl
