/- The walks over slices.Clone of points, grove.own, (*Grove).is, grove.New. -/
import Derived.Test.YtjhhknkhgilecaaNd2
import Derived.Test.YtjhhknkhgilecaaMp
import Derived.Lib.LazyBuf
import Derived.WalkSpells
namespace Go.Proofs.Ytjhhknkhgilecaa.Gv
open Go.RowKit Lt Pt Rg Nd Mp
set_option linter.unusedVariables false
set_option linter.unusedSimpArgs false
theorem info_pt : (Try.prog.info? 41).map (fun i => (i.zero, i.size, i.bytes)) = some (some (.agg #[.int .i64 0, .int .u32 0, .int .u32 0, .string ⟨#[]⟩]), 4, 32) := by kernel_rfl
theorem nd_all {W : World} {g : Nat} {n : NdS} {f : Nat × Nat} (h : W.heap[g]? = some (.cells (ncells n) 159 f)) :
    W.cell? ⟨g, 0, none⟩ = some (.bool n.lf) ∧ W.cell? ⟨g, 1, none⟩ = some n.v ∧ W.cell? ⟨g, 2, none⟩ = some (.int .i64 n.next) ∧ W.cell? ⟨g, 3, none⟩ = some (.int .i64 (n.ks 0)) ∧ W.cell? ⟨g, 4, none⟩ = some (.int .i64 (n.ks 1)) ∧ W.cell? ⟨g, 5, none⟩ = some (.int .i64 (n.ks 2)) ∧ W.cell? ⟨g, 6, none⟩ = some (.int .i64 (n.ks 3)) ∧ W.cell? ⟨g, 7, none⟩ = some (.int .i64 (n.cs 0)) ∧ W.cell? ⟨g, 8, none⟩ = some (.int .i64 (n.cs 1)) ∧ W.cell? ⟨g, 9, none⟩ = some (.int .i64 (n.cs 2)) ∧ W.cell? ⟨g, 10, none⟩ = some (.int .i64 (n.cs 3)) := by
  refine ⟨?_, ?_, ?_, ?_, ?_, ?_, ?_, ?_, ?_, ?_, ?_⟩ <;> (rw [cell_block h]; rfl)
theorem cells1' {W : World} {g : Nat} {a b c0 d0 e0 f0 g0 h0 i0 j0 k0 : Value} {t : TypeId} {f : Nat × Nat} (h : W.heap[g]? = some (.cells #[a, b, c0, d0, e0, f0, g0, h0, i0, j0, k0] t f)) : W.cell? ⟨g, 1, none⟩ = some b := by rw [cell_block h]; rfl
abbrev zc : Array Value := #[.bool false, .slice none 0 0, .int .i64 0, .int .i64 0, .int .i64 0, .int .i64 0, .int .i64 0, .int .i64 0, .int .i64 0, .int .i64 0, .int .i64 0]
theorem info_nd : (Try.prog.info? 159).map (·.size) = some 11 := by kernel_rfl
set_option maxHeartbeats 4000000 in
set_option maxRecDepth 100000 in
theorem clone_ok (v : Value) (l : List PtS) (w : World) (h : PRd w v l) (hl : l.length ≤ 1000000) :
    Calls Try.prog 80 #[v] w fun e w' => ∃ v', e = .returned v' ∧ w'.ownsRow w.heap.size 41 4 v' l.length (l.flatMap PtS.cells) ∧ Below w.heap.size w w' := by
  have HV := Lib.hid h
  obtain ⟨A, c, rfl, hc, hr⟩ := h
  clear hr
  cases A with
  | none =>
    have hl0 : l = [] := by
      obtain ⟨A', c', e, _, h2⟩ := HV.out
      cases e
      cases l with
      | nil => rfl
      | cons a t =>
        obtain ⟨ad, e, _⟩ := h2 0 (by simp [PtS.cells])
        cases e
    subst hl0
    have qT : ∀ w : World, (binOp .eql 64 (.slice none 0 c) (.slice none 0 0)).run Try.prog w = .ok (.bool true) w := fun w => run_eql_slice_nil w _ _ _ _ _ Try.underlying64
    go_enter Try.func80, Try.ntmps80
    go_wp2
    go_ret
    exact ⟨_, rfl, ⟨rfl, .inl ⟨rfl, rfl⟩⟩, Below.refl _ _⟩
  | some a =>
    have qT : ∀ w : World, (binOp .eql 64 (.slice (some a) l.length c) (.slice none 0 0)).run Try.prog w = .ok (.bool false) w := fun w => run_eql_slice_nil w _ _ _ _ _ Try.underlying64
    have HA := Lib.hid (HV.out.below (below_alloc1 w (.cells #[] 41)))
    go_enter Try.func80, Try.ntmps80
    go_wp2_with (at_builtin; refine wpList_app rfl _ _ 64 rfl w.heap.size 41 (.agg #[.int .i64 0, .int .u32 0, .int .u32 0, .string ⟨#[]⟩]) 4 32 Try.underlying64 info_pt rfl (by decide) (by decide) (.slice (some ⟨w.heap.size, 0, none⟩) 0 0) 0 [] rfl (some a) l.length c (l.flatMap PtS.cells) rfl (own_zero _ _ _) (by rw [flat_len PtS.cells_len]) ?_ (flat_one PtS.cells_one _) (by omega) (below_alloc1 _ _).size ?_)
    · obtain ⟨A', c', e, _, h2⟩ := HA.out
      cases e
      exact h2
    intro A1 c1 w1 hown hgrow _
    (try simp only [Nat.zero_add, List.nil_append] at hown)
    have hb := below_grown (below_alloc1 w (.cells #[] 41)) hgrow (fun k e => by cases e; exact Nat.le_refl _)
    have HO := Lib.hid (And.intro hown hb)
    clear hown hgrow hb
    go_wp2
    go_ret
    exact ⟨_, rfl, HO.out⟩
theorem results_cell1 {P : Program} {fn : Func} {p : Tmp} {ty : TypeId} (h : fn.results = #[.cell p ty]) (tmps : Array Value) (w : World) (g : Nat) (t0 : TypeId) (cs : Array Value) (fr : Nat × Nat) (d : TypeDesc)
    (hp : tmps.getD p undef = .pointer (some ⟨g, 0, none⟩)) (hg : w.heap[g]? = some (.cells cs t0 fr))
    (hu : P.underlying ty = some d) (hd : (match d with | .struct _ | .array _ _ => true | _ => false) = true) (hi : (P.info? ty).map (·.size) = some cs.size) :
    (results fn tmps).run P w = .ok (.agg cs) w := by
  have hp' : tmps[p]?.getD undef = .pointer (some ⟨g, 0, none⟩) := by simpa using hp
  simp [results, h, hp', asAddr, run_loadVar_row w g t0 ty cs fr d hg hu hd hi]
theorem info_ndn (n : NdS) : (Try.prog.info? 159).map (·.size) = some (ncells n).size := info_nd
theorem hold_nd (n m : NdS) : (ncells m).size = (ncells n).size := rfl
theorem hold_zc (n : NdS) : zc.size = (ncells n).size := rfl
theorem nd_one (n : NdS) (hv : n.v.oneCell' = true) : (ncells n).all (·.oneCell') = true := by
  simp [Value.oneCell'] at hv ⊢
  exact hv
theorem row_one {W : World} {base : Nat} {e : TypeId} {size m : Nat} {v : Value} {xs : List Value} (h : W.ownsRow base e size v m xs) : v.oneCell' = true := by
  obtain ⟨A, c, rfl, _⟩ := own_rd h
  rfl
set_option maxHeartbeats 4000000 in
set_option maxRecDepth 100000 in
theorem gown_ok (n : NdS) (w : World) (h : PRd w n.v n.pts) (hl : n.pts.length ≤ 1000000) :
    Calls Try.prog 126 #[nv n] w fun e w' => ∃ v', e = .returned (nv { n with v := v' }) ∧ w'.ownsRow w.heap.size 41 4 v' n.pts.length (n.pts.flatMap PtS.cells) ∧ Below w.heap.size w w' := by
  have hw1 : (w.alloc (.cells (ncells n) 159)).heap.size = w.heap.size + 1 := by unfold World.alloc; simp
  have q1 := alloc_old (alloc_at (w := w) (.cells (ncells n) 159) rfl) (.cells zc 159)
  have q2 := alloc_at (w := w.alloc (.cells (ncells n) 159)) (n := w.heap.size + 1) (.cells zc 159) hw1.symm
  have qb := below_alloc (below_alloc1 w (.cells (ncells n) 159)) (.cells zc 159)
  have H := Lib.hid (And.intro q1 (And.intro q2 qb))
  have HCl := Lib.hid (clone_ok n.v n.pts _ (h.below qb) hl)
  have c1 := (nd_cells q1).2.1
  clear q1 q2 qb hw1 h
  obtain ⟨lf, v, pts, next, ks, cs⟩ := n
  simp only at HCl c1 H hl ⊢
  go_enter Try.func126, Try.ntmps126
  go_wp2_with fail
  generalize ((w.alloc _).alloc _) = w1 at *
  (with_reducible refine HCl.out.mono ?_); rintro e w2 ⟨v', rfl, ho, hb⟩
  clear c1
  obtain ⟨A', c', hv', _⟩ := own_rd ho
  subst hv'
  obtain ⟨v', hv'⟩ : ∃ v', v' = Value.slice A' pts.length c' := ⟨_, rfl⟩
  rw [← hv'] at ho
  have hx1 := block_up H.out.1 hb
  have hx2 := block_up H.out.2.1 hb
  have h1 := Lib.hid (blk_set hx1 1 v')
  have h2 := Lib.hid (blk_far hx2 (p := ⟨w.heap.size, 1, none⟩) (by simp) v')
  have hsz : Hid (w1.heap.size ≥ w.heap.size + 2) := Lib.hid (by
    have := (Array.getElem?_eq_some_iff.1 H.out.2.1).1
    omega)
  have hO := Lib.hid (own_set ho (p := ⟨w.heap.size, 1, none⟩) (fun e => by have := own_base ho _ e; have := hsz.out; simp only at *; omega) v')
  have hF : Hid (Fr (fun k => w.heap.size ≤ k) w (w2.setCell ⟨w.heap.size, 1, none⟩ v')) := Lib.hid (Fr.set (S := fun k => w.heap.size ≤ k) ((Fr.of_below H.out.2.2).below hb) (p := ⟨w.heap.size, 1, none⟩) (fun _ => Nat.le_refl _) v')
  have hone := Lib.hid (row_one ho)
  have f1 := free_block hx1 1
  have g1 := cells1' hx1
  clear hx1 hx2 ho hb
  subst hv'
  have h1' := h1.out
  simp only [List.setIfInBounds_toArray, List.set_cons_succ, List.set_cons_zero] at h1'
  have h1 := Lib.hid h1'
  clear h1'
  have hn : Hid (∀ W : World, True) := Lib.hid (fun _ => trivial)
  clear hn
  have i1 := info_ndn ⟨lf, .slice A' pts.length c', pts, next, ks, cs⟩
  have i2 := hold_zc ⟨lf, .slice A' pts.length c', pts, next, ks, cs⟩
  have i3 := nd_one ⟨lf, .slice A' pts.length c', pts, next, ks, cs⟩ hone.out
  have HI := Lib.hid (And.intro i1 (And.intro i2 i3))
  clear i1 i2 i3
  go_wp2_with (first
    | (with_reducible refine wpList_store_rowF rfl 159 _ _ rfl (w.heap.size + 1) (ncells ⟨lf, .slice A' pts.length c', pts, next, ks, cs⟩) rfl rfl 159 _ h2.out HI.out.1 HI.out.2.1 HI.out.2.2 ?_; intro w4 hg4 hf4)
    | (with_reducible refine wpList_load_row rfl 159 _ rfl w.heap.size rfl 159 (ncells ⟨lf, .slice A' pts.length c', pts, next, ks, cs⟩) (0, 0) _ h1.out Try.underlying159 rfl HI.out.1 ?_))
  refine bodyPost_ret (v := nv ⟨lf, .slice A' pts.length c', pts, next, ks, cs⟩) (results_cell1 (p := 2) rfl _ _ (w.heap.size + 1) _ _ (0, 0) _ rfl hg4 Try.underlying159 rfl HI.out.1) rfl ⟨_, rfl, ?_, ?_⟩
  · refine own_lower (own_fr hO.out hf4 (fun k hk e => ?_)) H.out.2.2.size
    have := own_base hO.out k hk
    have := hsz.out
    omega
  · exact (hF.out.trans hf4 (fun k hk e => by subst e; omega)).toBelow (fun _ h => h) (Nat.le_refl _)
set_option maxHeartbeats 4000000 in
set_option maxRecDepth 100000 in
theorem new_ok (w : World) : Calls Try.prog 99 #[] w fun e w' => e = .returned (.pointer (some ⟨w.heap.size + 1, 0, none⟩)) ∧ w'.heap[w.heap.size + 1]? = some (.cells #[.map (some w.heap.size)] 190 (0, 0)) ∧ MAt Try.prog 3 w' w.heap.size 0 (fun _ => none) ∧ Below w.heap.size w w' := by
  have hmm := @run_makeMap Try.prog
  have hw1 : (w.alloc (.map #[] 0)).heap.size = w.heap.size + 1 := by unfold World.alloc; simp
  have H := Lib.hid (And.intro (alloc_at (w := w.alloc (.map #[] 0)) (n := w.heap.size + 1) (.cells #[.map (some w.heap.size)] 190) hw1.symm) (And.intro ((made Try.prog 3 w).up (below_alloc1 _ (.cells #[.map (some w.heap.size)] 190))) (below_alloc (below_alloc1 w (.map #[] 0)) (.cells #[.map (some w.heap.size)] 190))))
  clear hw1
  go_enter Try.func99, Try.ntmps99
  go_wp2
  go_ret
  exact ⟨rfl, H.out⟩
theorem is_none (w : World) : Calls Try.prog 124 #[.pointer none] w fun e w' => e = .returned (.bool false) ∧ w = w' := by
  go_enter Try.func124, Try.ntmps124
  go_wp2
  go_ret
  exact ⟨rfl, rfl⟩
theorem is_ok {w : World} {p : Nat} {m : Option Nat} (h : w.heap[p]? = some (.cells #[.map m] 190 (0, 0))) : Calls Try.prog 124 #[.pointer (some ⟨p, 0, none⟩)] w fun e w' => e = .returned (.bool m.isSome) ∧ w = w' := by
  have c0 : w.cell? ⟨p, 0, none⟩ = some (.map m) := by rw [cell_block h]; rfl
  have qT : ∀ w : World, (binOp .neq 188 (.map m) (.map none)).run Try.prog w = .ok (.bool (!m.isNone)) w := fun w => run_neq_map_nil w _ _ _ m Try.underlying188
  clear h
  cases m
  · go_enter Try.func124, Try.ntmps124
    go_wp2
    go_ret
    exact ⟨rfl, rfl⟩
  · go_enter Try.func124, Try.ntmps124
    go_wp2
    go_ret
    exact ⟨rfl, rfl⟩
end Go.Proofs.Ytjhhknkhgilecaa.Gv
