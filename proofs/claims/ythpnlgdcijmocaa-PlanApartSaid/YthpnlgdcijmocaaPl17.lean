/- A row of bools; the walk over PlanApart. -/
import Derived.Test.YthpnlgdcijmocaaPl16
namespace Go.Proofs.Ythpnlgdcijmocaa.Pl
open Go.RowKit Rg
set_option linter.unusedVariables false
set_option linter.unusedSimpArgs false
def ub (n : Nat) (u : Nat → Bool) : List Value := (List.range n).map fun c => .bool (u c)
theorem ub_len (n : Nat) (u : Nat → Bool) : (ub n u).length = n := by simp [ub]
theorem ub_get {n c : Nat} (u : Nat → Bool) (h : c < n) : (ub n u)[c]? = some (.bool (u c)) := by simp [ub, h]
theorem ub_set {n c : Nat} (u v : Nat → Bool) (hv : ∀ x, v x = (u x || decide (x = c))) : (ub n u).set c (.bool true) = ub n v := by
  refine List.ext_getElem (by simp [ub]) fun i h1 h2 => ?_
  rw [List.getElem_set]
  simp only [ub, List.getElem_map, List.getElem_range, hv]
  split
  · rename_i h; subst h; simp
  · rename_i h
    rw [decide_eq_false (fun e => h e.symm), Bool.or_false]
theorem ub_made (M : Nat) : (madeCells #[Value.bool false] M) = (ub M (fun _ => false)).toArray := by
  apply Array.ext'
  simp only [madeCells, Array.toList_map, Array.toList_range, ub]
  refine List.ext_getElem (by simp) fun i h1 h2 => ?_
  simp only [List.getElem_map]
  have h : ∀ j, (#[Value.bool false] : Array Value)[j % (#[Value.bool false] : Array Value).size]! = .bool false := fun j => by
    rw [show j % (#[Value.bool false] : Array Value).size = 0 from Nat.mod_one j]; rfl
  exact h _
theorem make_b (M : Nat) (hM : M ≤ 1000) (W : World) : (Instr.makeSlice 33 (.int .i64 M) (.int .i64 M)).run Try.prog W = .ok (.slice (some ⟨W.heap.size, 0, none⟩) M M) (W.alloc (.cells (ub M (fun _ => false)).toArray 4)) := by
  have h : (Try.prog.info? 4).map (fun i => (i.zero, i.size, i.bytes)) = some (some (.bool false), 1, 1) := by kernel_rfl
  cases hi : Try.prog.info? 4 with
  | none => rw [hi] at h; cases h
  | some i =>
    rw [hi] at h
    simp only [Option.map_some, Option.some.injEq, Prod.mk.injEq] at h
    obtain ⟨hz, hs, hb⟩ := h
    have := run_makeSlice (P := Try.prog) (w := W) 33 4 i (.bool false) Try.underlying33 hi hz .i64 .i64 M M (by omega) (by omega) (by rw [hs]; omega) (by rw [hb]; omega) (by omega)
    rw [hs, Nat.mul_one] at this
    rw [← ub_made]
    exact this
theorem allL_done {g : GeS} {K : Nat} {p : PlcS} {f : List Int} {rest : List EntS} {q : PlcS} {f' : List Int} (h : allL g K p f rest = some ([], q, f')) : rest = [] ∧ q = p ∧ f' = f := by
  cases rest with
  | nil =>
    rw [allL_nil] at h
    simp only [Option.some.injEq, Prod.mk.injEq, true_and] at h
    exact ⟨rfl, h.1.symm, h.2.symm⟩
  | cons e t =>
    cases K with
    | zero => cases h
    | succ k =>
      unfold allL at h
      split at h
      · cases h
      · split at h
        · cases h
        · cases h
theorem take_cnt {l : List EntS} {k : Nat} (h : k < l.length) : (cnt (l.take (k + 1)) : Int) = cnt (l.take k) + needL l[k] := by
  rw [List.take_succ_eq_append_getElem h, needL_cnt]
  unfold cnt
  rw [List.countP_append]
  omega
/-- What region 6 leaves. -/
def ApR (g : GeS) (p : PlcS) (free : List Int) (L : List EntS) (B : Nat) (w2 : World) (v8 v9 v10 v11 : Value) (wx : World) : Prop :=
  ∃ (E : Int) (q : PlcS) (Ao : Option Addr) (no co : Nat) (Ar : Option Addr) (nr cr b9 : Nat), v8 = .slice Ao no co ∧ v9 = .pointer (some ⟨b9, 0, none⟩) ∧ v10 = .slice Ar nr cr ∧ v11 = .int .i64 E ∧
    wx.heap[b9]? = some (.cells #[.int .i64 q.seg, .int .i64 q.off, .int .i64 q.next] 28 (0, 0)) ∧ Below B w2 wx ∧
    ((¬ E = 0 ∧ no = 0) ∨ (E = 0 ∧ ∃ (ps : List PartS) (fr : List Int), allL g L.length p free L = some (ps.map PartS.d, q, fr) ∧ no = ps.length ∧ nr = fr.length ∧ SRd 6 PartS.cells wx (.slice Ao no co) ps ∧ (∀ x ∈ ps, ERd wx x.v x.es)))
theorem apR_of {g : GeS} {p : PlcS} {free : List Int} {L : List EntS} {B : Nat} {w2 W W' : World} {B' b9 : Nat} {E : Int} {q : PlcS} {Ao Ar : Option Addr} {no co nr cr : Nat} (h : PartsE B' g p free L (.returned (.tuple #[.slice Ao no co, plv q, .slice Ar nr cr, .int .i64 E])) W)
    (hf : Fr (fun k => k = b9) W W') (hn : ∀ k, B' ≤ k → k < W.heap.size → k ≠ b9) (hq : W'.heap[b9]? = some (.cells #[.int .i64 q.seg, .int .i64 q.off, .int .i64 q.next] 28 (0, 0))) (hB : Below B w2 W') : ApR g p free L B w2 (.slice Ao no co) (.pointer (some ⟨b9, 0, none⟩)) (.slice Ar nr cr) (.int .i64 E) W' := by
  refine ⟨E, q, Ao, no, co, Ar, nr, cr, b9, rfl, rfl, rfl, rfl, hq, hB, ?_⟩
  rcases h with ⟨E', e, hE⟩ | ⟨_, _, ds, p', f', vf, vo, ps, h1, e, hi', hO, hds, hes⟩
  · simp only [Ending.returned.injEq, Value.tuple.injEq] at e
    simp at e
    obtain ⟨⟨rfl, rfl, rfl⟩, _, ⟨rfl, rfl, rfl⟩, rfl⟩ := e
    exact .inl ⟨by rcases hE with ⟨_, rfl⟩ | ⟨_, _, rfl⟩ | ⟨_, _, _, rfl⟩ <;> decide, rfl⟩
  · obtain ⟨A1, c1, rfl, _⟩ := id hi'
    obtain ⟨A2, c2, rfl, _⟩ := own_rd hO
    simp only [Ending.returned.injEq, Value.tuple.injEq] at e
    simp at e
    obtain ⟨⟨rfl, rfl, rfl⟩, ⟨z1, z2, z3⟩, ⟨rfl, rfl, rfl⟩, rfl⟩ := e
    obtain rfl : q = p' := by cases q; cases p'; simp only at z1 z2 z3; subst z1 z2 z3; rfl
    subst hds
    exact .inr ⟨rfl, ps, f', h1, rfl, rfl, srd_own PartS.cells_len (by decide) (own_fr hO hf (fun k hk => hn k (own_base hO k hk) (own_lt hO k hk))), fun x hx => srd_own EntS.cells_len (by decide) (own_fr (hes x hx) hf (fun k hk => hn k (own_base (hes x hx) k hk) (own_lt (hes x hx) k hk)))⟩
end Go.Proofs.Ythpnlgdcijmocaa.Pl
