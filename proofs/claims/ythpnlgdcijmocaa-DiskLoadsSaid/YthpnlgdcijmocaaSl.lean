/- Slices of structs, whatever their cells: read, owned, opened. -/
import Derived.Test.YthpnlgdcijmocaaMem
namespace Go.Proofs.Ythpnlgdcijmocaa
open Go.RowKit
set_option linter.unusedVariables false
set_option linter.unusedSimpArgs false
section
variable {α : Type} {c : Nat} {enc : α → List Value} {w w' : World} {v : Value} {xs : List α}
/-- A slice value whose elements, of c cells each, read as xs. -/
def SRd (c : Nat) (enc : α → List Value) (w : World) (v : Value) (xs : List α) : Prop :=
  ∃ A cap, v = .slice A xs.length cap ∧ xs.length ≤ cap ∧ Rd w A (xs.flatMap enc)
theorem SRd.below (h : SRd c enc w v xs) (hb : Below w.heap.size w w') : SRd c enc w' v xs := by
  obtain ⟨A, cap, e, h1, h2⟩ := h
  exact ⟨A, cap, e, h1, h2.below hb⟩
theorem srd_nil (c : Nat) (enc : α → List Value) (w : World) : SRd c enc w (.slice none 0 0) [] := ⟨none, 0, rfl, Nat.le_refl _, Rd.nil _ _⟩
theorem flat_len (he : ∀ x, (enc x).length = c) : ∀ xs : List α, (xs.flatMap enc).length = xs.length * c
  | [] => by simp
  | x :: xs => by rw [List.flatMap_cons, List.length_append, flat_len he xs, he x, List.length_cons, Nat.succ_mul]; omega
theorem flat_get (he : ∀ x, (enc x).length = c) : ∀ (xs : List α) (i : Nat) (h : i < xs.length) (j : Nat), j < c → (xs.flatMap enc)[i * c + j]? = (enc xs[i])[j]?
  | x :: xs, 0, _, j, hj => by
    rw [List.flatMap_cons, Nat.zero_mul, Nat.zero_add, List.getElem?_append_left (by rw [he x]; exact hj)]
    rfl
  | x :: xs, i + 1, h, j, hj => by
    have h' : i < xs.length := by simpa using h
    rw [List.flatMap_cons, Nat.succ_mul, List.getElem?_append_right (by rw [he x]; omega), he x, show i * c + c + j - c = i * c + j by omega, flat_get he xs i h' j hj]
    rfl
theorem flat_one (h1 : ∀ x, ∀ u ∈ enc x, u.oneCell' = true) (xs : List α) : ∀ u ∈ xs.flatMap enc, u.oneCell' = true := by
  intro u hu
  obtain ⟨x, _, hx⟩ := List.mem_flatMap.1 hu
  exact h1 x u hx
theorem srd_own (he : ∀ x, (enc x).length = c) (hc : 0 < c) {base n : Nat} {e : TypeId} (h : w.ownsRow base e c v n (xs.flatMap enc)) : SRd c enc w v xs := by
  obtain ⟨A, cap, e, h1, h2, h3, h4⟩ := own_rd h
  have hl : xs.length = n := by
    have := h.1
    rw [flat_len he] at this
    exact Nat.eq_of_mul_eq_mul_right hc this
  subst hl
  exact ⟨A, cap, e, h1, h3⟩
theorem SRd.len {A : Option Addr} {n cap : Nat} (h : SRd c enc w (.slice A n cap) xs) : n = xs.length ∧ xs.length ≤ cap := by
  obtain ⟨A', c', e, h1, _⟩ := h
  injection e with e1 e2 e3
  omega
theorem SRd.get {A : Option Addr} {n cap : Nat} (h : SRd c enc w (.slice A n cap) xs) (he : ∀ x, (enc x).length = c) (hc : 0 < c) {k : Nat} (hk : k < xs.length) :
    ∃ g o, A = some ⟨g, o, none⟩ ∧ g < w.heap.size ∧ ∀ j, j < c → w.cell? ⟨g, o + k * c + j, none⟩ = (enc xs[k])[j]? := by
  obtain ⟨A', cap', e, h1, h2⟩ := h
  injection e with e1 e2 e3
  subst e1
  have hlt : ∀ j, j < c → k * c + j < (xs.flatMap enc).length := fun j hj => by
    rw [flat_len he]
    have : k * c + c ≤ xs.length * c := by rw [← Nat.succ_mul]; exact Nat.mul_le_mul_right _ hk
    omega
  obtain ⟨ad, rfl, h0⟩ := h2.at_ (i := 0) (by rw [flat_len he]; exact Nat.mul_pos (by omega) hc)
  have hsp := World.cell?_spot h0
  obtain ⟨g, o, sp⟩ := ad
  have hsp : sp = none := by simpa [Addr.add] using hsp
  subst hsp
  refine ⟨g, o, rfl, by have := World.block_lt_of_cell? w _ h0; rwa [add_plain] at this, fun j hj => ?_⟩
  obtain ⟨ad', e', h3⟩ := h2 (k * c + j) (hlt j hj)
  injection e' with e'
  subst e'
  rw [add_plain, ← Nat.add_assoc] at h3
  rw [h3, flat_get he xs k hk j hj]
theorem SRd.take {A : Option Addr} {n cap : Nat} (h : SRd c enc w (.slice A n cap) xs) (he : ∀ x, (enc x).length = c) {k : Nat} (hk : k ≤ xs.length) (cap' : Nat) (hc' : k ≤ cap') : SRd c enc w (.slice A k cap') (xs.take k) := by
  obtain ⟨A', cap0, e, h1, h2⟩ := h
  injection e with e1 e2 e3
  subst e1
  have hl : (xs.take k).length = k := by simp; omega
  refine ⟨A, cap', by rw [hl], by rw [hl]; exact hc', ?_⟩
  have e2 : (xs.take k).flatMap enc = (xs.flatMap enc).take (k * c) := by
    conv => rhs; rw [← List.take_append_drop k xs]
    rw [List.flatMap_append]
    have hl2 : ((xs.take k).flatMap enc).length = k * c := by rw [flat_len he, hl]
    rw [← hl2, List.take_left]
  rw [e2]
  exact h2.take _
theorem SRd.drop {A : Option Addr} {n cap : Nat} (h : SRd c enc w (.slice A n cap) xs) (he : ∀ x, (enc x).length = c) {k : Nat} (hk : k ≤ xs.length) (cap' : Nat) (hc' : xs.length - k ≤ cap') :
    SRd c enc w (.slice (A.map fun x => x.add (k * c)) (xs.length - k) cap') (xs.drop k) := by
  obtain ⟨A', cap0, e, h1, h2⟩ := h
  injection e with e1 e2 e3
  subst e1
  have hl : (xs.drop k).length = xs.length - k := by simp
  refine ⟨_, cap', by rw [hl], by rw [hl]; exact hc', ?_⟩
  have e2 : (xs.drop k).flatMap enc = (xs.flatMap enc).drop (k * c) := by
    conv => rhs; rw [← List.take_append_drop k xs]
    rw [List.flatMap_append]
    have hl2 : ((xs.take k).flatMap enc).length = k * c := by rw [flat_len he, List.length_take, Nat.min_eq_left hk]
    rw [← hl2, List.drop_left]
  rw [e2]
  exact rd_add h2 _
/-- One new element in a block of its own, as 'append' gets it. -/
theorem rd_one (w : World) (x : α) (t : TypeId) (cs : Array Value) (h : cs.toList = enc x) : Rd (w.alloc (.cells cs t)) (some ⟨w.heap.size, 0, none⟩) ([x].flatMap enc) := by
  rw [List.flatMap_cons, List.flatMap_nil, List.append_nil]
  exact rd_new w cs t _ h
end
theorem results_cell_tmp {P : Program} {fn : Func} {p t : Tmp} {ty : TypeId} (h : fn.results = #[.cell p ty, .tmp t]) (tmps : Array Value) (w : World) (g : Nat) (t0 : TypeId) (cs : Array Value) (fr : Nat × Nat) (d : TypeDesc)
    (hp : tmps.getD p undef = .pointer (some ⟨g, 0, none⟩)) (hg : w.heap[g]? = some (.cells cs t0 fr))
    (hu : P.underlying ty = some d) (hd : (match d with | .struct _ | .array _ _ => true | _ => false) = true) (hi : (P.info? ty).map (·.size) = some cs.size) (v : Value) (hv : tmps.getD t undef = v) :
    (results fn tmps).run P w = .ok (.tuple #[.agg cs, v]) w := by
  subst hv
  have hp' : tmps[p]?.getD undef = .pointer (some ⟨g, 0, none⟩) := by simpa using hp
  simp [results, h, hp', asAddr, run_loadVar_row w g t0 ty cs fr d hg hu hd hi]
/-- append(v, ..) as one step of a region that draws its order. -/
theorem step_app {P : Program} {ops : Array Oper} {o : Oper} {a : Act} {Q : Exit → Act → World → Prop} {K : Act → World → Prop} {E : Prop} {W : World} (hgd : o.guard = none) (s x : Operand) (t : TypeId)
    (ho : o.op = .call { callee := .builtin .append, args := #[s, x], argTypes := #[t, t] })
    (base : Nat) (e : TypeId) (z : Value) (size bytes : Nat) (ht : P.underlying t = some (.slice e)) (hinfo : (P.info? e).map (fun i => (i.zero, i.size, i.bytes)) = some (some z, size, bytes)) (hz : z.cells.size = size) (hsz : 0 < size) (hb0 : 0 < bytes)
    (v : Value) (n : Nat) (xs : List Value) (hs : a.eval s = v) (A : Option Addr) (m c : Nat) (news : List Value) (hx : a.eval x = .slice A m c) (HO : W.ownsRow base e size v n xs) (hl : news.length = m * size) (HR : Rd W A news) (h1 : ∀ u ∈ news, u.oneCell' = true)
    (hbytes : (n + m) * bytes ≤ 140737488355328) (hbase : base ≤ W.heap.size)
    (h : ∀ A1 c1 w1, w1.ownsRow base e size (.slice A1 (n + m) c1) (n + m) (xs ++ news) → W.grownBy w1 v.ownBlock → ((Value.slice A1 (n + m) c1).ownBlock = v.ownBlock ∨ (Value.slice A1 (n + m) c1).ownBlock = some W.heap.size) →
      K (a.put o.dst (.slice A1 (n + m) c1)) w1) : if Region.wanted o (yielded ops a.tmps) = true then Oper.wp P o a W K Q else E := by
  have hw : Region.wanted o (yielded ops a.tmps) = true := by simp [Region.wanted, hgd]
  rw [if_pos hw]
  obtain ⟨A1, c1, w1, hr, h2, h3, h5⟩ := run_app (P := P) W base t o.type e z size bytes ht hinfo hz hsz hb0 v n xs HO A m c news hl HR h1 hbytes hbase
  unfold Oper.wp execOp
  simp only [ho, resolve, invoke, builtin, Sem.run_bind, Sem.run_pure, Result.andThen_ok, List.map_toArray, List.map_cons, List.map_nil, hs, hx, hr]
  exact h A1 c1 w1 h2 h3 h5
/-- The first element of which p holds; -1. -/
def fidx {α : Type} (p : α → Bool) (l : List α) : Int := if l.any p then (l.findIdx p : Int) else -1
theorem fidx_nn {α : Type} (p : α → Bool) (l : List α) : decide (0 ≤ fidx p l) = l.any p := by
  unfold fidx
  cases h : l.any p
  · simp
  · simp
theorem fidx_bnd {α : Type} (p : α → Bool) (l : List α) : -1 ≤ fidx p l ∧ fidx p l ≤ l.length := by
  unfold fidx
  split
  · have := List.findIdx_le_length (p := p) (xs := l); omega
  · omega
theorem fidx_at {α : Type} (p : α → Bool) (l : List α) (k : Nat) (hk : k < l.length) (h : (l.take k).any p = false) (hp : p l[k] = true) : fidx p l = k := by
  have ha : l.any p = true := List.any_eq_true.2 ⟨_, List.getElem_mem hk, hp⟩
  unfold fidx
  rw [if_pos ha]
  have : l.findIdx p = k := by
    rw [List.findIdx_eq hk]
    refine ⟨hp, fun j hj => ?_⟩
    have h2 := List.any_eq_false.1 h (l[j]'(by omega)) (by
      rw [List.mem_take_iff_getElem]
      exact ⟨j, by omega, rfl⟩)
    simpa using h2
  rw [this]
theorem any_take_succ {α : Type} (p : α → Bool) (l : List α) (k : Nat) (hk : k < l.length) : (l.take (k + 1)).any p = ((l.take k).any p || p l[k]) := by
  rw [List.take_succ_eq_append_getElem hk, List.any_append]; simp
theorem fidx_none {α : Type} (p : α → Bool) (l : List α) (h : l.any p = false) : fidx p l = -1 := by unfold fidx; rw [h]; rfl
end Go.Proofs.Ythpnlgdcijmocaa
