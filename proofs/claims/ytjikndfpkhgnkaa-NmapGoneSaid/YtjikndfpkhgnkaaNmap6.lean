/- The walk over nmap.Apply. -/
import Derived.Test.YtjikndfpkhgnkaaNmap5
import Derived.Test.YtjikndfpkhgnkaaEnt
namespace Go.Proofs.Ytjikndfpkhgnkaa.Nm
open Go.RowKit
set_option linter.unusedVariables false
set_option linter.unusedSimpArgs false

abbrev ApS := (Nat → Int) × List Int
def apStep (s : ApS) (e : EntS) : Option ApS :=
  if e.odd = true then none else if e.kind = 1 then (match s.2 with | [] => none | x :: r => some (upd s.1 e.id x, r)) else some (upd s.1 e.id 0, s.2)
def apAll (s : ApS) (l : List EntS) : Option ApS := l.foldlM apStep s
theorem apAll_succ (s : ApS) (l : List EntS) (k : Nat) (h : k < l.length) : apAll s (l.take (k + 1)) = (apAll s (l.take k)).bind fun x => apStep x l[k] := by
  unfold apAll
  rw [List.take_succ_eq_append_getElem h, List.foldlM_append]
  cases (List.foldlM apStep s (List.take k l)) with
  | none => rfl
  | some x => show (List.foldlM apStep x [l[k]]) = _; simp [List.foldlM]
theorem apAll_none (s : ApS) (l : List EntS) (k : Nat) (h : k < l.length) {x : ApS} (h1 : apAll s (l.take k) = some x) (h2 : apStep x l[k] = none) : apAll s l = none := by
  have e : l = l.take k ++ l[k] :: l.drop (k + 1) := by rw [← List.drop_eq_getElem_cons h, List.take_append_drop]
  unfold apAll at *
  rw [e, List.foldlM_append, h1]
  show (List.foldlM apStep x (l[k] :: List.drop (k + 1) l)) = none
  rw [List.foldlM_cons, h2]; rfl
def apF (f : Nat → Int) (l : List EntS) (a : List Int) : Nat → Int := match apAll (f, a) l with | some (g, []) => g | _ => f
def apB (f : Nat → Int) (l : List EntS) (a : List Int) : Bool := match apAll (f, a) l with | some (_, []) => true | _ => false
theorem ap_none {f : Nat → Int} {l : List EntS} {a : List Int} (h : apAll (f, a) l = none) : apF f l a = f ∧ apB f l a = false := by unfold apF apB; rw [h]; exact ⟨rfl, rfl⟩
theorem ap_rest {f g : Nat → Int} {l : List EntS} {a : List Int} {x : Int} {r : List Int} (h : apAll (f, a) l = some (g, x :: r)) : apF f l a = f ∧ apB f l a = false := by unfold apF apB; rw [h]; exact ⟨rfl, rfl⟩
theorem ap_all {f g : Nat → Int} {l : List EntS} {a : List Int} (h : apAll (f, a) l = some (g, [])) : apF f l a = g ∧ apB f l a = true := by unfold apF apB; rw [h]; exact ⟨rfl, rfl⟩
theorem results_cell_tmp {P : Program} {fn : Func} {p t : Tmp} {ty : TypeId} (h : fn.results = #[.cell p ty, .tmp t]) (tmps : Array Value) (w : World) (g : Nat) (t0 : TypeId) (cs : Array Value) (fr : Nat × Nat) (d : TypeDesc)
    (hp : tmps.getD p undef = .pointer (some ⟨g, 0, none⟩)) (hg : w.heap[g]? = some (.cells cs t0 fr))
    (hu : P.underlying ty = some d) (hd : (match d with | .struct _ | .array _ _ => true | _ => false) = true) (hi : (P.info? ty).map (·.size) = some cs.size) (v : Value) (hv : tmps.getD t undef = v) :
    (results fn tmps).run P w = .ok (.tuple #[.agg cs, v]) w := by
  subst hv
  have hp' : tmps[p]?.getD undef = .pointer (some ⟨g, 0, none⟩) := by simpa using hp
  simp [results, h, hp', asAddr, run_loadVar_row w g t0 ty cs fr d hg hu hd hi]
theorem chk1 (e : EntS) : chkSum 0 [e] = if e.odd = true then 12 else 0 := by
  unfold chkSum
  rw [if_neg (by decide), if_neg (by simp)]
  simp
theorem ird_tail {w : World} {A : Option Addr} {n c : Nat} {x : Int} {r : List Int} (h : IRd w (.slice A n c) (x :: r)) : ∃ g o, A = some ⟨g, o, none⟩ ∧ w.cell? ⟨g, o, none⟩ = some (.int .i64 x) ∧ n = r.length + 1 ∧ n ≤ c ∧ ∀ c', r.length ≤ c' → IRd w (.slice (some ⟨g, o + 1, none⟩) r.length c') r := by
  obtain ⟨hn, hc⟩ := h.len
  obtain ⟨A', c', e, h1, h2⟩ := h
  injection e with e1 e2 e3
  subst e1
  obtain ⟨ad, rfl, h0⟩ := h2.at_ (i := 0) (by simp [iv])
  have hsp := World.cell?_spot h0
  obtain ⟨g, o, sp⟩ := ad
  have hsp : sp = none := by simpa [Addr.add] using hsp
  subst hsp
  rw [add_plain] at h0
  refine ⟨g, o, rfl, by simpa [iv] using h0, by simpa using hn, hc, fun c' hc' => ⟨_, c', rfl, hc', ?_⟩⟩
  have := rd_add h2 1
  have e3 : (iv (x :: r)).drop 1 = iv r := by simp [iv]
  rw [e3] at this
  have e4 : Option.map (fun x => x.add 1) (some (⟨g, o, none⟩ : Addr)) = some ⟨g, o + 1, none⟩ := by simp [add_plain]
  rwa [e4] at this
def PS (w w3 : World) (Lf LZ : List Value) (W : World) (g : Nat → Int) : Prop :=
  W.heap[w.heap.size]? = some (.cells Lf.toArray 22 (0, 0)) ∧ W.heap[w.heap.size + 1]? = some (.cells LZ.toArray 22 (0, 0)) ∧ W.heap[w.heap.size + 2]? = some (.cells (lsI 256 g).toArray 22 (0, 0)) ∧ Below w.heap.size w W
theorem PS.up {w w3 : World} {Lf LZ : List Value} {W W' : World} {g : Nat → Int} (h : PS w w3 Lf LZ W g) (hb : Below W.heap.size W W') : PS w w3 Lf LZ W' g :=
  ⟨block_up h.1 hb, block_up h.2.1 hb, block_up h.2.2.1 hb, below_up h.2.2.2 hb⟩
end Go.Proofs.Ytjikndfpkhgnkaa.Nm
