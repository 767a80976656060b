/- Arrays of whole numbers by value, as lists of cells: index, equality; a look-up of a bool in the call's own map. -/
import Derived.Test.YthpnlgdcijmocaaMem
import Derived.Deep.MidRow
import Derived.ChangeKeysEq
import Derived.Maps.OwnOps
import Derived.Deep.WholeRow
namespace Go.Proofs.Ythpnlgdcijmocaa
open Go.RowKit
set_option linter.unusedVariables false
set_option linter.unusedSimpArgs false

def lsI (n : Nat) (f : Nat → Int) : List Value := (List.range n).map fun i => .int .i64 (f i)
theorem lsI_len (n : Nat) (f : Nat → Int) : (lsI n f).length = n := by simp [lsI]
theorem lsI_size (n : Nat) (f : Nat → Int) : (lsI n f).toArray.size = n := by simp [lsI]
theorem lsI_get {n : Nat} (f : Nat → Int) {i : Nat} (h : i < n) : (lsI n f)[i]? = some (.int .i64 (f i)) := by simp [lsI, h]
theorem lsI_one (n : Nat) (f : Nat → Int) : ∀ v ∈ lsI n f, v.oneCell' = true := by
  intro v hv
  simp only [lsI, List.mem_map] at hv
  obtain ⟨i, _, rfl⟩ := hv
  rfl
theorem lsI_all (n : Nat) (f : Nat → Int) : (lsI n f).toArray.all (·.oneCell') = true := all_oneCell_toArray (lsI_one n f)
theorem lsI_congr {n : Nat} {f g : Nat → Int} (h : ∀ i, i < n → f i = g i) : lsI n f = lsI n g := List.map_congr_left fun i hi => by rw [h i (List.mem_range.1 hi)]
theorem lsI_set (n : Nat) (f : Nat → Int) (k : Nat) (x : Int) : (lsI n f).set k (.int .i64 x) = lsI n (fun i => if i = k then x else f i) := by
  apply List.ext_getElem?
  intro i
  rw [List.getElem?_set]
  by_cases h : k = i
  · subst h
    by_cases hk : k < n
    · rw [if_pos rfl, if_pos (by rw [lsI_len]; exact hk), lsI_get _ hk, if_pos rfl]
    · rw [if_pos rfl, if_neg (by rw [lsI_len]; exact hk), List.getElem?_eq_none (by rw [lsI_len]; omega)]
  · rw [if_neg h]
    by_cases hi : i < n
    · rw [lsI_get _ hi, lsI_get _ hi, if_neg (fun e => h e.symm)]
    · rw [List.getElem?_eq_none (by rw [lsI_len]; omega), List.getElem?_eq_none (by rw [lsI_len]; omega)]
theorem lsI_setA (n : Nat) (f : Nat → Int) (k : Nat) (x : Int) : (lsI n f).toArray.setIfInBounds k (.int .i64 x) = (lsI n (fun i => if i = k then x else f i)).toArray := by
  rw [List.setIfInBounds_toArray, lsI_set]
section
variable {P : Program}
theorem run_index_row {t e : TypeId} {n : Nat} (ht : P.underlying t = some (.array n e)) (he : P.plainKey e = true) (hi : (P.info? e).isSome = true) (hc : P.cellsOf e = 1) (cs : List Value) (k : IntKind) (i : Nat) (v : Value) (hin : i < n) (hv : cs[i]? = some v) (w : World) :
    (Instr.index t (.agg cs.toArray) (.int k i)).run P w = .ok v w := by
  obtain ⟨ti, hti⟩ := Option.isSome_iff_exists.1 hi
  have hs := run_sizeOf w hti
  rw [hc] at hs
  have hp : (part e cs.toArray (i * 1)).run P w = .ok v w := run_part_plain w he (by simpa using hv)
  rw [Nat.mul_one] at hp
  have h0 : (0 : Int) ≤ i ∧ (i : Int) < n := by omega
  simp only [Instr.index, asIntOf, Sem.run_bind, Sem.run_pure, Result.andThen_ok, run_underlying ht w, h0, and_self, if_true, hs, Nat.mul_one, Int.toNat_natCast, hp]
theorem run_eqItems_int {e : TypeId} (he : P.plainKey e = true) (hk : P.underlying e = some (.int .i64)) (d n : Nat) (f g : Nat → Int) (w : World) : ∀ (is : List Nat), (∀ i ∈ is, i < n) →
    (Op.eqItems (d + 1) e 1 (lsI n f).toArray (lsI n g).toArray is).run P w = .ok (is.all fun i => f i == g i) w
  | [], _ => by simp [Op.eqItems]
  | i :: is, h => by
    have hi := h i (by simp)
    have h1 : (part e (lsI n f).toArray (i * 1)).run P w = .ok (.int .i64 (f i)) w := run_part_plain w he (by simpa using lsI_get f hi)
    have h2 : (part e (lsI n g).toArray (i * 1)).run P w = .ok (.int .i64 (g i)) w := run_part_plain w he (by simpa using lsI_get g hi)
    have h3 : (Op.equalIn (d + 1) e (.int .i64 (f i)) (.int .i64 (g i))).run P w = .ok (f i == g i) w := by simp [Op.equalIn, run_underlying hk w]
    simp only [Op.eqItems, Sem.run_bind, h1, h2, h3, Result.andThen_ok, List.all_cons]
    cases hb : (f i == g i)
    · simp
    · simpa using run_eqItems_int he hk d n f g w is (fun j hj => h j (by simp [hj]))
/-- Two such arrays are one. -/
def eqA (n : Nat) (f g : Nat → Int) : Bool := decide (∀ i, i < n → f i = g i)
theorem eqA_iff {n : Nat} {f g : Nat → Int} : eqA n f g = true ↔ ∀ i, i < n → f i = g i := by unfold eqA; exact decide_eq_true_iff
theorem eqA_true {n : Nat} {f g : Nat → Int} (h : ∀ i, i < n → f i = g i) : eqA n f g = true := eqA_iff.2 h
theorem run_eqarr {t e : TypeId} {n : Nat} (ht : P.underlying t = some (.array n e)) (he : P.plainKey e = true) (hi : (P.info? e).isSome = true) (hc : P.cellsOf e = 1) (hk : P.underlying e = some (.int .i64)) (d : Nat) (f g : Nat → Int) (w : World) :
    (Op.equalIn (d + 1 + 1) t (.agg (lsI n f).toArray) (.agg (lsI n g).toArray)).run P w = .ok (eqA n f g) w := by
  obtain ⟨ti, hti⟩ := Option.isSome_iff_exists.1 hi
  rw [run_equalIn_array w _ _ _ ht hti, hc, run_eqItems_int he hk d n f g w _ (fun i h => List.mem_range.1 h)]
  congr 1
  rw [Bool.eq_iff_iff, eqA_iff]
  simp
/-- A whole row goes into a block: behind it the world by a name. -/
theorem wpList_store_rowF {ops : Array Oper} {rest : List Oper} {o : Oper} {a : Act} {w : World} {Q : Exit → Act → World → Prop} (hgd : o.guard = none) (ty : TypeId) (x y : Operand) (ho : o.op = .store ty x y)
    (g : Nat) (cells : Array Value) (hx : a.eval x = .pointer (some ⟨g, 0, none⟩)) (hy : a.eval y = .agg cells)
    (t : TypeId) (old : Array Value) (hg : w.heap[g]? = some (.cells old t (0, 0))) (hi : (P.info? ty).map (·.size) = some cells.size)
    (hold : old.size = cells.size) (h1 : cells.all (·.oneCell') = true)
    (h : ∀ W, W.heap[g]? = some (.cells cells t (0, 0)) → Fr (fun k => k = g) w W → wpList P ops Q rest (a.put o.dst undef) W) : wpList P ops Q (o :: rest) a w :=
  wpList_store_row hgd ty x y ho g cells hx hy t old hg hi hold h1 (h _ (by simp only [World.setRow, Array.getElem?_modify, hg]; simp)
    ⟨rfl, rfl, rfl, by simp [World.setRow], fun k _ hk => by simp only [World.setRow, Array.getElem?_modify]; rw [if_neg (fun e => hk e.symm)]⟩)
/-- A whole row out of a block, at a guarded operation whose guard says yes. -/
theorem wpList_load_rowG {ops : Array Oper} {rest : List Oper} {o : Oper} {a : Act} {w : World} {Q : Exit → Act → World → Prop} (ty : TypeId) (x : Operand) (ho : o.op = .load ty x)
    (hw : Region.wanted o (yielded ops a.tmps) = true) (g : Nat) (hx : a.eval x = .pointer (some ⟨g, 0, none⟩)) (t : TypeId) (cs : Array Value) (fr : Nat × Nat) (d : TypeDesc) (hg : w.heap[g]? = some (.cells cs t fr))
    (hu : P.underlying ty = some d) (hd : (match d with | .struct _ | .array _ _ => true | _ => false) = true) (hi : (P.info? ty).map (·.size) = some cs.size)
    (h : wpList P ops Q rest (a.put o.dst (.agg cs)) w) : wpList P ops Q (o :: rest) a w :=
  wpList_step fun _ hK => by rw [if_pos hw]; exact wp_load_row ty x ho g hx t cs fr d hg hu hd hi (hK _ _ h)
theorem range_blk {w : World} {g : Nat} {L : List Value} {t : TypeId} {f : Nat × Nat} (h : w.heap[g]? = some (.cells L.toArray t f)) : w.rangeAt g 0 L := fun j v hv => by
  rw [Nat.zero_add, cell_block h]; simpa using hv
/-- The load of a long row, behind a name: a rule for the walk is then an equation on its run. -/
def ldS (t : TypeId) (v : Value) : Sem Value := Instr.loadAt t v
theorem run_ldS {w : World} {g o : Nat} {L : List Value} {t : TypeId} {d : TypeDesc} (h : w.rangeAt g o L) (hu : P.underlying t = some d) (hd : d.isRow = true) (hi : (P.info? t).map (·.size) = some L.length) :
    (ldS t (.pointer (some ⟨g, o, none⟩))).run P w = .ok (.agg L.toArray) w := run_loadAt_mid w g o t L d h hu hd hi
theorem range_up {w w' : World} {g o : Nat} {L : List Value} (h : w.rangeAt g o L) (hb : Below w.heap.size w w') : w'.rangeAt g o L := fun j v hv => cell_up (h j v hv) hb
theorem ownsMap_lookup_bool {H : Type} {w : World} {k e t : TypeId} {b n : Nat} {D : DataW H} (h : w.ownsMap P k (plainElem P e) b n D) (K : Go.Maps.Keyed P k) (ht : P.underlying t = some (.map k e)) (he : P.underlying e = some .bool)
    (hz : (zeroValue e).run P w = .ok (.bool false) w) {key : Value} {kl : Lit} (hkey : keyOf P k key = some kl) (y : Bool) (hy : D.atKey kl (.lit (.bool false)) = .lit (.bool y)) :
    (Instr.lookup t (.map (some b)) key false).run P w = .ok (.bool y) w := by
  obtain ⟨v, ps, hrun, hv⟩ := h.lookup K ht hz (plainElem_bool he false) hkey
  rw [hy] at hv
  unfold plainElem at hv
  rw [he] at hv
  cases v <;> simp at hv
  rw [hrun, hv.1]
end
end Go.Proofs.Ythpnlgdcijmocaa
