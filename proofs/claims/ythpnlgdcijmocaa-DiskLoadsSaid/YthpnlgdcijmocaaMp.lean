/- Maps from int, as functions: whatever values they hold. -/
import Derived.Test.YthpnlgdcijmocaaMem
import Derived.Maps.OwnSet
namespace Go.Proofs.Ythpnlgdcijmocaa.Mp
open Go Go.RowKit Go.Maps
set_option linter.unusedVariables false
set_option linter.unusedSimpArgs false
/-- A value reads as itself. -/
def hR (v : Value) : Option (DataW Value × List MemPlace) := some (.held v, [])
def i64 (a : Int) : Prop := -9223372036854775808 ≤ a ∧ a ≤ 9223372036854775807
theorem wf_i64 {a : Int} (h : i64 a) : (Lit.int .i64 a).wf = true := by
  unfold i64 at h
  simp [Lit.wf, IntKind.min, IntKind.max, IntKind.signed, IntKind.bits]
  omega
theorem key_i64 (a : Int) : WideAt.IsKeyLit (.int .i64 a) := by first | exact trivial | simp [WideAt.IsKeyLit]
/-- Block b is a map of at most n entries, that holds what f tells. -/
def MAt (P : Program) (k : TypeId) (W : World) (b n : Nat) (f : Int → Option Value) : Prop :=
  ∃ D : DataW Value, W.ownsMap P k hR b n D ∧ ∀ a, i64 a → has D (.int .i64 a) = (f a).isSome ∧ ∀ v, f a = some v → ∀ z, D.atKey (.int .i64 a) z = .held v
def upd (f : Int → Option Value) (a : Int) (v : Option Value) : Int → Option Value := fun x => if x = a then v else f x
section
variable {P : Program} {k e t : TypeId} {W : World} {b n : Nat} {f : Int → Option Value}
theorem made (P : Program) (k : TypeId) (W : World) : MAt P k (W.alloc (.map #[] 0)) W.heap.size 0 (fun _ => none) :=
  ⟨_, World.ownsMap_made W P k hR, fun a _ => ⟨rfl, fun v h => by cases h⟩⟩
theorem MAt.mono (h : MAt P k W b n f) {n' : Nat} (hn : n ≤ n') : MAt P k W b n' f := by
  obtain ⟨D, h1, h2⟩ := h
  exact ⟨D, h1.mono hn, h2⟩
theorem MAt.blk (h : MAt P k W b n f) : ∃ es c, W.heap[b]? = some (.map es c) := by
  obtain ⟨D, ⟨es, c, hb, _⟩, _⟩ := h
  exact ⟨es, c, hb⟩
theorem MAt.lt (h : MAt P k W b n f) : b < W.heap.size := by
  obtain ⟨D, h1, h2⟩ := h
  exact h1.lt
theorem MAt.of_blk {W' : World} (h : MAt P k W b n f) (hb : W'.heap[b]? = W.heap[b]?) : MAt P k W' b n f := by
  obtain ⟨D, ⟨es, c, h1, h2⟩, h3⟩ := h
  exact ⟨D, ⟨es, c, hb.trans h1, h2⟩, h3⟩
theorem MAt.up {W' : World} (h : MAt P k W b n f) (hb : Below W.heap.size W W') : MAt P k W' b n f := h.of_blk (hb.block b h.lt)
theorem MAt.fr {W' : World} {S : Nat → Prop} (h : MAt P k W b n f) (hf : Fr S W W') (hn : ¬ S b) : MAt P k W' b n f := h.of_blk (hf.block b h.lt hn)
theorem MAt.congr {g : Int → Option Value} (h : MAt P k W b n f) (hg : ∀ a, i64 a → f a = g a) : MAt P k W b n g := by
  obtain ⟨D, h1, h2⟩ := h
  exact ⟨D, h1, fun a ha => by rw [← hg a ha]; exact h2 a ha⟩
/-- v, ok := m[a]. -/
theorem MAt.look (h : MAt P k W b n f) (hk : P.underlying k = some (.int .i64)) (ht : P.underlying t = some (.map k e)) {z : Value} (hz : (zeroValue e).run P W = .ok z W) {a : Int} (ha : i64 a) :
    (Instr.lookup t (.map (some b)) (.int .i64 a) true).run P W = .ok (.tuple #[(f a).getD z, .bool (f a).isSome]) W := by
  obtain ⟨D, h1, h2⟩ := h
  obtain ⟨v, ps, hrun, hv⟩ := h1.look_ok (int_keyed hk) ht hz (zd := .held z) (zp := []) rfl (keyOf_int_mk hk (wf_i64 ha))
  obtain ⟨h3, h4⟩ := h2 a ha
  rw [hrun, h3]
  have hv' : DataW.held v = D.atKey (.int .i64 a) (.held z) := by
    simp only [hR, Option.some.injEq, Prod.mk.injEq] at hv
    exact hv.1
  cases hf : f a with
  | some u =>
    rw [h4 u hf] at hv'
    cases hv'
    rfl
  | none =>
    rw [hf] at h3
    rw [atKey_of_not_has h3] at hv'
    cases hv'
    rfl
/-- m[a]. -/
theorem MAt.look1 (h : MAt P k W b n f) (hk : P.underlying k = some (.int .i64)) (ht : P.underlying t = some (.map k e)) {z : Value} (hz : (zeroValue e).run P W = .ok z W) {a : Int} (ha : i64 a) :
    (Instr.lookup t (.map (some b)) (.int .i64 a) false).run P W = .ok ((f a).getD z) W := by
  obtain ⟨D, h1, h2⟩ := h
  obtain ⟨v, ps, hrun, hv⟩ := h1.lookup (int_keyed hk) ht hz (zd := .held z) (zp := []) rfl (keyOf_int_mk hk (wf_i64 ha))
  obtain ⟨h3, h4⟩ := h2 a ha
  rw [hrun]
  have hv' : DataW.held v = D.atKey (.int .i64 a) (.held z) := by
    simp only [hR, Option.some.injEq, Prod.mk.injEq] at hv
    exact hv.1
  cases hf : f a with
  | some u =>
    rw [h4 u hf] at hv'
    cases hv'
    rfl
  | none =>
    rw [hf] at h3
    rw [atKey_of_not_has h3] at hv'
    cases hv'
    rfl
theorem lit_ne {a c : Int} (h : c ≠ a) : (Lit.int .i64 c) ≠ .int .i64 a := fun e => h (by injection e)
theorem turned_fr {W' : World} (h : W.mapTurned W' b) : Fr (fun x => x = b) W W' := by
  have hg := h.grown
  exact ⟨hg.os, hg.tape, hg.output, hg.size, fun x hx hn => hg.block x hx (fun e => hn (by cases e; rfl))⟩
/-- m[a] = v. -/
theorem MAt.put (h : MAt P k W b n f) (hk : P.underlying k = some (.int .i64)) (ht : P.underlying t = some (.map k e)) (hn : n < maxLen) {a : Int} (ha : i64 a) (v : Value) :
    ∃ W', (Instr.mapUpdate t (.map (some b)) (.int .i64 a) v).run P W = .ok () W' ∧ MAt P k W' b (n + 1) (upd f a (some v)) ∧ Fr (fun x => x = b) W W' := by
  obtain ⟨D, h1, h2⟩ := h
  obtain ⟨W', hrun, h3, h4⟩ := h1.store (int_keyed hk) ht hn (d := .held v) (ps := []) (val := v) (keyOf_int_mk hk (wf_i64 ha)) rfl
  refine ⟨W', hrun, ⟨_, h3, fun c hc => ?_⟩, turned_fr h4⟩
  unfold upd
  by_cases e : c = a
  · subst e
    simp only [if_true]
    exact ⟨has_put_same h1.isMap (key_i64 c) _, fun u hu z => by cases hu; exact atKey_put_same h1.isMap (key_i64 c) _ z⟩
  · simp only [if_neg e]
    exact ⟨(has_put_other (lit_ne e) _).trans (h2 c hc).1, fun u hu z => (atKey_put_other (lit_ne e) _ z).trans ((h2 c hc).2 u hu z)⟩
/-- delete(m, a). -/
theorem MAt.del (h : MAt P k W b n f) (hk : P.underlying k = some (.int .i64)) (ht : P.underlying t = some (.map k e)) {a : Int} (ha : i64 a) (ty : TypeId) :
    ∃ W', (Builtin.delete_ #[t, k] ty #[.map (some b), .int .i64 a]).run P W = .ok (.tuple #[]) W' ∧ MAt P k W' b n (upd f a none) ∧ Fr (fun x => x = b) W W' := by
  obtain ⟨D, h1, h2⟩ := h
  obtain ⟨W', hrun, h3, h4⟩ := h1.drop (int_keyed hk) ht (keyOf_int_mk hk (wf_i64 ha)) ty
  refine ⟨W', hrun, ⟨_, h3, fun c hc => ?_⟩, turned_fr h4⟩
  unfold upd
  by_cases e : c = a
  · subst e
    simp only [if_true]
    exact ⟨has_del_same, fun u hu z => by cases hu⟩
  · simp only [if_neg e]
    exact ⟨(has_del_other (lit_ne e)).trans (h2 c hc).1, fun u hu z => (atKey_del_other (lit_ne e) z).trans ((h2 c hc).2 u hu z)⟩
/-- m[a] = v as an operation by itself. -/
theorem wp_mapset {o : Oper} {a : Act} {K : Act → World → Prop} {Q : Exit → Act → World → Prop} (m x v : Operand) (ho : o.op = Op.mapUpdate t m x v) (h : MAt P k W b n f) (hk : P.underlying k = some (.int .i64)) (ht : P.underlying t = some (.map k e)) (hn : n < maxLen)
    {c : Int} (hc : i64 c) (u : Value) (hm : a.eval m = .map (some b)) (hx : a.eval x = .int .i64 c) (hv : a.eval v = u)
    (hK : ∀ W', MAt P k W' b (n + 1) (upd f c (some u)) → Fr (fun x => x = b) W W' → K (a.put o.dst undef) W') : Oper.wp P o a W K Q := by
  obtain ⟨W', hrun, r1, r2⟩ := h.put hk ht hn hc u
  unfold Oper.wp
  simp [execOp, ho, hm, hx, hv, hrun, Result.andThen]
  exact hK W' r1 r2
/-- .. in a plain region. -/
theorem wpList_mapset {ops : Array Oper} {rest : List Oper} {o : Oper} {a : Act} {Q : Exit → Act → World → Prop} (hg : o.guard = none) (m x v : Operand) (ho : o.op = Op.mapUpdate t m x v) (h : MAt P k W b n f) (hk : P.underlying k = some (.int .i64)) (ht : P.underlying t = some (.map k e)) (hn : n < maxLen)
    {c : Int} (hc : i64 c) (u : Value) (hm : a.eval m = .map (some b)) (hx : a.eval x = .int .i64 c) (hv : a.eval v = u)
    (hK : ∀ W', MAt P k W' b (n + 1) (upd f c (some u)) → Fr (fun x => x = b) W W' → wpList P ops Q rest (a.put o.dst undef) W') : wpList P ops Q (o :: rest) a W := by
  refine wpList_plain hg fun K' hK' => ?_
  exact wp_mapset m x v ho h hk ht hn hc u hm hx hv (fun W' h1 h2 => hK' _ _ (hK W' h1 h2))
/-- delete(m, x) in a plain region. -/
theorem wpList_mapdel {ops : Array Oper} {rest : List Oper} {o : Oper} {a : Act} {Q : Exit → Act → World → Prop} (hg : o.guard = none) (m x : Operand) (ho : o.op = Op.call { callee := Callee.builtin Builtin.delete, args := #[m, x], argTypes := #[t, k] }) (h : MAt P k W b n f) (hk : P.underlying k = some (.int .i64)) (ht : P.underlying t = some (.map k e))
    {c : Int} (hc : i64 c) (hm : a.eval m = .map (some b)) (hx : a.eval x = .int .i64 c)
    (hK : ∀ W', MAt P k W' b n (upd f c none) → Fr (fun x => x = b) W W' → wpList P ops Q rest (a.put o.dst (.tuple #[])) W') : wpList P ops Q (o :: rest) a W := by
  refine wpList_plain hg fun K' hK' => ?_
  obtain ⟨W', hrun, r1, r2⟩ := h.del hk ht hc o.type
  unfold Oper.wp execOp
  simp only [ho, resolve, invoke, builtin, Sem.run_bind, Sem.run_pure, Result.andThen_ok, List.map_toArray, List.map_cons, List.map_nil, hm, hx, hrun]
  exact hK' _ _ (hK W' r1 r2)
end
end Go.Proofs.Ythpnlgdcijmocaa.Mp
