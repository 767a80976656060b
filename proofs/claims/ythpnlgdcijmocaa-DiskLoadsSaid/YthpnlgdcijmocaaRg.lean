/- Regions that draw their order and store at last: a condition S on the world holds until one of the operations js comes up; loads for which all of js wait are taken first under S; what yields in any world is taken first at any time. -/
import Derived.Test.YthpnlgdcijmocaaMem
import Derived.Deep.RegionHeld3
namespace Go.Proofs.Ythpnlgdcijmocaa.Rg
open Go Go.RowKit
section
variable {P : Program} {ops : Array Oper} {Q : Exit → Act → World → Prop} {md : Region.Mode} {S T : World → Prop} {js : List Nat}
/-- None of js has come up yet. -/
def fr (js : List Nat) (L : Array Bool) : Bool := js.all fun j => !L.getD j false
theorem fr_set {i : Nat} {L : Array Bool} (h : js.contains i = false) : fr js (L.setIfInBounds i true) = fr js L := by
  unfold fr
  rw [Bool.eq_iff_iff, List.all_eq_true, List.all_eq_true]
  have hn : ∀ j ∈ js, i ≠ j := fun j hj e => by
    subst e
    rw [List.contains_iff_mem.2 hj] at h
    cases h
  exact ⟨fun H j hj => by have := H j hj; rwa [getD_set_ne false (hn j hj)] at this, fun H j hj => by have := H j hj; rwa [getD_set_ne false (hn j hj)]⟩
/-- Any order; S behind each operation that is carried out while none of js is done. -/
def AnyS (P : Program) (md : Region.Mode) (ops : Array Oper) (Q : Exit → Act → World → Prop) (S : World → Prop) (js : List Nat) : Nat → Array Bool → Act → World → Prop
  | 0, L, a, w => Region.ready md ops L = [] ∧ Q .normal a w
  | n + 1, L, a, w => (Region.ready md ops L = [] → Q .normal a w) ∧ ∀ i ∈ Region.ready md ops L,
      wpOp P ops Q i (fun a' w' => (fr js (L.setIfInBounds i true) = true → S w') ∧ AnyS P md ops Q S js n (L.setIfInBounds i true) a' w') a w
theorem AnyS.any : ∀ (n : Nat) (L : Array Bool) (a : Act) (w : World), AnyS P md ops Q S js n L a w → wpAny P md ops Q n L a w
  | 0, _, _, _, h => h
  | n + 1, _, _, _, h => ⟨h.1, fun i hi => wpOp_mono (fun a' w' k => AnyS.any n _ a' w' k.2) (h.2 i hi)⟩
/-- One operation first, whose value is the same in every world of T. -/
theorem firstS {i : Nat} {oi : Oper} {v : Value} (C : Array Bool → Prop) (hi : ops[i]? = some oi) (hsel : ∀ (j : Nat) (o : Oper) cs b, ops[j]? = some o → o.op ≠ .select cs b)
    (hQ : ∀ c a w, Q (.panic c) (a.put oi.dst v) w → Q (.panic c) a w) (hij : js.contains i = false)
    (hC : ∀ L j, C L → L.getD i true = false → j ∈ Region.ready md ops L → j ≠ i → C (L.setIfInBounds j true) ∧ ∀ w, (fr js ((L.setIfInBounds i true).setIfInBounds j true) = true → S w) → T w) :
    ∀ (n : Nat) (L : Array Bool) (a : Act) (w : World), C L →
      (∀ j oj, ops[j]? = some oj → j ≠ i → L.getD j true = false → (∀ e ∈ oj.after, Region.binds md e = true → e.on ≠ i) → oi.apart ops oj = true) →
      i ∈ Region.ready md ops L → YieldsIf P ops T oi v a → T w → (fr js L = true → S w) →
      AnyS P md ops Q S js n (L.setIfInBounds i true) (a.put oi.dst v) w → AnyS P md ops Q S js (n + 1) L a w := by
  intro n
  induction n with
  | zero =>
    intro L a w _ _ hr hy hT hS H
    refine ⟨fun h => absurd hr (by rw [h]; exact List.not_mem_nil), fun j hj => ?_⟩
    by_cases hji : j = i
    · rw [hji]; exact hy.wpOp hi hT ⟨fun h => hS (by rwa [fr_set hij] at h), H⟩
    · have h0 := ready_mono hj hji
      rw [H.1] at h0
      exact absurd h0 List.not_mem_nil
  | succ n ih =>
    intro L a w hc hfree hr hy hT hS H
    refine ⟨fun h => absurd hr (by rw [h]; exact List.not_mem_nil), fun j hj => ?_⟩
    by_cases hji : j = i
    · rw [hji]; exact hy.wpOp hi hT ⟨fun h => hS (by rwa [fr_set hij] at h), H⟩
    · have hun : L.getD i true = false := (mem_ready.1 hr).1
      have hq := H.2 j (ready_mono hj hji)
      obtain ⟨hjun, oj, hoj, hall⟩ := mem_ready.1 hj
      have hno : ∀ e ∈ oj.after, Region.binds md e = true → e.on ≠ i := fun e he hb heq => by
        have h2 := hall e he hb
        rw [heq] at h2
        by_cases hlt : i < L.size
        · simp [hlt] at hun h2; rw [hun] at h2; cases h2
        · simp [Array.getElem?_eq_none (Nat.le_of_not_lt hlt)] at h2
      have hp := wpOp_putIf hoj (hfree j oj hoj hji hjun hno) (fun cs b => hsel i oi cs b hi) (fun cs b => hsel j oj cs b hoj) hQ hy hq
      have hst := hC L j hc hun hj hji
      refine wpOp_mono (fun a' w' k => ?_) hp
      obtain ⟨k1, k2, k3⟩ := k
      have hcomm := Array.setIfInBounds_comm (xs := L) true true (i := i) (j := j) (fun e => hji e.symm)
      have hfr : fr js ((L.setIfInBounds i true).setIfInBounds j true) = fr js (L.setIfInBounds j true) := by rw [hcomm]; exact fr_set hij
      refine ⟨fun h => k2 (by rw [hfr]; exact h), ih (L.setIfInBounds j true) a' w' hst.1 ?_ (ready_mono hr (Ne.symm hji)) k1 (hst.2 w' k2) (fun h => k2 (by rw [hfr]; exact h)) (by rw [← hcomm]; exact k3)⟩
      intro k ok hk hki hu hn
      by_cases hjk : j = k
      · subst hjk; exact hfree j ok hk hki hjun hn
      · exact hfree k ok hk hki (by rwa [getD_set_ne true hjk] at hu) hn
/-- All of js wait for i. -/
def waitAll (md : Region.Mode) (ops : Array Oper) (js : List Nat) (i : Nat) : Bool := js.all fun j => match ops[j]? with | none => true | some o => o.after.any fun e => Region.binds md e && e.on == i
/-- A load, while S holds. -/
theorem takeH {i : Nat} {oi : Oper} {v : Value} {n : Nat} {L : Array Bool} {a : Act} {w : World} (hi : ops[i]? = some oi)
    (hs : (Region.noSelect ops && Region.free md ops L i && (Region.ready md ops L).contains i && fr js L && waitAll md ops js i && !js.contains i) = true)
    (hQ : ∀ c a w, Q (.panic c) (a.put oi.dst v) w → Q (.panic c) a w) (hy : YieldsIf P ops S oi v a) (hS : S w)
    (h : AnyS P md ops Q S js n (L.setIfInBounds i true) (a.put oi.dst v) w) : AnyS P md ops Q S js (n + 1) L a w := by
  simp only [Bool.and_eq_true, Bool.not_eq_true'] at hs
  obtain ⟨⟨⟨⟨⟨h1, h2⟩, h3⟩, h4⟩, h5⟩, h6⟩ := hs
  refine firstS (T := S) (fun L => fr js L = true) hi (Region.noSelect_spec h1) hQ h6 ?_ n L a w h4 (Region.free_spec hi h2) (by simpa using h3) hy hS (fun _ => hS) h
  intro L j hc hun hj hji
  have hjn : js.contains j = false := by
    rw [Bool.eq_false_iff]
    intro hm
    have hw := List.all_eq_true.1 h5 j (List.contains_iff_mem.1 hm)
    obtain ⟨_, o, ho, hall⟩ := mem_ready.1 hj
    simp only [ho, Array.any_eq_true', Bool.and_eq_true, beq_iff_eq] at hw
    obtain ⟨e, he, hb, heq⟩ := hw
    have h7 := hall e he hb
    rw [heq] at h7
    by_cases hlt : i < L.size
    · simp [hlt] at hun h7; rw [hun] at h7; cases h7
    · simp [Array.getElem?_eq_none (Nat.le_of_not_lt hlt)] at h7
  refine ⟨by rw [fr_set hjn]; exact hc, fun w h => h ?_⟩
  rw [fr_set hjn, fr_set h6]; exact hc
/-- What yields in any world. -/
theorem takeF {i : Nat} {oi : Oper} {v : Value} {n : Nat} {L : Array Bool} {a : Act} {w : World} (hi : ops[i]? = some oi)
    (hs : (Region.noSelect ops && Region.free md ops L i && (Region.ready md ops L).contains i && !js.contains i) = true)
    (hQ : ∀ c a w, Q (.panic c) (a.put oi.dst v) w → Q (.panic c) a w) (hy : YieldsIf P ops (fun _ => True) oi v a) (hS : S w)
    (h : AnyS P md ops Q S js n (L.setIfInBounds i true) (a.put oi.dst v) w) : AnyS P md ops Q S js (n + 1) L a w := by
  simp only [Bool.and_eq_true, Bool.not_eq_true'] at hs
  obtain ⟨⟨⟨h1, h2⟩, h3⟩, h6⟩ := hs
  exact firstS (T := fun _ => True) (fun _ => True) hi (Region.noSelect_spec h1) hQ h6 (fun _ _ _ _ _ _ => ⟨trivial, fun _ _ => trivial⟩) n L a w trivial (Region.free_spec hi h2) (by simpa using h3) hy trivial (fun _ => hS) h
/-- The same, behind one of js. -/
theorem takeP {i : Nat} {oi : Oper} {v : Value} {n : Nat} {L : Array Bool} {a : Act} {w : World} (hi : ops[i]? = some oi)
    (hs : (Region.noSelect ops && Region.free md ops L i && (Region.ready md ops L).contains i && !fr js L && !js.contains i) = true)
    (hQ : ∀ c a w, Q (.panic c) (a.put oi.dst v) w → Q (.panic c) a w) (hy : YieldsIf P ops (fun _ => True) oi v a)
    (h : AnyS P md ops Q S js n (L.setIfInBounds i true) (a.put oi.dst v) w) : AnyS P md ops Q S js (n + 1) L a w := by
  simp only [Bool.and_eq_true, Bool.not_eq_true'] at hs
  obtain ⟨⟨⟨⟨h1, h2⟩, h3⟩, h4⟩, h6⟩ := hs
  exact firstS (T := fun _ => True) (fun _ => True) hi (Region.noSelect_spec h1) hQ h6 (fun _ _ _ _ _ _ => ⟨trivial, fun _ _ => trivial⟩) n L a w trivial (Region.free_spec hi h2) (by simpa using h3) hy trivial (fun h => by rw [h4] at h; cases h) h
/-- Each of rs comes up next. -/
def ReadyS (P : Program) (md : Region.Mode) (ops : Array Oper) (Q : Exit → Act → World → Prop) (S : World → Prop) (js : List Nat) (n : Nat) (L : Array Bool) (a : Act) (w : World) (rs : List Nat) : Prop :=
  ∀ i ∈ rs, wpOp P ops Q i (fun a' w' => (fr js (L.setIfInBounds i true) = true → S w') ∧ AnyS P md ops Q S js n (L.setIfInBounds i true) a' w') a w
theorem ReadyS.nil {n : Nat} {L : Array Bool} {a : Act} {w : World} : ReadyS P md ops Q S js n L a w [] := fun _ h => absurd h List.not_mem_nil
/-- While S is asked for. -/
theorem ReadyS.consH {n : Nat} {L : Array Bool} {a : Act} {w : World} {i : Nat} {o : Oper} {rs : List Nat} (ho : ops[i]? = some o)
    (h : ∀ K : Act → World → Prop, Shut (∀ a w, S w → (S w → AnyS P md ops Q S js n (L.setIfInBounds i true) a w) → K a w) → if Region.wanted o (yielded ops a.tmps) = true then Oper.wp P o a w K Q else K (a.put o.dst undef) w)
    (hs : ReadyS P md ops Q S js n L a w rs) : ReadyS P md ops Q S js n L a w (i :: rs) := fun j hj => by
  rcases List.mem_cons.1 hj with rfl | hj
  · exact wpOp_step ho (fun K hK => h K (fun a w hS hW => hK a w ⟨fun _ => hS, hW hS⟩))
  · exact hs j hj
/-- When it is asked for no more. -/
theorem ReadyS.consP {n : Nat} {L : Array Bool} {a : Act} {w : World} {i : Nat} {o : Oper} {rs : List Nat} (ho : ops[i]? = some o) (hf : fr js (L.setIfInBounds i true) = false)
    (h : ∀ K : Act → World → Prop, Shut (∀ a w, AnyS P md ops Q S js n (L.setIfInBounds i true) a w → K a w) → if Region.wanted o (yielded ops a.tmps) = true then Oper.wp P o a w K Q else K (a.put o.dst undef) w)
    (hs : ReadyS P md ops Q S js n L a w rs) : ReadyS P md ops Q S js n L a w (i :: rs) := fun j hj => by
  rcases List.mem_cons.1 hj with rfl | hj
  · exact wpOp_step ho (fun K hK => h K (fun a w hW => hK a w ⟨fun h => (by rw [hf] at h; cases h), hW⟩))
  · exact hs j hj
theorem readyS {rs : List Nat} {n : Nat} {L : Array Bool} {a : Act} {w : World} (hr : Region.ready md ops L = rs) (hne : rs ≠ []) (h : ReadyS P md ops Q S js n L a w rs) : AnyS P md ops Q S js (n + 1) L a w :=
  ⟨fun h0 => absurd (hr ▸ h0) hne, hr ▸ h⟩
theorem doneS {L : Array Bool} {a : Act} {w : World} (hr : Region.ready md ops L = []) (h : Q .normal a w) : ∀ n, AnyS P md ops Q S js n L a w
  | 0 => ⟨hr, h⟩
  | _ + 1 => ⟨fun _ => h, by rw [hr]; exact fun _ h => absurd h List.not_mem_nil⟩
/-- The beginning. -/
theorem beginS (js : List Nat) {id : Nat} {a : Act} {w : World} (hm : P.follows .mixedOrders = true) (hS : S w.drew)
    (h : S w.drew → AnyS P .any ops Q S js ops.size (Array.replicate ops.size false) a w.drew) : (Code.region id ops true).wp P Q a w :=
  wp_region_any hm (AnyS.any _ _ _ _ (h hS))
/-- append(v, ..) as an operation by itself. -/
theorem wp_app {o : Oper} {a : Act} {K : Act → World → Prop} {W : World} (s x : Operand) (t : TypeId) (ho : o.op = .call { callee := .builtin .append, args := #[s, x], argTypes := #[t, t] })
    (base : Nat) (e : TypeId) (z : Value) (size bytes : Nat) (ht : P.underlying t = some (.slice e)) (hinfo : (P.info? e).map (fun i => (i.zero, i.size, i.bytes)) = some (some z, size, bytes)) (hz : z.cells.size = size) (hsz : 0 < size) (hb0 : 0 < bytes)
    (v : Value) (n : Nat) (xs : List Value) (hs : a.eval s = v) (A : Option Addr) (m c : Nat) (news : List Value) (hx : a.eval x = .slice A m c) (HO : W.ownsRow base e size v n xs) (hl : news.length = m * size) (HR : Rd W A news) (h1 : ∀ u ∈ news, u.oneCell' = true)
    (hbytes : (n + m) * bytes ≤ 140737488355328) (hbase : base ≤ W.heap.size)
    (h : ∀ A1 c1 w1, w1.ownsRow base e size (.slice A1 (n + m) c1) (n + m) (xs ++ news) → W.grownBy w1 v.ownBlock → ((Value.slice A1 (n + m) c1).ownBlock = v.ownBlock ∨ (Value.slice A1 (n + m) c1).ownBlock = some W.heap.size) →
      K (a.put o.dst (.slice A1 (n + m) c1)) w1) : Oper.wp P o a W K Q := by
  obtain ⟨A1, c1, w1, hr, h2, h3, h5⟩ := run_app (P := P) W base t o.type e z size bytes ht hinfo hz hsz hb0 v n xs HO A m c news hl HR h1 hbytes hbase
  unfold Oper.wp execOp
  simp only [ho, resolve, invoke, builtin, Sem.run_bind, Sem.run_pure, Result.andThen_ok, List.map_toArray, List.map_cons, List.map_nil, hs, hx, hr]
  exact h A1 c1 w1 h2 h3 h5
end
end Go.Proofs.Ythpnlgdcijmocaa.Rg
