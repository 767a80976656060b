/- A disk in memory: its struct, sectors, what waits, the map of the odd ones. -/
import Derived.Test.YthpnlgdcijmocaaDk0
import Derived.Test.YthpnlgdcijmocaaMp
import Derived.Test.YthpnlgdcijmocaaIv
import Derived.Test.YthpnlgdcijmocaaSl
import Derived.Test.YthpnlgdcijmocaaRg
namespace Go.Proofs.Ythpnlgdcijmocaa.Dk
open Go.RowKit Rg Mp
set_option linter.unusedVariables false
set_option linter.unusedSimpArgs false
/-- Octets in a row of their own. -/
abbrev SOwn (W : World) (base : Nat) (v : Value) (b : Oc) : Prop := W.ownsRow base 5 1 v b.length (bv b)
def FOwn (W : World) (base : Nat) (v : Value) (l : List Int) : Prop := (l = [] ∧ ∃ A c, v = .slice A 0 c) ∨ W.ownsRow base 3 1 v l.length (iv l)
theorem FOwn.ird {W : World} {base : Nat} {v : Value} {l : List Int} (h : FOwn W base v l) : IRd W v l := by
  rcases h with ⟨rfl, A, c, rfl⟩ | h
  · exact ⟨A, c, rfl, Nat.zero_le _, Rd.nil _ _⟩
  · exact ird_own h
def wc (x : Nat × Value) : List Value := [.int .i64 (x.1 : Nat), x.2]
theorem wc_len (x : Nat × Value) : (wc x).length = 2 := rfl
def oddF (d : DkS) : Int → Option Value := fun a => if 0 ≤ a ∧ d.odd.getD a.toNat false = true then some (.bool true) else none
abbrev DB (W : World) (g : Nat) (vs vw : Value) (r : Nat) (off cut : Bool) (lf : Int) (vf : Value) (fl : Bool) (cl : Int) : Prop :=
  W.heap[g]? = some (.cells #[.bool true, vs, vw, .map (some r), .bool off, .bool cut, .int .i64 lf, vf, .bool fl, .int .i64 cl] 115 (0, 0))
/-- Sectors. -/
def SAt (W : World) (base : Nat) (vs : Value) (l : List Oc) : Prop :=
  ∃ sv : List Value, W.ownsRow base 78 1 vs sv.length sv ∧ sv.length = l.length ∧ ∀ i (h : i < sv.length) (h' : i < l.length), SOwn W base sv[i] l[i]
/-- What waits. -/
def WAt (W : World) (base : Nat) (vw : Value) (l : List Wt) : Prop :=
  ∃ wv : List (Nat × Value), W.ownsRow base 139 2 vw wv.length (wv.flatMap wc) ∧ wv.length = l.length ∧ ∀ i (h : i < wv.length) (h' : i < l.length), wv[i].1 = l[i].1 ∧ SOwn W base wv[i].2 l[i].2
/-- All but the struct itself. -/
structure DQ (W : World) (base N : Nat) (vs vw : Value) (r : Nat) (vf : Value) (sure : List Oc) (waits : List Wt) (F : Int → Option Value) (fates : List Int) : Prop where
  s : SAt W base vs sure
  w : WAt W base vw waits
  m : MAt Try.prog 3 W r N F
  rb : base ≤ r
  f : FOwn W base vf fates
abbrev DP (W : World) (base N : Nat) (vs vw : Value) (r : Nat) (vf : Value) (d : DkS) : Prop := DQ W base N vs vw r vf d.sure d.waits (oddF d) d.fates
structure DAt (L : Int → Prop) (W : World) (base N g : Nat) (vs vw : Value) (r : Nat) (d : DkS) : Prop where
  gb : base ≤ g
  ok : Ok d
  ex : ∃ vf lf cl, DB W g vs vw r d.off (decide (0 < d.cut)) lf vf (decide (0 ≤ d.fail)) cl ∧ DP W base N vs vw r vf d ∧ (L lf ∧ i64 lf) ∧ ((0 ≤ d.fail → cl = d.fail) ∧ i64 cl)
/-- The blocks that calls of a disk's turn. -/
def DO (g : Nat) (vs vw : Value) (r : Nat) : Nat → Prop := fun k => k = g ∨ vs.ownBlock = some k ∨ vw.ownBlock = some k ∨ k = r
/-- What a call leaves. -/
def DTo (L : Int → Prop) (base N g : Nat) (vs vw : Value) (r : Nat) (d : DkS) (W W' : World) : Prop :=
  ∃ vw', DAt L W' base N g vs vw' r d ∧ Fr (DO g vs vw r) W W' ∧ ∀ k, vw'.ownBlock = some k → vw.ownBlock = some k ∨ W.heap.size ≤ k
section
variable {L : Int → Prop} {W W' W'' : World} {base N N' g r : Nat} {vs vw vf : Value} {o c fl : Bool} {lf cl : Int} {d d' : DkS} {sure : List Oc} {waits : List Wt} {F : Int → Option Value} {fates : List Int}
theorem fr_set1 (W : World) (g j : Nat) (u : Value) : Fr (fun k => k = g) W (W.setCell ⟨g, j, none⟩ u) :=
  ⟨rfl, rfl, rfl, by simp, fun k _ hk => heap_setCell_other W ⟨g, j, none⟩ k u (fun e => hk (by simp [e]))⟩
theorem own_ty {e : TypeId} {size n : Nat} {v : Value} {xs : List Value} {S : Nat → Prop} (h : W.ownsRow base e size v n xs) (hf : Fr S W W') (hS : ∀ k, S k → ∀ cs, W.heap[k]? ≠ some (.cells cs e (0, 0))) : W'.ownsRow base e size v n xs :=
  own_fr h hf fun k hk hs => by
    obtain ⟨cs, hc⟩ := own_typed h k hk
    exact hS k hs cs hc
theorem SAt.up {l : List Oc} (h : SAt W base vs l) (hb : Below W.heap.size W W') : SAt W' base vs l := by
  obtain ⟨sv, h1, h2, h3⟩ := h
  exact ⟨sv, own_below h1 hb, h2, fun i a b => own_below (h3 i a b) hb⟩
theorem WAt.up {l : List Wt} (h : WAt W base vw l) (hb : Below W.heap.size W W') : WAt W' base vw l := by
  obtain ⟨wv, h1, h2, h3⟩ := h
  exact ⟨wv, own_below h1 hb, h2, fun i a b => ⟨(h3 i a b).1, own_below (h3 i a b).2 hb⟩⟩
theorem FOwn.up {v : Value} {l : List Int} (h : FOwn W base v l) (hb : Below W.heap.size W W') : FOwn W' base v l := by
  rcases h with h | h
  · exact .inl h
  · exact .inr (own_below h hb)
theorem DQ.up (h : DQ W base N vs vw r vf sure waits F fates) (hb : Below W.heap.size W W') : DQ W' base N vs vw r vf sure waits F fates := ⟨h.s.up hb, h.w.up hb, h.m.up hb, h.rb, h.f.up hb⟩
theorem DAt.up (h : DAt L W base N g vs vw r d) (hb : Below W.heap.size W W') : DAt L W' base N g vs vw r d := by
  obtain ⟨gb, ok, vf, lf, cl, h1, h2, h3, h4⟩ := h
  exact ⟨gb, ok, vf, lf, cl, block_up h1 hb, h2.up hb, h3, h4⟩
/-- Under what turns no rows of these types and not the map. -/
theorem SAt.fr {l : List Oc} {S : Nat → Prop} (h : SAt W base vs l) (hf : Fr S W W') (h1 : ∀ k, S k → ∀ cs, W.heap[k]? ≠ some (.cells cs 78 (0, 0))) (h2 : ∀ k, S k → ∀ cs, W.heap[k]? ≠ some (.cells cs 5 (0, 0))) : SAt W' base vs l := by
  obtain ⟨sv, a1, a2, a3⟩ := h
  exact ⟨sv, own_ty a1 hf h1, a2, fun i a b => own_ty (a3 i a b) hf h2⟩
theorem WAt.fr {l : List Wt} {S : Nat → Prop} (h : WAt W base vw l) (hf : Fr S W W') (h1 : ∀ k, S k → ∀ cs, W.heap[k]? ≠ some (.cells cs 139 (0, 0))) (h2 : ∀ k, S k → ∀ cs, W.heap[k]? ≠ some (.cells cs 5 (0, 0))) : WAt W' base vw l := by
  obtain ⟨wv, a1, a2, a3⟩ := h
  exact ⟨wv, own_ty a1 hf h1, a2, fun i a b => ⟨(a3 i a b).1, own_ty (a3 i a b).2 hf h2⟩⟩
theorem FOwn.fr {v : Value} {l : List Int} {S : Nat → Prop} (h : FOwn W base v l) (hf : Fr S W W') (h1 : ∀ k, S k → ∀ cs, W.heap[k]? ≠ some (.cells cs 3 (0, 0))) : FOwn W' base v l := by
  rcases h with h | h
  · exact .inl h
  · exact .inr (own_ty h hf h1)
theorem cells_ne {k : Nat} {c c' : Array Value} {t t' : TypeId} {f f' : Nat × Nat} (h : W.heap[k]? = some (.cells c t f)) (hn : t ≠ t') : W.heap[k]? ≠ some (.cells c' t' f') := fun e => by
  rw [h] at e
  injection e with e
  injection e with _ e2
  exact hn e2
theorem map_ne {k : Nat} {f : Int → Option Value} {n : Nat} {c' : Array Value} {t' : TypeId} {f' : Nat × Nat} (h : MAt Try.prog 3 W k n f) : W.heap[k]? ≠ some (.cells c' t' f') := fun e => by
  obtain ⟨es, c, hb⟩ := h.blk
  rw [hb] at e
  cases e
/-- The struct alone has turned. -/
theorem DQ.fr_g (h : DQ W base N vs vw r vf sure waits F fates) {cs : Array Value} (hg : W.heap[g]? = some (.cells cs 115 (0, 0))) (hf : Fr (fun k => k = g) W W') : DQ W' base N vs vw r vf sure waits F fates where
  s := h.s.fr hf (fun k e cs' => by subst e; exact cells_ne hg (by decide)) (fun k e cs' => by subst e; exact cells_ne hg (by decide))
  w := h.w.fr hf (fun k e cs' => by subst e; exact cells_ne hg (by decide)) (fun k e cs' => by subst e; exact cells_ne hg (by decide))
  m := h.m.fr hf (fun e => by
    obtain ⟨es, c, hb⟩ := h.m.blk
    rw [e, hg] at hb
    cases hb)
  rb := h.rb
  f := h.f.fr hf (fun k e cs' => by subst e; exact cells_ne hg (by decide))
/-- A sector is another one. -/
theorem DQ.set_s (h : DQ W base N vs vw r vf sure waits F fates) {gs n c i : Nat} (hv : vs = .slice (some ⟨gs, 0, none⟩) n c) (hi : i < sure.length) {v : Value} {b : Oc} (hb : SOwn W base v b) : DQ (W.setCell ⟨gs, i, none⟩ v) base N vs vw r vf (sure.set i b) waits F fates := by
  obtain ⟨sv, h1, h2, h3⟩ := id h.s
  have hn : sv.length = n := by
    obtain ⟨A, c', e, _⟩ := own_rd h1
    rw [hv] at e
    cases e
    rfl
  subst hv
  subst hn
  obtain ⟨cs, hcs⟩ := own_typed h1 gs rfl
  have hf := fr_set1 W gs i v
  have hu : ∀ k, k = gs → ∀ cs', W.heap[k]? ≠ some (.cells cs' 5 (0, 0)) := fun k e cs' => by subst e; exact cells_ne hcs (by decide)
  refine ⟨⟨sv.set i v, ?_, by simpa using h2, fun j a a' => ?_⟩, h.w.fr hf (fun k e cs' => by subst e; exact cells_ne hcs (by decide)) hu, h.m.fr hf (fun e => ?_), h.rb, h.f.fr hf (fun k e cs' => by subst e; exact cells_ne hcs (by decide))⟩
  · have := (h1.stored i v).1
    simpa using this
  · rw [List.getElem_set, List.getElem_set]
    by_cases e : i = j
    · rw [if_pos e, if_pos e]; exact own_ty hb hf hu
    · rw [if_neg e, if_neg e]; exact own_ty (h3 j (by simpa using a) (by simpa using a')) hf hu
  · obtain ⟨es, c, hb⟩ := h.m.blk
    rw [e, hcs] at hb
    cases hb
/-- The map alone has turned. -/
theorem DQ.fr_m (h : DQ W base N vs vw r vf sure waits F fates) (hf : Fr (fun k => k = r) W W') {N' : Nat} {F' : Int → Option Value} (hm : MAt Try.prog 3 W' r N' F') : DQ W' base N' vs vw r vf sure waits F' fates where
  s := h.s.fr hf (fun k e cs' => by subst e; exact map_ne h.m) (fun k e cs' => by subst e; exact map_ne h.m)
  w := h.w.fr hf (fun k e cs' => by subst e; exact map_ne h.m) (fun k e cs' => by subst e; exact map_ne h.m)
  m := hm
  rb := h.rb
  f := h.f.fr hf (fun k e cs' => by subst e; exact map_ne h.m)
theorem DQ.congr {F' : Int → Option Value} (h : DQ W base N vs vw r vf sure waits F fates) (hF : ∀ a, F a = F' a) : DQ W base N vs vw r vf sure waits F' fates := ⟨h.s, h.w, h.m.congr (fun a _ => hF a), h.rb, h.f⟩
theorem DB.off_s (hg : DB W g vs vw r o c lf vf fl cl) (h : SAt W base vs sure) : vs.ownBlock ≠ some g := by
  obtain ⟨sv, h1, h2, h3⟩ := h
  exact own_ne_block h1 hg (by decide)
theorem DB.off_w (hg : DB W g vs vw r o c lf vf fl cl) (h : WAt W base vw waits) : vw.ownBlock ≠ some g := by
  obtain ⟨wv, h1, h2, h3⟩ := h
  exact own_ne_block h1 hg (by decide)
theorem DB.off_m (hg : DB W g vs vw r o c lf vf fl cl) (h : MAt Try.prog 3 W r N F) : r ≠ g := fun e => by
  obtain ⟨es, c, hb⟩ := h.blk
  rw [e, hg] at hb
  cases hb
theorem db_cells (h : DB W g vs vw r o c lf vf fl cl) : (W.cell? ⟨g, 0, none⟩ = some (.bool true) ∧ W.cell? ⟨g, 1, none⟩ = some vs ∧ W.cell? ⟨g, 2, none⟩ = some vw ∧ W.cell? ⟨g, 3, none⟩ = some (.map (some r)) ∧ W.cell? ⟨g, 4, none⟩ = some (.bool o)) ∧ (W.cell? ⟨g, 5, none⟩ = some (.bool c) ∧ W.cell? ⟨g, 6, none⟩ = some (.int .i64 lf) ∧ W.cell? ⟨g, 7, none⟩ = some vf ∧ W.cell? ⟨g, 8, none⟩ = some (.bool fl) ∧ W.cell? ⟨g, 9, none⟩ = some (.int .i64 cl)) :=
  ⟨⟨cell_block h 0, cell_block h 1, cell_block h 2, cell_block h 3, cell_block h 4⟩, ⟨cell_block h 5, cell_block h 6, cell_block h 7, cell_block h 8, cell_block h 9⟩⟩
/-- The struct alone has turned. -/
def DSt (L : Int → Prop) (base N g : Nat) (vs vw : Value) (r : Nat) (d : DkS) (W W' : World) : Prop := DAt L W' base N g vs vw r d ∧ Fr (fun k => k = g) W W'
theorem DSt.to (h : DSt L base N g vs vw r d W W') : DTo L base N g vs vw r d W W' := ⟨vw, h.1, h.2.mono (fun k _ e => .inl e), fun k hk => .inl hk⟩
theorem DSt.refl (h : DAt L W base N g vs vw r d) (hb : Below W.heap.size W W') : DSt L base N g vs vw r d W W' := ⟨h.up hb, Fr.of_below hb⟩
theorem DSt.of_g {lf' cl' : Int} (gb : base ≤ g) (hg : DB W g vs vw r o c lf vf fl cl) (hp : DQ W base N vs vw r vf sure waits F fates) (hf : Fr (fun k => k = g) W W') (hg' : DB W' g vs vw r d'.off (decide (0 < d'.cut)) lf' vf (decide (0 ≤ d'.fail)) cl')
    (hs : sure = d'.sure) (hw : waits = d'.waits) (ho : ∀ a, F a = oddF d' a) (hfa : fates = d'.fates) (hok : Ok d') (h3 : L lf' ∧ i64 lf') (h4 : (0 ≤ d'.fail → cl' = d'.fail) ∧ i64 cl') : DSt L base N g vs vw r d' W W' := by
  subst hs hw hfa
  exact ⟨⟨gb, hok, vf, lf', cl', hg', (hp.fr_g hg hf).congr ho, h3, h4⟩, hf⟩
/-- The struct alone has turned: what a call leaves. -/
theorem DTo.of_g {lf' cl' : Int} (gb : base ≤ g) (hg : DB W g vs vw r o c lf vf fl cl) (hp : DQ W base N vs vw r vf sure waits F fates) (hf : Fr (fun k => k = g) W W') (hg' : DB W' g vs vw r d'.off (decide (0 < d'.cut)) lf' vf (decide (0 ≤ d'.fail)) cl')
    (hs : sure = d'.sure) (hw : waits = d'.waits) (ho : ∀ a, F a = oddF d' a) (hfa : fates = d'.fates) (hok : Ok d') (h3 : L lf' ∧ i64 lf') (h4 : (0 ≤ d'.fail → cl' = d'.fail) ∧ i64 cl') : DTo L base N g vs vw r d' W W' := by
  subst hs hw hfa
  exact ⟨vw, ⟨gb, hok, vf, lf', cl', hg', (hp.fr_g hg hf).congr ho, h3, h4⟩, hf.mono (fun k _ e => .inl e), fun k hk => .inl hk⟩
theorem DTo.refl (h : DAt L W base N g vs vw r d) (hb : Below W.heap.size W W') : DTo L base N g vs vw r d W W' := ⟨vw, h.up hb, Fr.of_below hb, fun k hk => .inl hk⟩
theorem DTo.up (h : DTo L base N g vs vw r d W W') (hb : Below W'.heap.size W' W'') : DTo L base N g vs vw r d W W'' := by
  obtain ⟨vw', h1, h2, h3⟩ := h
  exact ⟨vw', h1.up hb, h2.below hb, h3⟩
/-- Behind what made memory alone. -/
theorem DTo.pre (hb : Below W.heap.size W W') (h : DTo L base N g vs vw r d W' W'') : DTo L base N g vs vw r d W W'' := by
  obtain ⟨vw', h1, h2, h3⟩ := h
  refine ⟨vw', h1, (Fr.of_below (S := DO g vs vw r) hb).trans h2 (fun _ _ h => h), fun k hk => ?_⟩
  rcases h3 k hk with h | h
  · exact .inl h
  · exact .inr (Nat.le_trans hb.size h)
theorem DO_new {vw' : Value} {k : Nat} (hn : ∀ k, vw'.ownBlock = some k → vw.ownBlock = some k ∨ W.heap.size ≤ k) (hk : k < W.heap.size) (h : DO g vs vw' r k) : DO g vs vw r k := by
  rcases h with h | h | h | h
  · exact .inl h
  · exact .inr (.inl h)
  · rcases hn k h with h | h
    · exact .inr (.inr (.inl h))
    · omega
  · exact .inr (.inr (.inr h))
/-- One call behind another: from the first one's outcome. -/
theorem DTo.next {vw' : Value} (hf : Fr (DO g vs vw r) W W') (hn : ∀ k, vw'.ownBlock = some k → vw.ownBlock = some k ∨ W.heap.size ≤ k) (h : DTo L base N g vs vw' r d W' W'') : DTo L base N g vs vw r d W W'' := by
  obtain ⟨vw2, h1, h2, h3⟩ := h
  refine ⟨vw2, h1, hf.trans h2 (fun k hk hd => DO_new hn hk hd), fun k hk => ?_⟩
  rcases h3 k hk with h | h
  · exact hn k h
  · exact .inr (Nat.le_trans hf.size h)
theorem DAt.mono (h : DAt L W base N g vs vw r d) (hn : N ≤ N') : DAt L W base N' g vs vw r d := by
  obtain ⟨gb, ok, vf, lf, cl, h1, h2, h3, h4⟩ := h
  exact ⟨gb, ok, vf, lf, cl, h1, ⟨h2.s, h2.w, h2.m.mono hn, h2.rb, h2.f⟩, h3, h4⟩
theorem DTo.mono (h : DTo L base N g vs vw r d W W') (hn : N ≤ N') : DTo L base N' g vs vw r d W W' := by
  obtain ⟨vw', h1, h2, h3⟩ := h
  exact ⟨vw', h1.mono hn, h2, h3⟩
/-- A sector's place, and what lies there. -/
theorem SAt.at_ {l : List Oc} (h : SAt W base vs l) {i : Nat} (hi : i < l.length) : ∃ gs c v, vs = .slice (some ⟨gs, 0, none⟩) l.length c ∧ W.cell? ⟨gs, i, none⟩ = some v ∧ W.frozen? ⟨gs, i, none⟩ = false ∧ SOwn W base v l[i] := by
  obtain ⟨sv, h1, h2, h3⟩ := h
  obtain ⟨A, c, rfl, _, _, hr, ha⟩ := own_rd h1
  obtain ⟨ad, rfl, hc⟩ := hr.at_ (i := i) (by omega)
  obtain ⟨e1, e2, e3⟩ := ha _ rfl
  obtain ⟨gs, off, spot⟩ := ad
  simp only at e1 e2 e3
  subst e1 e2
  obtain ⟨cs, hcs⟩ := own_typed h1 gs e3
  rw [add_plain, Nat.zero_add] at hc
  exact ⟨gs, c, sv[i]'(by omega), by rw [h2], hc, free_block hcs i, h3 i (by omega) hi⟩
theorem WAt.at_ {l : List Wt} (h : WAt W base vw l) {i : Nat} (hi : i < l.length) : ∃ gw c v, vw = .slice (some ⟨gw, 0, none⟩) l.length c ∧ W.cell? ⟨gw, i * 2, none⟩ = some (.int .i64 (l[i].1 : Nat)) ∧ W.cell? ⟨gw, i * 2 + 1, none⟩ = some v ∧ SOwn W base v l[i].2 := by
  obtain ⟨wv, h1, h2, h3⟩ := h
  have hs := srd_own wc_len (by decide) h1
  obtain ⟨A, c, rfl, _, _, hr, ha⟩ := own_rd h1
  obtain ⟨gw, o, rfl, _, ci⟩ := SRd.get hs wc_len (by decide) (k := i) (by omega)
  obtain ⟨e1, _, _⟩ := ha _ rfl
  simp only at e1
  subst e1
  have hx := h3 i (by omega) hi
  refine ⟨gw, c, (wv[i]'(by omega)).2, by rw [h2], ?_, ?_, hx.2⟩
  · have := ci 0 (by decide)
    rw [← hx.1]
    simpa [wc] using this
  · have := ci 1 (by decide)
    simpa [wc] using this
theorem WAt.slice {l : List Wt} (h : WAt W base vw l) : ∃ A c, vw = .slice A l.length c ∧ l.length ≤ c := by
  obtain ⟨wv, h1, h2, h3⟩ := h
  obtain ⟨A, c, rfl, hc, _, hr, ha⟩ := own_rd h1
  exact ⟨A, c, by rw [h2], by omega⟩
theorem SAt.slice {l : List Oc} (h : SAt W base vs l) : ∃ A c, vs = .slice A l.length c ∧ l.length ≤ c := by
  obtain ⟨sv, h1, h2, h3⟩ := h
  obtain ⟨A, c, rfl, hc, _, hr, ha⟩ := own_rd h1
  exact ⟨A, c, by rw [h2], by omega⟩
theorem FOwn.slice {v : Value} {l : List Int} (h : FOwn W base v l) : ∃ A c, v = .slice A l.length c ∧ l.length ≤ c := by
  obtain ⟨A, c, e, h1, _⟩ := h.ird
  exact ⟨A, c, e, h1⟩
end
theorem oddF_put (d : DkS) (at_ : Nat) (b : Oc) (h : at_ < d.odd.length) : ∀ a, upd (oddF d) at_ (some (.bool true)) a = oddF (put d at_ b true) a := fun a => by
  unfold upd oddF put
  by_cases e : a = at_
  · subst e
    rw [if_pos rfl, if_pos]
    refine ⟨by omega, ?_⟩
    simp [List.getD_eq_getElem?_getD, h]
  · rw [if_neg e]
    by_cases h0 : 0 ≤ a
    · have hne : at_ ≠ a.toNat := by omega
      simp [List.getD_eq_getElem?_getD, List.getElem?_set_ne hne]
    · simp [h0]
theorem oddF_del (d : DkS) (at_ : Nat) (b : Oc) (h : at_ < d.odd.length) : ∀ a, upd (oddF d) at_ none a = oddF (put d at_ b false) a := fun a => by
  unfold upd oddF put
  by_cases e : a = at_
  · subst e
    rw [if_pos rfl, if_neg]
    rintro ⟨_, h2⟩
    simp [List.getD_eq_getElem?_getD, h] at h2
  · rw [if_neg e]
    by_cases h0 : 0 ≤ a
    · have hne : at_ ≠ a.toNat := by omega
      simp [List.getD_eq_getElem?_getD, List.getElem?_set_ne hne]
    · simp [h0]
end Go.Proofs.Ythpnlgdcijmocaa.Dk
