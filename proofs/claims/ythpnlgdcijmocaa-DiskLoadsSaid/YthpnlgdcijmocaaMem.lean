/- Memory: what is read (Rd), what may have turned (Fr), rows of one's own under Fr; append, make, conversions as equations on runs. -/
import Derived.Test.YthpnlgdcijmocaaBase
import Derived.Maps.AppendAt
import Derived.Lib.ConvBytes
import Derived.Laws.BytesArg
import Derived.Deep.Slices
import Derived.DataReads
namespace Go.Proofs.Ythpnlgdcijmocaa
open Go.RowKit
set_option linter.unusedVariables false
set_option linter.unusedSimpArgs false

theorem add_block (a : Addr) (i : Nat) : (a.add i).block = a.block := by unfold Addr.add; split <;> rfl
theorem add_plain (g o j : Nat) : (⟨g, o, none⟩ : Addr).add j = ⟨g, o + j, none⟩ := by unfold Addr.add; split <;> simp_all

/-- At that address these cells lie. -/
def Rd (w : World) (A : Option Addr) (xs : List Value) : Prop := ∀ i, i < xs.length → ∃ ad, A = some ad ∧ w.cell? (ad.add i) = xs[i]?
theorem Rd.nil (w : World) (A : Option Addr) : Rd w A [] := fun i h => absurd h (by simp)
theorem Rd.below {w w1 : World} {A : Option Addr} {xs : List Value} (h : Rd w A xs) (hb : Below w.heap.size w w1) : Rd w1 A xs := fun i hi => by
  obtain ⟨ad, e, hc⟩ := h i hi
  rw [List.getElem?_eq_getElem hi] at hc ⊢
  exact ⟨ad, e, cell_up hc hb⟩
theorem Rd.at_ {w : World} {A : Option Addr} {xs : List Value} (h : Rd w A xs) {i : Nat} (hi : i < xs.length) : ∃ ad, A = some ad ∧ w.cell? (ad.add i) = some xs[i] := by
  obtain ⟨ad, e, hc⟩ := h i hi
  exact ⟨ad, e, by rw [hc, List.getElem?_eq_getElem hi]⟩
theorem Rd.take {w : World} {A : Option Addr} {xs : List Value} (h : Rd w A xs) (k : Nat) : Rd w A (xs.take k) := fun i hi => by
  rw [List.length_take] at hi
  obtain ⟨ad, e, hc⟩ := h i (by omega)
  exact ⟨ad, e, by rw [hc, List.getElem?_take, if_pos (by omega)]⟩
theorem Rd.lt {w : World} {ad : Addr} {xs : List Value} (h : Rd w (some ad) xs) (h0 : 0 < xs.length) : ad.block < w.heap.size := by
  obtain ⟨ad', e, hc⟩ := h.at_ h0
  injection e with e
  subst e
  have := World.block_lt_of_cell? w _ hc
  rwa [add_block] at this

theorem rd_add {w : World} {A : Option Addr} {xs : List Value} (h : Rd w A xs) (n : Nat) : Rd w (A.map fun x => x.add n) (xs.drop n) := fun i hi => by
  rw [List.length_drop] at hi
  obtain ⟨ad, rfl, hc⟩ := h (n + i) (by omega)
  refine ⟨_, rfl, ?_⟩
  show w.cell? ((ad.add n).add i) = _
  rw [Deep.add_add, hc, List.getElem?_drop]
theorem Rd.brd {w : World} {A : Option Addr} {l : List UInt8} (c : Nat) (h : Rd w A (l.map fun c => Value.int .u8 c.toNat)) (hl : l ≠ []) : ∀ ad, A = some ad → ad.spot = none := fun ad e => by
  have h0 : 0 < (l.map fun c => Value.int .u8 c.toNat).length := by simpa using List.length_pos_iff.2 hl
  obtain ⟨ad', e', hc⟩ := h.at_ h0
  rw [e] at e'
  injection e' with e'
  subst e'
  have := World.cell?_spot hc
  simpa [Addr.add] using this
/-- Of w's blocks none but those of S has turned. -/
structure Fr (S : Nat → Prop) (w w' : World) : Prop where
  os : w'.os = w.os
  tape : w'.tape = w.tape
  output : w'.output = w.output
  size : w.heap.size ≤ w'.heap.size
  block : ∀ k, k < w.heap.size → ¬ S k → w'.heap[k]? = w.heap[k]?
section
variable {S T : Nat → Prop} {a w w' : World}
theorem Fr.refl (S : Nat → Prop) (w : World) : Fr S w w := ⟨rfl, rfl, rfl, Nat.le_refl _, fun _ _ _ => rfl⟩
theorem Fr.trans (h : Fr S a w) (k : Fr T w w') (hs : ∀ k, k < a.heap.size → T k → S k) : Fr S a w' :=
  ⟨k.os.trans h.os, k.tape.trans h.tape, k.output.trans h.output, Nat.le_trans h.size k.size, fun i hi hn => (k.block i (Nat.lt_of_lt_of_le hi h.size) (fun ht => hn (hs i hi ht))).trans (h.block i hi hn)⟩
theorem Fr.of_below (h : Below w.heap.size w w') : Fr S w w' := ⟨h.os, h.tape, h.output, h.size, fun k hk _ => h.block k hk⟩
theorem Fr.below (h : Fr S a w) (k : Below w.heap.size w w') : Fr S a w' := h.trans (Fr.of_below (S := fun _ => False) k) (fun _ _ h => h.elim)
theorem Fr.grown {row : Option Nat} (h : Fr S a w) (k : w.grownBy w' row) (hr : ∀ k, row = some k → k < a.heap.size → S k) : Fr S a w' :=
  ⟨k.os.trans h.os, k.tape.trans h.tape, k.output.trans h.output, Nat.le_trans h.size k.size, fun i hi hn => (k.block i (Nat.lt_of_lt_of_le hi h.size) (fun e => hn (hr i e.symm hi))).trans (h.block i hi hn)⟩
theorem Fr.alloc (h : Fr S a w) (o : Obj) : Fr S a (w.alloc o) := h.below ((Below.refl _ _).alloc (Nat.le_refl _) o)
theorem Fr.drew (h : Fr S a w) : Fr S a w.drew := ⟨h.os, h.tape, h.output, h.size, h.block⟩
theorem Fr.drewN (h : Fr S a w) (n : Nat) : Fr S a (w.drewN n) := ⟨h.os, h.tape, h.output, h.size, h.block⟩
theorem Fr.set (h : Fr S a w) {p : Addr} (hp : p.block < a.heap.size → S p.block) (u : Value) : Fr S a (w.setCell p u) :=
  ⟨h.os, h.tape, h.output, by simpa [World.setCell] using h.size, fun i hi hn => by
    rw [Below.heap_setCell _ _ _ _ (fun e => hn (by subst e; exact hp hi))]
    exact h.block i hi hn⟩
theorem Fr.toBelow {B : Nat} (h : Fr S w w') (hS : ∀ k, S k → B ≤ k) (hB : B ≤ w.heap.size) : Below B w w' :=
  ⟨h.os, h.tape, h.output, h.size, fun k hk => h.block k (Nat.lt_of_lt_of_le hk hB) (fun hs => by have := hS k hs; omega)⟩
theorem Fr.mono (h : Fr S w w') (hs : ∀ k, k < w.heap.size → S k → T k) : Fr T w w' := ⟨h.os, h.tape, h.output, h.size, fun k hk hn => h.block k hk (fun hq => hn (hs k hk hq))⟩
theorem below_drewN {w : World} (n : Nat) : Below w.heap.size w (w.drewN n) := ⟨rfl, rfl, rfl, Nat.le_refl _, fun _ _ => rfl⟩
theorem below_drew1 {w : World} : Below w.heap.size w w.drew := ⟨rfl, rfl, rfl, Nat.le_refl _, fun _ _ => rfl⟩
theorem cell_alloc {w : World} {p : Addr} {v : Value} (h : w.cell? p = some v) (o : Obj) : (w.alloc o).cell? p = some v := cell_up h ((Below.refl _ _).alloc (Nat.le_refl _) o)
theorem below_grown {w W w1 : World} {r : Option Nat} (h : Below w.heap.size w W) (hg : W.grownBy w1 r) (hr : ∀ k, r = some k → w.heap.size ≤ k) : Below w.heap.size w w1 :=
  ⟨hg.os.trans h.os, hg.tape.trans h.tape, hg.output.trans h.output, Nat.le_trans h.size hg.size,
   fun k hk => (hg.block k (Nat.lt_of_lt_of_le hk h.size) (fun e => by have := hr k e.symm; omega)).trans (h.block k hk)⟩
theorem below_alloc1 (w : World) (o : Obj) : Below w.heap.size w (w.alloc o) := (Below.refl _ _).alloc (Nat.le_refl _) o
theorem alloc_at {w : World} {n : Nat} (o : Obj) (h : n = w.heap.size) : (w.alloc o).heap[n]? = some o := by subst h; unfold World.alloc; simp
theorem alloc_old {w : World} {g : Nat} {o : Obj} (h : w.heap[g]? = some o) (x : Obj) : (w.alloc x).heap[g]? = some o := block_up h (below_alloc1 w x)
theorem blk_fr {g : Nat} {o : Obj} (hg : w.heap[g]? = some o) (h : Fr S w w') (hn : ¬ S g) : w'.heap[g]? = some o := (h.block g (Array.getElem?_eq_some_iff.1 hg).1 hn).trans hg
theorem cell_fr {p : Addr} {v : Value} (hg : w.cell? p = some v) (h : Fr S w w') (hn : ¬ S p.block) : w'.cell? p = some v := by
  rw [World.cell?_of_block (h.block p.block (World.block_lt_of_cell? w p hg) hn)]
  exact hg
theorem Rd.fr {A : Option Addr} {xs : List Value} (hr : Rd w A xs) (h : Fr S w w') (hn : ∀ ad, A = some ad → ¬ S ad.block) : Rd w' A xs := fun i hi => by
  obtain ⟨ad, e, hc⟩ := hr i hi
  rw [List.getElem?_eq_getElem hi] at hc ⊢
  exact ⟨ad, e, cell_fr hc h (by rw [add_block]; exact hn ad e)⟩
end

section
variable {w w' : World} {base : Nat} {e : TypeId} {size n : Nat} {v : Value} {xs : List Value}
theorem own_base (h : w.ownsRow base e size v n xs) (k : Nat) (hk : v.ownBlock = some k) : base ≤ k := (h.lt k hk).1
theorem own_lt (h : w.ownsRow base e size v n xs) (k : Nat) (hk : v.ownBlock = some k) : k < w.heap.size := (h.lt k hk).2
theorem own_move (h : w.ownsRow base e size v n xs) (hm : ∀ k, v.ownBlock = some k → w'.heap[k]? = w.heap[k]?) : w'.ownsRow base e size v n xs := by
  obtain ⟨h1, h2⟩ := h
  refine ⟨h1, ?_⟩
  rcases h2 with h2 | ⟨g, cap, cur, rfl, hg, hh, r⟩
  · exact .inl h2
  · exact .inr ⟨g, cap, cur, rfl, hg, (hm g (by simp [Value.ownBlock])).trans hh, r⟩
theorem own_fr {S : Nat → Prop} (h : w.ownsRow base e size v n xs) (hf : Fr S w w') (hn : ∀ k, v.ownBlock = some k → ¬ S k) : w'.ownsRow base e size v n xs :=
  own_move h fun k hk => hf.block k (own_lt h k hk) (hn k hk)
theorem own_below (h : w.ownsRow base e size v n xs) (hb : Below w.heap.size w w') : w'.ownsRow base e size v n xs := own_move h fun k hk => hb.block k (own_lt h k hk)
theorem own_lower {base' : Nat} (h : w.ownsRow base e size v n xs) (hb : base' ≤ base) : w.ownsRow base' e size v n xs := by
  obtain ⟨h1, h2⟩ := h
  refine ⟨h1, ?_⟩
  rcases h2 with h2 | ⟨g, cap, cur, rfl, hg, r⟩
  · exact .inl h2
  · exact .inr ⟨g, cap, cur, rfl, Nat.le_trans hb hg, r⟩
theorem own_typed (h : w.ownsRow base e size v n xs) (k : Nat) (hk : v.ownBlock = some k) : ∃ cells, w.heap[k]? = some (.cells cells e (0, 0)) := by
  rcases h.2 with ⟨rfl, _⟩ | ⟨g, cap, cur, rfl, hg, hh, r⟩
  · simp [Value.ownBlock] at hk
  · have : g = k := by simpa [Value.ownBlock] using hk
    subst this
    exact ⟨cur, hh⟩
theorem own_ne_block (h : w.ownsRow base e size v n xs) {g : Nat} {t : TypeId} {cs : Array Value} {fr : Nat × Nat} (hg : w.heap[g]? = some (.cells cs t fr)) (ht : e ≠ t) : v.ownBlock ≠ some g := fun hk => by
  obtain ⟨cells, hc⟩ := own_typed h g hk
  rw [hc] at hg
  injection hg with hg
  injection hg with _ h2
  exact ht h2
/-- What is owned is a slice, and reads. -/
theorem own_rd (h : w.ownsRow base e size v n xs) : ∃ A c, v = .slice A n c ∧ n ≤ c ∧ c ≤ maxLen ∧ Rd w A xs ∧ (∀ ad, A = some ad → ad.off = 0 ∧ ad.spot = none ∧ v.ownBlock = some ad.block) := by
  rcases h.2 with ⟨rfl, rfl⟩ | ⟨g, cap, cur, rfl, hb, hh, h1, h2, h3, h4⟩
  · have : xs = [] := List.eq_nil_of_length_eq_zero (by simpa using h.1)
    subst this
    exact ⟨none, 0, rfl, Nat.le_refl _, by simp [maxLen], Rd.nil _ _, fun _ h => by cases h⟩
  · refine ⟨_, cap, rfl, h1, h2, fun i hi => ⟨_, rfl, ?_⟩, ?_⟩
    · have := h.cells (g := g) rfl i xs[i] (List.getElem?_eq_getElem hi)
      rw [this, List.getElem?_eq_getElem hi]
    · rintro ad ⟨⟩
      exact ⟨rfl, rfl, rfl⟩
theorem own_len (h : w.ownsRow base e size v n xs) : xs.length = n * size := h.1
/-- A literal, a made row: a new block that is filled. -/
theorem own_new (w : World) (base : Nat) (e : TypeId) (size n : Nat) (cs : Array Value) (hb : base ≤ w.heap.size) (hn : n ≤ maxLen) (hs : cs.size = n * size) :
    (w.alloc (.cells cs e)).ownsRow base e size (.slice (some ⟨w.heap.size, 0, none⟩) n n) n cs.toList := World.ownsRow_lit w cs n hb hn hs
end
theorem own_zero (w : World) (e : TypeId) (size : Nat) : (w.alloc (.cells #[] e)).ownsRow w.heap.size e size (.slice (some ⟨w.heap.size, 0, none⟩) 0 0) 0 [] :=
  own_new w w.heap.size e size 0 #[] (Nat.le_refl _) (by simp [maxLen]) (by simp)
theorem rd_block {w : World} {g : Nat} {cs : Array Value} {t : TypeId} {f : Nat × Nat} (h : w.heap[g]? = some (.cells cs t f)) (o k : Nat) (hk : o + k ≤ cs.size) : Rd w (some ⟨g, o, none⟩) ((cs.toList.drop o).take k) := fun i hi => by
  refine ⟨_, rfl, ?_⟩
  rw [List.length_take, List.length_drop] at hi
  rw [add_plain, cell_block h, List.getElem?_take, if_pos (by omega), List.getElem?_drop]
  simp
theorem rd_new (w : World) (cs : Array Value) (t : TypeId) (xs : List Value) (h : cs.toList = xs) : Rd (w.alloc (.cells cs t)) (some ⟨w.heap.size, 0, none⟩) xs := by
  have h1 : (w.alloc (.cells cs t)).heap[w.heap.size]? = some (.cells cs t (0, 0)) := by unfold World.alloc; simp
  have := rd_block h1 0 cs.size (by omega)
  subst h
  simp only [List.drop_zero] at this
  rwa [show cs.toList.take cs.size = cs.toList from List.take_of_length_le (by simp)] at this

theorem blk_set {w : World} {g : Nat} {t : TypeId} {cs : Array Value} {f : Nat × Nat} (h : w.heap[g]? = some (.cells cs t f)) (i : Nat) (u : Value) : (w.setCell ⟨g, i, none⟩ u).heap[g]? = some (.cells (cs.setIfInBounds i u) t f) := by
  simp only [World.setCell, Array.getElem?_modify, h]
  simp
theorem blk_far {w : World} {g : Nat} {o : Obj} (h : w.heap[g]? = some o) {p : Addr} (hp : g ≠ p.block) (u : Value) : (w.setCell p u).heap[g]? = some o := by
  rw [Below.heap_setCell _ _ _ _ hp]; exact h
theorem own_set {w : World} {base : Nat} {e : TypeId} {size n : Nat} {v : Value} {xs : List Value} (h : w.ownsRow base e size v n xs) {p : Addr} (hne : v.ownBlock ≠ some p.block) (u : Value) : (w.setCell p u).ownsRow base e size v n xs :=
  own_move h fun k hk => Below.heap_setCell _ _ _ _ (fun e => hne (by rw [hk, e]))

/-! ### append: the run, whatever there was -/
section
variable {P : Program}
/-- append(v, ..) of m elements of which the cells are read (nil too). -/
theorem run_app (W : World) (base : Nat) (t ty e : TypeId) (z : Value) (size bytes : Nat) (ht : P.underlying t = some (.slice e)) (hinfo : (P.info? e).map (fun i => (i.zero, i.size, i.bytes)) = some (some z, size, bytes)) (hz : z.cells.size = size) (hsz : 0 < size) (hb0 : 0 < bytes)
    (v : Value) (n : Nat) (xs : List Value) (HO : W.ownsRow base e size v n xs) (A : Option Addr) (m c : Nat) (news : List Value) (hl : news.length = m * size) (HR : Rd W A news) (h1 : ∀ u ∈ news, u.oneCell' = true)
    (hbytes : (n + m) * bytes ≤ 140737488355328) (hbase : base ≤ W.heap.size) :
    ∃ A1 c1 w1, (Builtin.append_ #[t, t] ty #[v, .slice A m c]).run P W = .ok (.slice A1 (n + m) c1) w1 ∧ w1.ownsRow base e size (.slice A1 (n + m) c1) (n + m) (xs ++ news) ∧ W.grownBy w1 v.ownBlock ∧
      ((Value.slice A1 (n + m) c1).ownBlock = v.ownBlock ∨ (Value.slice A1 (n + m) c1).ownBlock = some W.heap.size) := by
  obtain ⟨i0, hi, hzz⟩ := Option.map_eq_some_iff.1 hinfo
  simp only [Prod.mk.injEq] at hzz
  obtain ⟨hz0, hz1, hz2⟩ := hzz
  have hlen : n + m ≤ 140737488355328 := Nat.le_trans (Nat.le_mul_of_pos_right _ hb0) hbytes
  rcases A with _ | ad
  · have hn0 : news = [] := by
      rcases Nat.eq_zero_or_pos news.length with h0 | h0
      · exact List.eq_nil_of_length_eq_zero h0
      · obtain ⟨ad, h, _⟩ := HR 0 h0
        cases h
    subst hn0
    have hm : m = 0 := by
      rcases Nat.eq_zero_or_pos m with h | h
      · exact h
      · have : 0 < m * size := Nat.mul_pos h hsz
        simp at hl; omega
    subst hm
    rcases HO.2 with ⟨rfl, rfl⟩ | ⟨g, cap, cur, rfl, hbg, hg, hnc, hcm, hcs, htake⟩
    · refine ⟨none, 0, W, ?_, by simpa using HO, ⟨rfl, rfl, rfl, Nat.le_refl _, fun _ _ _ => rfl⟩, .inl rfl⟩
      simp [Builtin.append_, run_underlying ht, sizeOf, typeInfo, hi, Builtin.lenOf, Builtin.firstCells]
    · refine ⟨some ⟨g, 0, none⟩, cap, W, ?_, by simpa using HO, ⟨rfl, rfl, rfl, Nat.le_refl _, fun _ _ _ => rfl⟩, .inl rfl⟩
      simp [Builtin.append_, run_underlying ht, sizeOf, typeInfo, hi, Builtin.lenOf, Builtin.firstCells, hnc, storeCells]
  · have hcells : ∀ j u, news[j]? = some u → W.cell? (ad.add j) = some u := by
      intro j u hu
      have hj := (List.getElem?_eq_some_iff.1 hu).1
      obtain ⟨ad', h', hc⟩ := HR j hj
      injection h' with h'
      subst h'
      rw [hc, hu]
    obtain ⟨v1, w1, hr, h2, h3, _, h5⟩ := run_append_own_at (P := P) W base t ty e i0 z size bytes ht hi hz0 hz1 hz2 hz hsz v n xs HO ad m c news hl hcells h1 (by simp only [maxLen]; omega) hbytes hbase
    obtain ⟨A1, c1, e1, _⟩ := own_rd h2
    subst e1
    exact ⟨A1, c1, w1, hr, h2, h3, h5⟩

/-- The same at the operation, for the walk: behind it 'intro A1 c1 w1 hown hgrow hat'. -/
theorem wpList_app {ops : Array Oper} {rest : List Oper} {o : Oper} {a : Act} {Q : Exit → Act → World → Prop} {W : World} (hgd : o.guard = none) (s x : Operand) (t : TypeId)
    (ho : o.op = .call { callee := .builtin .append, args := #[s, x], argTypes := #[t, t] })
    (base : Nat) (e : TypeId) (z : Value) (size bytes : Nat) (ht : P.underlying t = some (.slice e)) (hinfo : (P.info? e).map (fun i => (i.zero, i.size, i.bytes)) = some (some z, size, bytes)) (hz : z.cells.size = size) (hsz : 0 < size) (hb0 : 0 < bytes)
    (v : Value) (n : Nat) (xs : List Value) (hs : a.eval s = v) (A : Option Addr) (m c : Nat) (news : List Value) (hx : a.eval x = .slice A m c) (HO : W.ownsRow base e size v n xs) (hl : news.length = m * size) (HR : Rd W A news) (h1 : ∀ u ∈ news, u.oneCell' = true)
    (hbytes : (n + m) * bytes ≤ 140737488355328) (hbase : base ≤ W.heap.size)
    (h : ∀ A1 c1 w1, w1.ownsRow base e size (.slice A1 (n + m) c1) (n + m) (xs ++ news) → W.grownBy w1 v.ownBlock → ((Value.slice A1 (n + m) c1).ownBlock = v.ownBlock ∨ (Value.slice A1 (n + m) c1).ownBlock = some W.heap.size) →
      wpList P ops Q rest (a.put o.dst (.slice A1 (n + m) c1)) w1) : wpList P ops Q (o :: rest) a W := by
  refine wpList_plain hgd fun K hK => ?_
  obtain ⟨A1, c1, w1, hr, h2, h3, h5⟩ := run_app (P := P) W base t o.type e z size bytes ht hinfo hz hsz hb0 v n xs HO A m c news hl HR h1 hbytes hbase
  unfold Oper.wp execOp
  simp only [ho, resolve, invoke, builtin, Sem.run_bind, Sem.run_pure, Result.andThen_ok, List.map_toArray, List.map_cons, List.map_nil, hs, hx, hr]
  exact hK _ _ (h A1 c1 w1 h2 h3 h5)
end

/-! ### octets -/
def bv (l : List UInt8) : List Value := l.map fun c => .int .u8 c.toNat
theorem bv_length (l : List UInt8) : (bv l).length = l.length := by simp [bv]
theorem bv_append (a b : List UInt8) : bv (a ++ b) = bv a ++ bv b := by simp [bv]
theorem bv_one (l : List UInt8) : ∀ u ∈ bv l, u.oneCell' = true := by
  intro u hu
  simp only [bv, List.mem_map] at hu
  obtain ⟨c, _, rfl⟩ := hu
  rfl
theorem bv_take (l : List UInt8) (k : Nat) : (bv l).take k = bv (l.take k) := by simp [bv]
theorem bv_drop (l : List UInt8) (k : Nat) : (bv l).drop k = bv (l.drop k) := by simp [bv]
theorem bv_get (l : List UInt8) (i : Nat) : (bv l)[i]? = (l[i]?).map fun c => .int .u8 c.toNat := by simp [bv]
theorem bv_of (x : Nat) : bv [UInt8.ofNat (x % 256)] = [.int .u8 ((x : Int) % 256)] := by
  have : (UInt8.ofNat (x % 256)).toNat = x % 256 := by simp
  simp [bv, this]
/-- A slice value of octets that is read. -/
def BRd (w : World) (v : Value) (l : List UInt8) : Prop := ∃ A c, v = .slice A l.length c ∧ l.length ≤ c ∧ Rd w A (bv l) ∧ (∀ ad, A = some ad → l ≠ [] → ad.spot = none)
theorem BRd.below {w w1 : World} {v : Value} {l : List UInt8} (h : BRd w v l) (hb : Below w.heap.size w w1) : BRd w1 v l := by
  obtain ⟨A, c, e, h1, h2, h3⟩ := h
  exact ⟨A, c, e, h1, h2.below hb, h3⟩
theorem brd_nil (w : World) : BRd w (.slice none 0 0) [] := ⟨none, 0, rfl, Nat.le_refl _, Rd.nil _ _, fun _ h => by cases h⟩
theorem brd_own {w : World} {base n : Nat} {e : TypeId} {v : Value} {l : List UInt8} (h : w.ownsRow base e 1 v n (bv l)) : BRd w v l := by
  obtain ⟨A, c, e, h1, h2, h3, h4⟩ := own_rd h
  have hl : l.length = n := by have := h.1; rw [bv_length] at this; omega
  subst hl
  exact ⟨A, c, e, h1, h3, fun ad h _ => (h4 ad h).2.1⟩
/-- The string of octets that are read. -/
def bstr (l : List UInt8) : ByteArray := ⟨l.toArray⟩
theorem bstr_size (l : List UInt8) : (bstr l).size = l.length := by simp [bstr, ByteArray.size]
theorem bstr_inj {a b : List UInt8} (h : bstr a = bstr b) : a = b := by
  have h1 : a.toArray = b.toArray := by injection h
  simpa using h1
theorem strOfNums_bv (l : List UInt8) : strOfNums (l.map fun c => (c.toNat : Int)) = bstr l := by
  unfold bstr
  have h : (strOfNums (l.map fun c => (c.toNat : Int))).data = l.toArray := by
    apply Array.ext'
    rw [strOfNums_data]
    simp [List.map_map, Function.comp_def]
  exact ByteArray.ext h
theorem conv_rd {P : Program} {w : World} {v : Value} {l : List UInt8} (h : BRd w v l) (src e dst : TypeId) (hs : P.underlying src = some (.slice e)) (he : P.underlying e = some (.int .u8)) (hd : P.underlying dst = some .string) :
    (convert src dst v).run P w = .ok (.string (bstr l)) w := by
  obtain ⟨A, c, rfl, h1, h2, h3⟩ := h
  rcases A with _ | ad
  · have : l = [] := by
      rcases Nat.eq_zero_or_pos l.length with h0 | h0
      · exact List.eq_nil_of_length_eq_zero h0
      · obtain ⟨ad, h, _⟩ := h2 0 (by rw [bv_length]; exact h0)
        cases h
    subst this
    exact run_convert_bytes_nil w src e hs he _ _ dst hd
  · by_cases hl0 : l = []
    · subst hl0
      rw [run_convert_bytes_string w src dst e _ _ c hs he hd]
      have h0 := run_bytesToString (P := P) w ad 0 c [] (by simp [loadCells, loadCellsFrom])
      exact h0
    obtain ⟨g, o, sp⟩ := ad
    have hsp : sp = none := h3 _ rfl hl0
    subst hsp
    rw [← strOfNums_bv]
    refine run_convert_bytes_arg w src e hs he g o l.length c _ (by simp) (fun i hi => ?_) dst hd
    obtain ⟨ad, h, hc⟩ := h2.at_ (i := i) (by rw [bv_length]; exact hi)
    injection h with h
    subst h
    rw [add_plain] at hc
    rw [hc]
    simp [bv, List.getD, hi]
theorem below_bytes (w : World) (e : TypeId) (s : ByteArray) : Below w.heap.size w (Lib.bytesWorld w e s) :=
  ⟨rfl, rfl, rfl, by rw [Lib.bytesWorld_size]; omega, fun k hk => Lib.bytesWorld_at_old w e s k hk⟩
theorem brd_bytes (w : World) (e : TypeId) (s : ByteArray) : BRd (Lib.bytesWorld w e s) (.slice (some ⟨w.heap.size, 0, none⟩) s.size (grownCap w s.size 0 e)) s.data.toList := by
  have hl : s.data.toList.length = s.size := by rw [Array.length_toList]; rfl
  refine ⟨some ⟨w.heap.size, 0, none⟩, grownCap w s.size 0 e, by rw [hl], by rw [hl]; exact grownCap_ge _ _ _ _, fun i hi => ⟨_, rfl, ?_⟩, fun ad h _ => by cases h; rfl⟩
  have hi' : i < s.size := by rw [bv_length, hl] at hi; exact hi
  have hi2 : i < s.data.size := hi'
  rw [add_plain, Nat.zero_add, Lib.bytesWorld_cell w e s i hi', bv_get]
  have h3 : s.data.toList[i]? = some s.data[i] := by rw [Array.getElem?_toList, Array.getElem?_eq_getElem hi2]
  rw [h3, List.getD, h3]
  rfl

end Go.Proofs.Ythpnlgdcijmocaa
