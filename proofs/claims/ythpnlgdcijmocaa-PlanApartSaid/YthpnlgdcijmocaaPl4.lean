/- slices.Clone of ints and of entries; parts as data. -/
import Derived.Test.YthpnlgdcijmocaaPl3
import Derived.Test.YthpnlgdcijmocaaPl1
import Derived.Lib.LazyBuf
namespace Go.Proofs.Ythpnlgdcijmocaa.Pl
open Go.RowKit Rg
set_option linter.unusedVariables false
set_option linter.unusedSimpArgs false
theorem infoP_ent : (Try.prog.info? 39).map (fun i => (i.zero, i.size, i.bytes)) = some (some (.agg #[.int .i64 0, .int .i64 0]), 2, 16) := by kernel_rfl
theorem infoP_part : (Try.prog.info? 37).map (fun i => (i.zero, i.size, i.bytes)) = some (some (.agg #[.int .i64 0, .int .i64 0, .int .i64 0, .int .i64 0, .bool false, .slice none 0 0]), 6, 64) := by kernel_rfl
set_option maxHeartbeats 4000000 in
set_option maxRecDepth 100000 in
theorem eclone_ok (v : Value) (l : List EntS) (w : World) (h : ERd w v l) (hl : l.length ≤ 1000000) :
    Calls Try.prog 99 #[v] w fun e w' => ∃ v', e = .returned v' ∧ w'.ownsRow w.heap.size 39 2 v' l.length (l.flatMap EntS.cells) ∧ Below w.heap.size w w' := by
  have HV := Lib.hid h
  obtain ⟨A, c, rfl, hc, hr⟩ := h
  clear hr
  cases A with
  | none =>
    have hl0 : l = [] := by
      obtain ⟨A', c', e, _, h2⟩ := HV.out
      cases e
      cases l with
      | nil => rfl
      | cons a t =>
        obtain ⟨ad, e, _⟩ := h2 0 (by simp [EntS.cells])
        cases e
    subst hl0
    have qT : ∀ w : World, (binOp .eql 22 (.slice none 0 c) (.slice none 0 0)).run Try.prog w = .ok (.bool true) w := fun w => run_eql_slice_nil w _ _ _ _ _ Try.underlying22
    go_enter Try.func99, Try.ntmps99
    go_wp2
    go_ret
    exact ⟨_, rfl, ⟨rfl, .inl ⟨rfl, rfl⟩⟩, Below.refl _ _⟩
  | some a =>
    have qT : ∀ w : World, (binOp .eql 22 (.slice (some a) l.length c) (.slice none 0 0)).run Try.prog w = .ok (.bool false) w := fun w => run_eql_slice_nil w _ _ _ _ _ Try.underlying22
    have HA := Lib.hid (HV.out.below (below_alloc1 w (.cells #[] 39)))
    go_enter Try.func99, Try.ntmps99
    go_wp2_with (at_builtin; refine wpList_app rfl _ _ 22 rfl w.heap.size 39 (.agg #[.int .i64 0, .int .i64 0]) 2 16 Try.underlying22 infoP_ent rfl (by decide) (by decide) (.slice (some ⟨w.heap.size, 0, none⟩) 0 0) 0 [] rfl (some a) l.length c (l.flatMap EntS.cells) rfl (own_zero _ _ _) (by rw [flat_len EntS.cells_len]) ?_ (flat_one EntS.cells_one _) (by omega) (below_alloc1 _ _).size ?_)
    · obtain ⟨A', c', e, _, h2⟩ := HA.out
      cases e
      exact h2
    intro A1 c1 w1 hown hgrow _
    (try simp only [Nat.zero_add, List.nil_append] at hown)
    have hb := below_grown (below_alloc1 w (.cells #[] 39)) hgrow (fun k e => by cases e; exact Nat.le_refl _)
    have HO := Lib.hid (And.intro hown hb)
    clear hown hgrow hb
    go_wp2
    go_ret
    exact ⟨_, rfl, HO.out⟩
theorem ge_own {W : World} {base size n : Nat} {e : TypeId} {v : Value} {xs : List Value} (h : W.ownsRow base e size v n xs) : geB base v := fun a m c e => by
  obtain ⟨A, c', e2, _, _, _, h4⟩ := own_rd h
  rw [e] at e2
  cases e2
  exact own_base h _ (h4 _ rfl).2.2
set_option maxHeartbeats 4000000 in
set_option maxRecDepth 100000 in
theorem iclone_ok (v : Value) (l : List Int) (w : World) (h : IRd w v l) (hl : l.length ≤ 17592186044416) :
    Calls Try.prog 55 #[v] w fun e w' => ∃ v', e = .returned v' ∧ IRd w' v' l ∧ geB w.heap.size v' ∧ Below w.heap.size w w' := by
  have HV := Lib.hid h
  obtain ⟨A, c, rfl, hc, hr⟩ := h
  clear hr
  cases A with
  | none =>
    have hl0 : l = [] := by
      obtain ⟨A', c', e, _, h2⟩ := HV.out
      cases e
      cases l with
      | nil => rfl
      | cons a t =>
        obtain ⟨ad, e, _⟩ := h2 0 (by simp [iv])
        cases e
    subst hl0
    have qT : ∀ w : World, (binOp .eql 29 (.slice none 0 c) (.slice none 0 0)).run Try.prog w = .ok (.bool true) w := fun w => run_eql_slice_nil w _ _ _ _ _ Try.underlying29
    go_enter Try.func55, Try.ntmps55
    go_wp2
    go_ret
    exact ⟨_, rfl, ird_nil _, (fun a n c e => by cases e), Below.refl _ _⟩
  | some a =>
    have qT : ∀ w : World, (binOp .eql 29 (.slice (some a) l.length c) (.slice none 0 0)).run Try.prog w = .ok (.bool false) w := fun w => run_eql_slice_nil w _ _ _ _ _ Try.underlying29
    have HA := Lib.hid (HV.out.below (below_alloc1 w (.cells #[] 3)))
    go_enter Try.func55, Try.ntmps55
    go_wp2_with (at_builtin; refine wpList_app rfl _ _ 29 rfl w.heap.size 3 (.int .i64 0) 1 8 Try.underlying29 info_i64 rfl (by decide) (by decide) (.slice (some ⟨w.heap.size, 0, none⟩) 0 0) 0 [] rfl (some a) l.length c (iv l) rfl (own_zero _ _ _) (by rw [iv_length]; omega) ?_ (iv_one _) (by omega) (below_alloc1 _ _).size ?_)
    · obtain ⟨A', c', e, _, h2⟩ := HA.out
      cases e
      exact h2
    intro A1 c1 w1 hown hgrow _
    (try simp only [Nat.zero_add, List.nil_append] at hown)
    have hb := below_grown (below_alloc1 w (.cells #[] 3)) hgrow (fun k e => by cases e; exact Nat.le_refl _)
    have HO := Lib.hid (And.intro (ird_own hown) (And.intro (ge_own hown) hb))
    clear hown hgrow hb
    go_wp2
    go_ret
    exact ⟨_, rfl, HO.out⟩
/-- A part in memory. -/
structure PartS where
  p : PlcS
  last : Bool
  v : Value
  es : List EntS
namespace PartS
def cells (x : PartS) : List Value := [.int .i64 x.p.seg, .int .i64 x.p.off, .int .i64 x.p.next, .int .i64 x.p.next, .bool x.last, x.v]
def d (x : PartS) : PartD := ⟨x.p, x.last, x.es⟩
theorem cells_len (x : PartS) : x.cells.length = 6 := rfl
end PartS
theorem part_one {l : List PartS} (h : ∀ x ∈ l, x.v.oneCell' = true) : ∀ u ∈ l.flatMap PartS.cells, u.oneCell' = true := fun u hu => by
  obtain ⟨x, hx, hu⟩ := List.mem_flatMap.1 hu
  simp only [PartS.cells, List.mem_cons, List.not_mem_nil, or_false] at hu
  rcases hu with rfl | rfl | rfl | rfl | rfl | rfl
  · rfl
  · rfl
  · rfl
  · rfl
  · rfl
  · exact h x hx
theorem allL_nil (g : GeS) (k : Nat) (p : PlcS) (f : List Int) : allL g k p f [] = some ([], p, f) := by cases k <;> rfl
theorem onL_room {g : GeS} {p p1 : PlcS} {f f1 : List Int} (h : onL g p f = some (p1, f1)) (o1 : 0 ≤ p.off) (o4 : 4 ≤ g.siz) : 0 ≤ p1.off ∧ 2 ≤ g.siz - p1.off ∧ f1.length ≤ f.length := by
  unfold onL at h
  split at h
  · simp only [Option.some.injEq, Prod.mk.injEq] at h
    obtain ⟨rfl, rfl⟩ := h
    exact ⟨o1, by omega, Nat.le_refl _⟩
  · cases f with
    | nil => cases h
    | cons a t =>
      simp only [Option.some.injEq, Prod.mk.injEq] at h
      obtain ⟨rfl, rfl⟩ := h
      exact ⟨Int.le_refl _, by show 2 ≤ g.siz - 0; omega, by simp⟩
/-- What goes behind these parts. -/
def preL (ds : List PartD) : Option (List PartD × PlcS × List Int) → Option (List PartD × PlcS × List Int)
  | none => none
  | some (x, q, f) => some (ds ++ x, q, f)
theorem allL_on_none {g : GeS} {k : Nat} {p : PlcS} {f : List Int} {e : EntS} {t : List EntS} (h : onL g p f = none) : allL g (k + 1) p f (e :: t) = none := by
  unfold allL; rw [h]
theorem allL_step {g : GeS} {k : Nat} {p p1 : PlcS} {f f1 : List Int} {e : EntS} {t : List EntS} (h : onL g p f = some (p1, f1)) {n : Nat} {s : Int} (ht : takeL (g.siz - p1.off) 0 1 (e :: t) = (n, s)) (ds : List PartD) :
    preL ds (allL g (k + 1) p f (e :: t)) = preL (ds ++ [⟨p1, n == (e :: t).length, (e :: t).take n⟩]) (allL g k ⟨p1.seg, p1.off + s, p1.next⟩ f1 ((e :: t).drop n)) := by
  conv => lhs; unfold allL
  rw [h]
  simp only [ht]
  cases allL g k ⟨p1.seg, p1.off + s, p1.next⟩ f1 ((e :: t).drop n) with
  | none => rfl
  | some y =>
    obtain ⟨ps, q, f2⟩ := y
    simp [preL]
theorem preL_nil (R : Option (List PartD × PlcS × List Int)) : preL [] R = R := by
  cases R with
  | none => rfl
  | some y => obtain ⟨a, b, c⟩ := y; rfl
theorem erd_rest {W : World} {A : Option Addr} {n c : Nat} {l : List EntS} (h : ERd W (.slice A n c) l) (k : Nat) (hk : k ≤ l.length) (hk0 : 0 < l.length) : ∃ g o, A = some ⟨g, o, none⟩ ∧ ERd W (.slice (if c = k then some ⟨g, o, none⟩ else some ⟨g, o + k * 2, none⟩) (l.length - k) (c - k)) (l.drop k) := by
  obtain ⟨g, o, rfl, _⟩ := h.get EntS.cells_len (by decide) hk0
  obtain ⟨hn, hc⟩ := h.len
  refine ⟨g, o, rfl, ?_⟩
  by_cases h1 : c = k
  · rw [if_pos h1]
    have e : l.drop k = [] := List.drop_of_length_le (by omega)
    rw [e, show l.length - k = 0 by omega]
    exact ⟨_, _, rfl, Nat.zero_le _, Rd.nil _ _⟩
  · rw [if_neg h1]
    have := SRd.drop h EntS.cells_len hk (c - k) (by omega)
    simpa [add_plain] using this
end Go.Proofs.Ythpnlgdcijmocaa.Pl
