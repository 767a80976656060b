/- Groves in memory; the walk over (*Grove).Get. -/
import Derived.Test.YtjhhknkhgilecaaGv1
namespace Go.Proofs.Ytjhhknkhgilecaa.Gv
open Go.RowKit Lt Pt Rg Nd Mp
set_option linter.unusedVariables false
set_option linter.unusedSimpArgs false
/-- A grove at p, whose map is block b, has these nodes. -/
def GvAt (W : World) (p b n : Nat) (m : Int → Option NdS) : Prop :=
  W.heap[p]? = some (.cells #[.map (some b)] 190 (0, 0)) ∧ MAt Try.prog 3 W b n (fun a => (m a).map fun x => nv x) ∧ ∀ a x, m a = some x → PRd W x.v x.pts ∧ x.pts.length ≤ 1000
theorem cell_map {W : World} {b : Nat} {es : Array MapEntry} {c : Nat} (h : W.heap[b]? = some (.map es c)) {a : Addr} (ha : a.block = b) : W.cell? a = none := by
  obtain ⟨g, o, sp⟩ := a
  simp only at ha
  subst ha
  cases sp <;> simp [World.cell?, h]
theorem GvAt.up {W W' : World} {p b n : Nat} {m : Int → Option NdS} (h : GvAt W p b n m) (hb : Below W.heap.size W W') : GvAt W' p b n m :=
  ⟨block_up h.1 hb, h.2.1.up hb, fun a x hx => ⟨(h.2.2 a x hx).1.below hb, (h.2.2 a x hx).2⟩⟩
theorem prd_frm {W W' : World} {b : Nat} {v : Value} {l : List PtS} (h : PRd W v l) {es : Array MapEntry} {c : Nat} (hb : W.heap[b]? = some (.map es c)) (hf : Fr (fun x => x = b) W W') : PRd W' v l := by
  obtain ⟨A, cp, rfl, hc, hr⟩ := h
  refine ⟨A, cp, rfl, hc, fun i hi => ?_⟩
  obtain ⟨ad, e, h1⟩ := hr i hi
  refine ⟨ad, e, ?_⟩
  rw [List.getElem?_eq_getElem hi] at h1 ⊢
  exact cell_fr h1 hf (fun e2 => by
    have := cell_map hb e2
    rw [this] at h1
    cases h1)
/-- Another grove stays. -/
theorem GvAt.frm {W W' : World} {p b n b' : Nat} {m : Int → Option NdS} (h : GvAt W p b n m) (hne : b ≠ b') {es : Array MapEntry} {c : Nat} (hb : W.heap[b']? = some (.map es c)) (hf : Fr (fun x => x = b') W W') : GvAt W' p b n m :=
  ⟨blk_fr h.1 hf (fun e => by rw [e] at h; have := h.1.symm.trans hb; simp at this), h.2.1.fr hf hne, fun a x hx => ⟨prd_frm (h.2.2 a x hx).1 hb hf, (h.2.2 a x hx).2⟩⟩
theorem zero_nd (w : World) : (zeroValue 159).run Try.prog w = .ok (nv NdS.zero) w := by
  have h : (Try.prog.info? 159).bind (·.zero) = some (nv NdS.zero) := by kernel_rfl
  obtain ⟨i, hi, hz⟩ := Option.bind_eq_some_iff.1 h
  simp [zeroValue, typeInfo, hi, hz]
theorem keyI : Try.prog.underlying 3 = some (.int .i64) := Try.underlying3
theorem mapN : Try.prog.underlying 188 = some (.map 3 159) := Try.underlying188
/-- What a look says. -/
theorem GvAt.look {W : World} {p b n : Nat} {m : Int → Option NdS} (h : GvAt W p b n m) {id : Int} (hi : i64 id) :
    (Instr.lookup 188 (.map (some b)) (.int .i64 id) true).run Try.prog W = .ok (.tuple #[nv ((m id).getD NdS.zero), .bool (m id).isSome]) W := by
  have := h.2.1.look keyI mapN (zero_nd W) hi
  rw [this]
  cases m id <;> rfl
theorem GvAt.look1 {W : World} {p b n : Nat} {m : Int → Option NdS} (h : GvAt W p b n m) {id : Int} (hi : i64 id) :
    (Instr.lookup 188 (.map (some b)) (.int .i64 id) false).run Try.prog W = .ok (nv ((m id).getD NdS.zero)) W := by
  have := h.2.1.look1 keyI mapN (zero_nd W) hi
  rw [this]
  cases m id <;> rfl
theorem GvAt.prd {W : World} {p b n : Nat} {m : Int → Option NdS} (h : GvAt W p b n m) (id : Int) : PRd W ((m id).getD NdS.zero).v ((m id).getD NdS.zero).pts ∧ ((m id).getD NdS.zero).pts.length ≤ 1000 := by
  cases hm : m id with
  | none => exact ⟨srd_nil _ _ _, by decide⟩
  | some x => exact h.2.2 id x hm
theorem info_ndz : (Try.prog.info? 159).map (·.size) = some zc.size := info_nd
set_option maxHeartbeats 4000000 in
set_option maxRecDepth 100000 in
theorem get_ok {W : World} {p b n : Nat} {m : Int → Option NdS} (h : GvAt W p b n m) (id : Int) (hi : i64 id) :
    Calls Try.prog 118 #[.pointer (some ⟨p, 0, none⟩), .int .i64 id] W fun e w' => ∃ v', e = .returned (.tuple #[nv { ((m id).getD NdS.zero) with v := v' }, .bool (m id).isSome]) ∧ w'.ownsRow W.heap.size 41 4 v' ((m id).getD NdS.zero).pts.length (((m id).getD NdS.zero).pts.flatMap PtS.cells) ∧ Below W.heap.size W w' := by
  have hprd := h.prd id
  obtain ⟨x, hx⟩ : ∃ x, (m id).getD NdS.zero = x := ⟨_, rfl⟩
  obtain ⟨B, hB⟩ : ∃ y, (m id).isSome = y := ⟨_, rfl⟩
  have qz := alloc_at (w := W) (.cells zc 159) rfl
  have qb := below_alloc1 W (.cells zc 159)
  have hlk := (h.up qb).look hi
  have hp0 : (W.alloc (.cells zc 159)).cell? ⟨p, 0, none⟩ = some (.map (some b)) := by rw [cell_block (h.up qb).1]; rfl
  have his := is_ok (h.up qb).1
  have hw1 : (W.alloc (.cells zc 159)).heap.size = W.heap.size + 1 := by unfold World.alloc; simp
  have q2 := alloc_at (w := W.alloc (.cells zc 159)) (n := W.heap.size + 1) (.cells (ncells x) 159) hw1.symm
  have q2b := below_alloc1 (W.alloc (.cells zc 159)) (.cells (ncells x) 159)
  rw [hx, hB] at hlk ⊢
  rw [hx] at hprd
  have HZ := Lib.hid (block_up qz q2b)
  have HB := Lib.hid (below_up qb q2b)
  have HIs := Lib.hid his
  have HOwn := Lib.hid (gown_ok x _ (hprd.1.below (below_up qb q2b)) (by omega))
  have HSz := Lib.hid hw1
  have HPr := hprd.1
  clear qz qb his hw1 q2b h hx hB hprd
  have hn := nd_all q2
  have Hq2 := Lib.hid q2
  clear q2
  obtain ⟨lf, v, pts, next, ks, cs⟩ := x
  simp only at hlk HOwn hn Hq2 HZ HB HPr ⊢
  obtain ⟨A, c, rfl, _, _⟩ := HPr
  go_enter Try.func118, Try.ntmps118
  go_wp2_with fail
  (with_reducible refine HIs.out.mono ?_); rintro e w1 ⟨rfl, rfl⟩
  go_wp2_with fail
  (with_reducible refine HOwn.out.mono ?_); rintro e w2 ⟨v', rfl, ho, hb⟩
  obtain ⟨A', c', rfl, _⟩ := own_rd ho
  have hZ2 := Lib.hid (block_up HZ.out hb)
  have hO := Lib.hid ho
  have hB2 := Lib.hid (below_up HB.out hb)
  have hsz2 := Lib.hid (below_up HB.out (Below.refl _ _)).size
  have hone := Lib.hid (nd_one ⟨lf, .slice A' pts.length c', pts, next, ks, cs⟩ (row_one ho))
  have HI := Lib.hid (And.intro (info_ndn ⟨lf, .slice A' pts.length c', pts, next, ks, cs⟩) (hold_zc ⟨lf, .slice A' pts.length c', pts, next, ks, cs⟩))
  have hq1 := Lib.hid (Array.getElem?_eq_some_iff.1 Hq2.out).1
  clear ho hb hlk hp0 hn
  go_wp2_with (with_reducible refine wpList_store_rowF rfl 159 _ _ rfl W.heap.size (ncells ⟨lf, .slice A' pts.length c', pts, next, ks, cs⟩) rfl rfl 159 _ hZ2.out HI.out.1 HI.out.2 hone.out ?_; intro w4 hg4 hf4)
  refine bodyPost_ret (v := .tuple #[nv ⟨lf, .slice A' pts.length c', pts, next, ks, cs⟩, .bool B]) (results_cell_tmp (p := 4) (t := 5) rfl _ _ W.heap.size _ _ (0, 0) _ rfl hg4 Try.underlying159 rfl HI.out.1 _ rfl) rfl ⟨_, rfl, ?_, ?_⟩
  · refine own_lower (own_fr hO.out hf4 (fun k hk e => ?_)) HB.out.size
    have := own_base hO.out k hk
    have h3 := (below_alloc1 (W.alloc (.cells zc 159)) (.cells (ncells ⟨lf, .slice A pts.length c, pts, next, ks, cs⟩) 159)).size
    have h4 := HSz.out
    omega
  · exact ((Fr.of_below (S := fun k => W.heap.size ≤ k) hB2.out).trans hf4 (fun k hk e => by subst e; exact Nat.le_refl _)).toBelow (fun _ h => h) (Nat.le_refl _)
end Go.Proofs.Ytjhhknkhgilecaa.Gv
