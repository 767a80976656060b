/- Points in place: append where there is room, clear; the walks over slices.Delete, slices.DeleteFunc of points. -/
import Derived.Test.YtdomngpkahgoiaaPtEq
import Derived.Test.YtdomngpkahgoiaaPs1
import Derived.Laws.IdiomCopy
namespace Go.Proofs.Ytdomngpkahgoiaa.St
open Go.RowKit Rg Pt
set_option linter.unusedVariables false
set_option linter.unusedSimpArgs false
section
variable {P : Program} {W : World} {base g n cap size : Nat} {e : TypeId} {xs : List Value}
theorem fr_setRow (W : World) (g : Nat) (cs : Array Value) : Fr (fun k => k = g) W (W.setRow g cs) :=
  ⟨rfl, rfl, rfl, by simp, fun k _ hk => setRow_other W g k _ (fun e => hk (by simp [e]))⟩
theorem own_cells (h : W.ownsRow base e size (.slice (some ⟨g, 0, none⟩) n cap) n xs) : ∃ cur, base ≤ g ∧ W.heap[g]? = some (.cells cur e (0, 0)) ∧ n ≤ cap ∧ cap ≤ maxLen ∧ cur.size = cap * size ∧ cur.toList.take (n * size) = xs := by
  rcases h.2 with ⟨h1, _⟩ | ⟨g', cap', cur, h1, h2⟩
  · cases h1
  · cases h1; exact ⟨cur, h2⟩
theorem own_setRow {k : Nat} {cur cs : Array Value} (hg : W.heap[g]? = some (.cells cur e (0, 0))) (hb : base ≤ g) (hk : k ≤ cap) (hc : cap ≤ maxLen) (hs : cs.size = cap * size) (hx : cs.toList.take (k * size) = xs) :
    (W.setRow g cs).ownsRow base e size (.slice (some ⟨g, 0, none⟩) k cap) k xs := by
  refine ⟨?_, .inr ⟨g, cap, cs, rfl, hb, setRow_heap W g cur _ e _ hg, hk, hc, hs, hx⟩⟩
  rw [← hx, List.length_take, Array.length_toList, hs, Nat.min_eq_left (Nat.mul_le_mul_right _ hk)]
theorem own_prefix (h : W.ownsRow base e size (.slice (some ⟨g, 0, none⟩) n cap) n xs) {k : Nat} (hk : k ≤ n) : W.ownsRow base e size (.slice (some ⟨g, 0, none⟩) k cap) k (xs.take (k * size)) := by
  obtain ⟨cur, h1, h2, h3, h4, h5, h6⟩ := own_cells h
  refine ⟨?_, .inr ⟨g, cap, cur, rfl, h1, h2, by omega, h4, h5, ?_⟩⟩
  · rw [List.length_take, h.1, Nat.min_eq_left (Nat.mul_le_mul_right _ hk)]
  · rw [← h6, List.take_take, Nat.min_eq_left (Nat.mul_le_mul_right _ hk)]
/-- append where there is room. -/
theorem wp_room {Q : Exit → Act → World → Prop} {o : Oper} {a : Act} {K : Act → World → Prop} (s x : Operand) (t : TypeId) (ho : o.op = .call { callee := .builtin .append, args := #[s, x], argTypes := #[t, t] })
    (base : Nat) (e : TypeId) (z : Value) (size bytes : Nat) (ht : P.underlying t = some (.slice e)) (hinfo : (P.info? e).map (fun i => (i.zero, i.size, i.bytes)) = some (some z, size, bytes))
    (n cap : Nat) (xs : List Value) (hs : a.eval s = .slice (some ⟨g, 0, none⟩) n cap) (ad : Addr) (m c : Nat) (news : List Value) (hx : a.eval x = .slice (some ad) m c) (HO : W.ownsRow base e size (.slice (some ⟨g, 0, none⟩) n cap) n xs)
    (hl : news.length = m * size) (HR : Rd W (some ad) news) (h1 : ∀ u ∈ news, u.oneCell' = true) (hroom : n + m ≤ cap)
    (h : ∀ w1, w1.ownsRow base e size (.slice (some ⟨g, 0, none⟩) (n + m) cap) (n + m) (xs ++ news) → Fr (fun k => k = g) W w1 → K (a.put o.dst (.slice (some ⟨g, 0, none⟩) (n + m) cap)) w1) : Oper.wp P o a W K Q := by
  obtain ⟨i, hi, hz0, hz1, hz2⟩ := info_parts hinfo
  subst hz1
  obtain ⟨cur, k1, k2, k3, k4, k5, k6⟩ := own_cells HO
  have hfit : n * i.size + news.length ≤ cur.size := by rw [hl, k5, ← Nat.add_mul]; exact Nat.mul_le_mul_right _ hroom
  have hr := run_append_room (P := P) W t o.type e i ht hi g n cap cur k2 ad m c news hl (fun j u hj => by
    obtain ⟨ad', e1, hc⟩ := HR.at_ (List.getElem?_eq_some_iff.1 hj).1
    cases e1
    rw [hc]; exact (List.getElem?_eq_getElem _).symm.trans hj) h1 hroom hfit
  unfold Oper.wp execOp
  simp only [ho, resolve, invoke, builtin, Sem.run_bind, Sem.run_pure, Result.andThen_ok, List.map_toArray, List.map_cons, List.map_nil, hs, hx, hr]
  refine h _ (own_setRow k2 k1 hroom k4 ?_ ?_) (fr_setRow _ _ _)
  · simp only [List.size_toArray, List.length_append, List.length_take, List.length_drop, Array.length_toList]
    omega
  · rw [k6, show (n + m) * i.size = (xs ++ news).length by rw [List.length_append, HO.1, hl, Nat.add_mul]]
    exact List.take_left
theorem zeroCells_len (z : Array Value) (k : Nat) : (Builtin.zeroCells z k).toList.length = k * z.size := by
  rw [Array.length_toList, size_zeroCells]
theorem zeroCells_one {z : Array Value} (k : Nat) (h : ∀ u ∈ z.toList, u.oneCell' = true) : ∀ u ∈ (Builtin.zeroCells z k).toList, u.oneCell' = true := fun u hu => by
  unfold Builtin.zeroCells at hu
  rw [Array.toList_map, List.mem_map] at hu
  obtain ⟨i, hi, rfl⟩ := hu
  have hi2 : i < k * z.size := by simpa using hi
  have hp : 0 < z.size := by
    rcases Nat.eq_zero_or_pos z.size with h0 | h0
    · rw [h0] at hi2; simp at hi2
    · exact h0
  have hm : i % z.size < z.size := Nat.mod_lt _ hp
  rw [getElem!_pos z _ hm]
  exact h _ (by simp)
/-- clear of what lies behind the first k. -/
theorem run_clear_own (t : TypeId) (z : Value) (ht : P.underlying t = some (.slice e)) (hv : ∀ w, (zeroValue e).run P w = .ok z w) (hzs : z.cells.size = size) (hz0 : ∀ u ∈ z.cells.toList, u.oneCell' = true)
    (k : Nat) (c : Nat) (hk : k + n ≤ cap) (hn : 0 < n) (h : W.ownsRow base e size (.slice (some ⟨g, 0, none⟩) k cap) k xs) :
    ∃ w', (∀ ty, (Builtin.clear_ #[t] ty #[.slice (some ⟨g, k * size, none⟩) n c]).run P W = .ok (.tuple #[]) w') ∧ w'.ownsRow base e size (.slice (some ⟨g, 0, none⟩) k cap) k xs ∧ Fr (fun k => k = g) W w' := by
  obtain ⟨cur, k1, k2, k3, k4, k5, k6⟩ := own_cells h
  have hz1 := zeroCells_one n hz0
  obtain ⟨Z, hZ⟩ : ∃ Z, (Builtin.zeroCells z.cells n).toList = Z := ⟨_, rfl⟩
  have hZl : Z.length = n * size := by rw [← hZ, zeroCells_len, hzs]
  rw [hZ] at hz1
  have hfit : k * size + Z.length ≤ cur.size := by rw [hZl, k5, ← Nat.add_mul]; exact Nat.mul_le_mul_right _ hk
  have hst := run_storeCells_at P g (k * size) e Z 0 cur W k2 (by simpa using hfit) hz1
  simp only [Nat.add_zero] at hst
  obtain ⟨m, rfl⟩ : ∃ m, n = m + 1 := ⟨n - 1, by omega⟩
  refine ⟨_, fun ty => by simp [Builtin.clear_, run_underlying ht, hv, hZ, hst]; rfl, own_setRow k2 k1 k3 k4 ?_ ?_, fr_setRow _ _ _⟩
  · simp only [List.size_toArray, List.length_append, List.length_take, List.length_drop, Array.length_toList]
    omega
  · rw [← k6]
    have : k * size ≤ cur.toList.length := by rw [Array.length_toList]; omega
    show List.take (k * size) (cur.toList.take (k * size) ++ (Z ++ cur.toList.drop (k * size + Z.length))) = _
    rw [List.take_append_of_le_length (by rw [List.length_take]; omega), List.take_take, Nat.min_self]
end
theorem zero_pt (w : World) : (zeroValue 56).run Try.prog w = .ok (.agg #[.int .i64 0, .int .u32 0, .int .u32 0, .string ⟨#[]⟩]) w := by go_simp
theorem pflat_take : ∀ (l : List PtS) (k : Nat), (l.flatMap PtS.cells).take (k * 4) = (l.take k).flatMap PtS.cells
  | [], k => by simp
  | a :: l, 0 => by simp
  | a :: l, k + 1 => by
    rw [List.flatMap_cons, List.take_succ_cons, List.flatMap_cons, ← pflat_take l k, show (k + 1) * 4 = a.cells.length + k * 4 by rw [PtS.cells_len]; omega, List.take_length_add_append]
theorem flat_erase (l : List PtS) (i : Nat) (hi : i < l.length) : (l.take i).flatMap PtS.cells ++ (l.drop (i + 1)).flatMap PtS.cells = (l.eraseIdx i).flatMap PtS.cells := by
  rw [← List.flatMap_append, List.eraseIdx_eq_take_drop_succ]
set_option maxHeartbeats 4000000 in
set_option maxRecDepth 100000 in
theorem pdelete_ok {base g cap : Nat} (l : List PtS) (i : Nat) (hi : i < l.length) (hl : l.length ≤ 4398046511104) (W : World) (h : W.ownsRow base 56 4 (.slice (some ⟨g, 0, none⟩) l.length cap) l.length (l.flatMap PtS.cells)) :
    Calls Try.prog 61 #[.slice (some ⟨g, 0, none⟩) l.length cap, .int .i64 i, .int .i64 ((i + 1 : Nat) : Int)] W fun e w' =>
      e = .returned (.slice (some ⟨g, 0, none⟩) (l.length - 1) cap) ∧ w'.ownsRow base 56 4 (.slice (some ⟨g, 0, none⟩) (l.length - 1) cap) (l.length - 1) ((l.eraseIdx i).flatMap PtS.cells) ∧ Fr (fun k => k = g) W w' := by
  obtain ⟨cur, _, _, hcap, hcm, _⟩ := own_cells h
  unfold maxLen at hcm
  have hp := own_prefix h (k := i) (by omega)
  rw [show (l.flatMap PtS.cells).take (i * 4) = (l.take i).flatMap PtS.cells from pflat_take l i] at hp
  have hr := (prow_parts (srd_own PtS.cells_len (by decide) h) (k := i + 1) (by omega)).2
  have hfl := flat_erase l i hi
  have hdl : (l.drop (i + 1)).length = l.length - (i + 1) := by simp
  obtain ⟨N, hN⟩ : ∃ N, l.length = N := ⟨_, rfl⟩
  obtain ⟨J, hJ⟩ : ∃ J, i + 1 = J := ⟨_, rfl⟩
  obtain ⟨M, hM⟩ : ∃ M, N - 1 = M := ⟨_, rfl⟩
  rw [hN] at hi hl hcap hdl
  rw [hJ] at hr hfl hdl
  rw [hN, hJ, hM]
  have j1 : i + 1 ≤ J := by omega
  have j2 : J ≤ i + 1 := by omega
  have m1 : M + 1 ≤ N := by omega
  have m2 : N ≤ M + 1 := by omega
  have HP := Lib.hid hp
  have HR := Lib.hid hr
  have HE := Lib.hid (And.intro hfl hdl)
  clear hp hr hfl hdl h hN hJ hM
  have e1 : ((i : Int) == (J : Int)) = false := by rw [beq_eq_false_iff_ne]; omega
  have e2 : (i == J) = false := by rw [beq_eq_false_iff_ne]; omega
  have b1 : i ≤ cap := by omega
  have b2 : J ≤ cap := by omega
  have b3 : J ≤ N := by omega
  have b4 : i ≤ J := by omega
  go_enter Try.func61, Try.ntmps61
  go_upto_region 5 with (fail)
  refine beginS (S := fun W' => True) [] (by kernel_rfl) trivial (fun hHeld0 => ?_)
  have HPd := Lib.hid (own_below HP.out (below_drew1 (w := W)))
  have HRd := Lib.hid (HR.out.below (below_drew1 (w := W)))
  have HF := Lib.hid ((Fr.refl (fun k => k = g) W).drew)
  generalize (World.drew W) = W0 at *
  refine takeF (i := 0) (v := ?_) rfl (by kernel_rfl) (fun _ _ _ h => h) (Or.inl ⟨by kernel_rfl, ?_⟩) (by assumption) ?_; rotate_left; (focus (intro w _; go_simp; (try with_reducible rfl); done)); (try simp only [Act.put, List.getElem_toArray, List.getElem_cons_succ, List.getElem_cons_zero, List.setIfInBounds_toArray, List.set_cons_zero, List.set_cons_succ])
  refine takeF (i := 1) (v := ?_) rfl (by kernel_rfl) (fun _ _ _ h => h) (Or.inl ⟨by kernel_rfl, ?_⟩) (by assumption) ?_; rotate_left; (focus (intro w _; go_simp; (try with_reducible rfl); done)); (try simp only [Act.put, List.getElem_toArray, List.getElem_cons_succ, List.getElem_cons_zero, List.setIfInBounds_toArray, List.set_cons_zero, List.set_cons_succ])
  refine takeF (i := 2) (v := ?_) rfl (by kernel_rfl) (fun _ _ _ h => h) (Or.inl ⟨by kernel_rfl, ?_⟩) (by assumption) ?_; rotate_left; (focus (intro w _; go_simp; (try with_reducible rfl); done)); (try simp only [Act.put, List.getElem_toArray, List.getElem_cons_succ, List.getElem_cons_zero, List.setIfInBounds_toArray, List.set_cons_zero, List.set_cons_succ])
  refine takeF (i := 3) (v := ?_) rfl (by kernel_rfl) (fun _ _ _ h => h) (Or.inl ⟨by kernel_rfl, ?_⟩) (by assumption) ?_; rotate_left; (focus (intro w _; go_simp; (try with_reducible rfl); done)); (try simp only [Act.put, List.getElem_toArray, List.getElem_cons_succ, List.getElem_cons_zero, List.setIfInBounds_toArray, List.set_cons_zero, List.set_cons_succ])
  refine takeF (i := 4) (v := ?_) rfl (by kernel_rfl) (fun _ _ _ h => h) (Or.inl ⟨by kernel_rfl, ?_⟩) (by assumption) ?_; rotate_left; (focus (intro w _; go_simp; (try with_reducible rfl); done)); (try simp only [Act.put, List.getElem_toArray, List.getElem_cons_succ, List.getElem_cons_zero, List.setIfInBounds_toArray, List.set_cons_zero, List.set_cons_succ])
  refine takeF (i := 5) (v := ?_) rfl (by kernel_rfl) (fun _ _ _ h => h) (Or.inl ⟨by kernel_rfl, ?_⟩) (by assumption) ?_; rotate_left; (focus (intro w _; go_simp; (try with_reducible rfl); done)); (try simp only [Act.put, List.getElem_toArray, List.getElem_cons_succ, List.getElem_cons_zero, List.setIfInBounds_toArray, List.set_cons_zero, List.set_cons_succ])
  obtain ⟨ad, had, HA⟩ : ∃ ad, (if cap = J then some (⟨g, 0, none⟩ : Addr) else some ⟨g, J * 4, none⟩) = some ad ∧ Hid (Rd W0 (some ad) ((l.drop J).flatMap PtS.cells)) := by
    have h0 := HRd.out
    by_cases hc : cap = J
    · rw [if_pos hc] at h0 ⊢
      exact ⟨_, rfl, Lib.hid h0⟩
    · rw [if_neg hc] at h0 ⊢
      refine ⟨_, rfl, Lib.hid ?_⟩
      rw [Option.map_some, add_plain, Nat.zero_add] at h0
      exact h0
  rw [had]
  clear had HRd
  clear hHeld0
  refine readyS (rs := [6]) (by kernel_rfl) (by simp) ?_
  refine ReadyS.consH rfl (fun K hK => ?_) ReadyS.nil
  (try simp only [List.getElem_toArray, List.getElem_cons_succ, List.getElem_cons_zero])
  rw [if_pos (by kernel_rfl)]
  refine wp_room _ _ 49 (by rfl) base 56 (.agg #[.int .i64 0, .int .u32 0, .int .u32 0, .string ⟨#[]⟩]) 4 32 Try.underlying49 info_pt4 i cap ((l.take i).flatMap PtS.cells) (by rfl) ad (N - J) (cap - J) ((l.drop J).flatMap PtS.cells) (by rfl) HPd.out (by rw [flat_len PtS.cells_len, HE.out.2]) HA.out (flat_one PtS.cells_one _) (by omega) ?_
  intro w1 hown hfr
  rw [HE.out.1, show i + (N - J) = M by omega] at hown
  rw [show i + (N - J) = M by omega]
  have H1 := Lib.hid hown
  have HF1 := Lib.hid (HF.out.trans hfr (fun _ _ h => h))
  clear hown hfr HPd HA
  refine hK.out _ _ trivial (fun hHeld => ?_)
  clear hK K
  (try simp only [Act.put, List.getElem_toArray, List.getElem_cons_succ, List.getElem_cons_zero, List.setIfInBounds_toArray, List.set_cons_zero, List.set_cons_succ])
  refine takeF (i := 7) (v := ?_) rfl (by kernel_rfl) (fun _ _ _ h => h) (Or.inl ⟨by kernel_rfl, ?_⟩) (by assumption) ?_; rotate_left; (focus (intro w _; go_simp; (try with_reducible rfl); done)); (try simp only [Act.put, List.getElem_toArray, List.getElem_cons_succ, List.getElem_cons_zero, List.setIfInBounds_toArray, List.set_cons_zero, List.set_cons_succ])
  clear hHeld
  refine doneS (by kernel_rfl) ?_ _
  obtain ⟨w2, hr2, h2, hf2⟩ := run_clear_own (P := Try.prog) (W := w1) (size := 4) (n := N - M) 49 (.agg #[.int .i64 0, .int .u32 0, .int .u32 0, .string ⟨#[]⟩]) Try.underlying49 zero_pt rfl (by simp [Value.cells, Value.oneCell']) M (cap - M) (by omega) (by omega) H1.out
  have H2 := Lib.hid h2
  have HF2 := Lib.hid (HF1.out.trans hf2 (fun _ _ h => h))
  clear h2 hf2
  have hm2 : ¬ cap = M := by omega
  have b5 : M ≤ N := by omega
  go_wp2
  go_ret
  exact ⟨rfl, H2.out, HF2.out⟩
/-- A function that tells of a point. -/
def PredOk (F : Nat) (caps : Array Value) (CP : World → Prop) (p : PtS → Bool) : Prop := ∀ (x : PtS) (W : World), CP W → Calls Try.prog F (#[pv x] ++ caps) W fun e w' => e = .returned (.bool (p x)) ∧ Below W.heap.size W w'
set_option maxHeartbeats 4000000 in
set_option maxRecDepth 100000 in
theorem pidxg_ok {F : Nat} {caps : Array Value} {CP : World → Prop} {p : PtS → Bool} (hC : PredOk F caps CP p) (hK : ∀ W W', CP W → Below W.heap.size W W' → CP W') (hRun : RunsF F) {w : World} (hcp : CP w) (v : Value) (l : List PtS) (hv : PRow w v l) (hl : l.length ≤ 140737488355328) :
    Calls Try.prog 78 #[v, .func (.func F) #[] caps] w fun e w' => e = .returned (.int .i64 (fidx p l)) ∧ Below w.heap.size w w' := by
  have HV := Lib.hid hv
  have HC := Lib.hid (fun W' hb => hK w W' hcp hb)
  have HP := Lib.hid hC
  have hrun : ∀ (args : Array Value) (W : World), (callFunc F args).run Try.prog W = .ok (.enter F args) W := hRun
  clear hcp hC hK hRun
  obtain ⟨A, cap, rfl, _, _⟩ := hv
  go_enter Try.func78, Try.ntmps78
  go_wp2_with fail
  go_loopw [8] (fun vi W => ∃ k : Nat, k ≤ l.length ∧ vi = .int .i64 k ∧ (l.take k).any p = false ∧ Below w.heap.size w W) (fun vi _ => l.length - (intOf vi).toNat)
  case atStart => exact ⟨0, by omega, rfl, by simp, Below.refl _ _⟩
  obtain ⟨k, hk, rfl, hany, hbel⟩ := hrel
  have HO := Lib.hid (And.intro hany hbel); clear hany hbel
  by_cases hlt : k < l.length
  · have d : decide ((k : Int) < l.length) = true := decide_eq_true (by omega)
    have dn : decide (k < l.length) = true := decide_eq_true hlt
    have bk : (k : Int) < l.length := by omega
    obtain ⟨g, o, rfl, ⟨c0, c1, c2, c3⟩⟩ := p_at (HV.out.below HO.out.2) hlt
    have hs := any_take_succ p l k hlt
    rw [HO.out.1, Bool.false_or] at hs
    have hat := fidx_at p l k hlt HO.out.1
    generalize l[k] = x at *
    have HS := Lib.hid (And.intro hs hat); clear hs hat
    have HF := Lib.hid (HP.out x wr (HC.out _ HO.out.2))
    go_wp2_with fail
    refine HF.out.mono ?_; rintro e w1 ⟨rfl, hb⟩
    have H1 := Lib.hid (below_up HO.out.2 hb); clear hb HF
    obtain ⟨b, hb⟩ : ∃ b, p x = b := ⟨_, rfl⟩
    rw [hb]
    have HB := Lib.hid hb; clear hb
    cases b with
    | true =>
      go_wp2
      go_ret
      exact ⟨ret_int (HS.out.2 HB.out).symm, H1.out⟩
    | false =>
      go_wp2
      exact ⟨⟨k + 1, by omega, by simp, by rw [HS.out.1]; exact HB.out, H1.out⟩, by simp [intOf]; omega⟩
  · have hkl : k = l.length := by omega
    subst hkl
    have d : decide ((l.length : Int) < l.length) = false := decide_eq_false (by omega)
    have dn : decide (l.length < l.length) = false := decide_eq_false (by omega)
    go_wp2
    go_ret
    have := HO.out.1
    rw [List.take_length] at this
    exact ⟨ret_int (fidx_none _ _ this).symm, HO.out.2⟩
/-- DeleteFunc of nothing. -/
theorem pdelf_nil (vf : Value) (w : World) (hI : Calls Try.prog 78 #[.slice none 0 0, vf] w fun e w' => e = .returned (.int .i64 (-1)) ∧ Below w.heap.size w w') :
    Calls Try.prog 62 #[.slice none 0 0, vf] w fun e w' => e = .returned (.slice none 0 0) ∧ Below w.heap.size w w' := by
  have HI := Lib.hid hI
  clear hI
  go_enter Try.func62, Try.ntmps62
  go_wp2_with fail
  (with_reducible refine HI.out.mono ?_); rintro e w1 ⟨rfl, hb⟩
  have H1 := Lib.hid hb; clear hb
  go_wp2
  go_ret
  exact ⟨rfl, H1.out⟩
theorem filter_none {p : PtS → Bool} {l : List PtS} (h : l.any p = false) : l.filter (fun x => !p x) = l := by
  rw [List.filter_eq_self]
  intro x hx
  have := List.any_eq_false.1 h x hx
  simpa using this
theorem filter_snoc (p : PtS → Bool) (l : List PtS) (k : Nat) (h : k < l.length) : (l.take (k + 1)).filter (fun x => !p x) = (l.take k).filter (fun x => !p x) ++ if p l[k] then [] else [l[k]] := by
  rw [List.take_succ_eq_append_getElem h, List.filter_append]
  congr 1
  cases hp : p l[k] <;> simp [hp]
set_option maxHeartbeats 4000000 in
set_option maxRecDepth 100000 in
theorem pdelf_ok {base g cap : Nat} {F : Nat} {caps : Array Value} {CP : World → Prop} {p : PtS → Bool} (hC : PredOk F caps CP p) (hK : ∀ W W', CP W → Below W.heap.size W W' → CP W') (hKg : Kept CP g) (hRun : RunsF F) (W : World) (hcp : CP W) (l : List PtS) (hl : l.length ≤ 4398046511104)
    (h : W.ownsRow base 56 4 (.slice (some ⟨g, 0, none⟩) l.length cap) l.length (l.flatMap PtS.cells)) :
    Calls Try.prog 62 #[.slice (some ⟨g, 0, none⟩) l.length cap, .func (.func F) #[] caps] W fun e w' => e = .returned (.slice (some ⟨g, 0, none⟩) (l.filter (fun x => !p x)).length cap) ∧
      w'.ownsRow base 56 4 (.slice (some ⟨g, 0, none⟩) (l.filter (fun x => !p x)).length cap) (l.filter (fun x => !p x)).length ((l.filter (fun x => !p x)).flatMap PtS.cells) ∧ Fr (fun k => k = g) W w' := by
  have HI := Lib.hid (pidxg_ok hC hK hRun hcp _ l (srd_own PtS.cells_len (by decide) h) (by omega))
  have HH := Lib.hid h
  have HP := Lib.hid hC
  have HC := Lib.hid hcp
  have HK1 := Lib.hid hK
  have HK2 := Lib.hid hKg
  have hrun : ∀ (args : Array Value) (W : World), (callFunc F args).run Try.prog W = .ok (.enter F args) W := hRun
  obtain ⟨cur, _, _, hcap, hcm, _⟩ := own_cells h
  unfold maxLen at hcm
  clear h hC hcp hK hKg hRun
  have HB := Lib.hid (fidx_bnd p l)
  obtain ⟨R, hR⟩ : ∃ R, l.filter (fun x => !p x) = R := ⟨_, rfl⟩
  rw [hR]
  have HR := Lib.hid hR
  clear hR
  obtain ⟨z, hz⟩ : ∃ z, fidx p l = z := ⟨_, rfl⟩
  rw [hz] at HI
  have HZ := Lib.hid hz
  clear hz
  go_enter Try.func62, Try.ntmps62
  go_wp2_with fail
  (with_reducible refine HI.out.mono ?_); rintro e w1 ⟨rfl, hb⟩
  have H1 := Lib.hid hb
  clear hb HI
  by_cases hany : l.any p = true
  · obtain ⟨i0, hi0, hil, htk, hpi⟩ : ∃ i0 : Nat, z = i0 ∧ ∃ h : i0 < l.length, (l.take i0).any p = false ∧ p l[i0] = true := by
      have hlt : l.findIdx p < l.length := List.findIdx_lt_length.2 (by simpa using hany)
      refine ⟨l.findIdx p, by rw [← HZ.out]; unfold fidx; rw [if_pos hany], hlt, ?_, List.findIdx_getElem⟩
      rw [List.any_eq_false]
      intro x hx
      rw [List.mem_take_iff_getElem] at hx
      obtain ⟨j, hj, rfl⟩ := hx
      have hj' : j < l.findIdx p := by omega
      have := List.not_of_lt_findIdx (xs := l) (p := p) hj'
      simpa using this
    subst hi0
    have hA0 : l.take i0 = (l.take (i0 + 1)).filter (fun x => !p x) := by rw [filter_snoc p l i0 hil, hpi, filter_none htk]; simp
    have HA0 := Lib.hid hA0
    have ho1 := own_below HH.out H1.out
    have HO1 := Lib.hid ho1
    have HF1 := Lib.hid (Fr.of_below (S := fun k => k = g) H1.out)
    have HW1 := Lib.hid (HK1.out _ _ HC.out H1.out)
    clear hA0 ho1 hany hpi htk
    obtain ⟨N, hN⟩ : ∃ N, l.length = N := ⟨_, rfl⟩
    have HN := Lib.hid hN
    have n1 : l.length ≤ N := by omega
    have n2 : N ≤ l.length := by omega
    rw [hN] at hl hcap HO1
    rw [hN]
    clear hN
    have en : ((i0 : Int) == -1) = false := by rw [beq_eq_false_iff_ne]; omega
    go_wp2_with fail
    clear en
    go_loopw [5, 6] (fun vi vj W' => ∃ (i j : Nat) (Q : List PtS), vi = .int .i64 i ∧ vj = .int .i64 j ∧ i < j ∧ j ≤ N ∧ Q.length = N ∧ Q.take i = (l.take j).filter (fun x => !p x) ∧ Q.drop j = l.drop j ∧ W'.ownsRow base 56 4 (.slice (some ⟨g, 0, none⟩) N cap) N (Q.flatMap PtS.cells) ∧ Fr (fun k => k = g) W W') (fun _ vj _ => N - (intOf vj).toNat)
    case atStart => exact ⟨i0, i0 + 1, l, rfl, by go_num, by omega, by omega, by omega, HA0.out, rfl, HO1.out, HF1.out⟩
    case round =>
    obtain ⟨i, j, Q, rfl, rfl, hij, hj, hQl, hQt, hQd, hQo, hQf⟩ := hrel
    have HQl := Lib.hid hQl
    have q1 : Q.length ≤ N := by omega
    have q2 : N ≤ Q.length := by omega
    have HQ := Lib.hid (And.intro hQt hQd)
    have HQo := Lib.hid hQo
    have HQf := Lib.hid hQf
    clear hQl hQt hQd hQo hQf HO1 HF1 HA0
    by_cases hlt : j < N
    · have d : decide (j < N) = true := decide_eq_true hlt
      have di : decide ((j : Int) < N) = true := decide_eq_true (by omega)
      have bj : (j : Int) < N := by omega
      have bi : (i : Int) < N := by omega
      have hqj : Q[j]'(by omega) = l[j]'(by omega) := by
        have h1 : (Q.drop j)[0]? = (l.drop j)[0]? := by rw [HQ.out.2]
        rw [List.getElem?_drop, List.getElem?_drop, Nat.add_zero, List.getElem?_eq_getElem (by omega), List.getElem?_eq_getElem (by omega)] at h1
        exact Option.some.inj h1
      obtain ⟨⟨c0, c1, c2, c3⟩, fz⟩ := own_at4 HQo.out j (by omega)
      rw [hqj] at c0 c1 c2 c3
      have hfs := filter_snoc p l j (by omega)
      have hdr : ∀ u : PtS, (Q.set i u).drop (j + 1) = l.drop (j + 1) := fun u => by
        rw [List.drop_set_of_lt (by omega), show j + 1 = 1 + j by omega, Nat.add_comm 1 j, ← List.drop_drop, ← List.drop_drop, HQ.out.2]
      generalize l[j]'(by omega) = x at *
      have HFS := Lib.hid (And.intro hfs hdr)
      clear hfs hqj hdr
      have HF := Lib.hid (fun W' hb => HP.out x W' (HK1.out _ _ (HK2.out _ _ HC.out HQf.out) hb))
      go_wp2_with fail
      (refine (HF.out _ (below_alloc1 _ _)).mono ?_); rintro e w2 ⟨rfl, hb⟩
      have q := block_up (alloc_at (w := wr) (.cells #[.int .i64 x.id, .int .u32 (x.x : Nat), .int .u32 (x.y : Nat), .string x.d] 56) rfl) hb
      have q0 := cell_block q 0; have q1 := cell_block q 1; have q2 := cell_block q 2; have q3 := cell_block q 3
      simp only [List.getElem?_toArray, List.getElem?_cons_zero, List.getElem?_cons_succ] at q0 q1 q2 q3
      have hb2 := below_up (below_alloc1 wr (.cells #[.int .i64 x.id, .int .u32 (x.x : Nat), .int .u32 (x.y : Nat), .string x.d] 56)) hb
      have HO2 := Lib.hid (own_below HQo.out hb2)
      have HF2 := Lib.hid (HQf.out.below hb2)
      obtain ⟨_, fz2⟩ := own_at4 HO2.out j (by omega)
      clear c0 c1 c2 c3 fz hb hb2 q HF
      obtain ⟨b, hb⟩ : ∃ b, p x = b := ⟨_, rfl⟩
      rw [hb]
      have HB := Lib.hid hb; clear hb
      cases b with
      | true =>
        go_wp2
        exact ⟨⟨i, j + 1, Q, rfl, by go_num, by omega, by omega, HQl.out, by rw [HFS.out.1, HB.out, HQ.out.1]; simp, by
          rw [show j + 1 = 1 + j by omega, Nat.add_comm 1 j, ← List.drop_drop, ← List.drop_drop, HQ.out.2], HO2.out, HF2.out⟩, by simp [intOf]; omega⟩
      | false =>
        obtain ⟨⟨d0, d1, d2, d3⟩, _⟩ := own_at4 HO2.out i (by omega)
        go_wp2
        exact ⟨⟨i + 1, j + 1, Q.set i x, by go_num, by go_num, by omega, by omega, by rw [List.length_set]; exact HQl.out, by
          rw [HFS.out.1, HB.out, if_neg (by decide), List.take_succ_eq_append_getElem (by rw [List.length_set]; omega), List.take_set_of_le (Nat.le_refl _), HQ.out.1, List.getElem_set_self], HFS.out.2 x, own_set4 HO2.out i (by omega) x, HF2.out.trans (fr_set4 w2 g i x) (fun _ _ h => h)⟩, by simp [intOf]; omega⟩
    · obtain rfl : j = N := by omega
      have d : decide (j < j) = false := decide_eq_false (by omega)
      have di : decide ((j : Int) < j) = false := decide_eq_false (by omega)
      have hp := own_prefix HQo.out (k := i) (by omega)
      rw [pflat_take, HQ.out.1, List.take_of_length_le (by omega), HR.out] at hp
      have hRi : i = R.length := by
        have h1 := HQ.out.1
        rw [List.take_of_length_le (by omega : l.length ≤ j), HR.out] at h1
        rw [← h1, List.length_take]; omega
      subst hRi
      obtain ⟨w2, hr2, h2, hf2⟩ := run_clear_own (P := Try.prog) (W := wr) (size := 4) (n := j - R.length) 49 (.agg #[.int .i64 0, .int .u32 0, .int .u32 0, .string ⟨#[]⟩]) Try.underlying49 zero_pt rfl (by simp [Value.cells, Value.oneCell']) R.length (cap - R.length) (by omega) (by omega) hp
      have H2 := Lib.hid h2
      have HF2 := Lib.hid (HQf.out.trans hf2 (fun _ _ h => h))
      have hm2 : ¬ cap = R.length := by omega
      have b5 : R.length ≤ j := by omega
      have b6 : R.length ≤ cap := by omega
      clear h2 hf2 hp
      go_wp2
      go_ret
      exact ⟨rfl, H2.out, HF2.out⟩
  · have hn : l.any p = false := by simpa using hany
    have hz1 := fidx_none p l hn
    rw [HZ.out] at hz1
    subst hz1
    have hRl : R = l := by rw [← HR.out]; exact filter_none hn
    subst hRl
    go_wp2
    go_ret
    exact ⟨rfl, own_below HH.out H1.out, Fr.of_below H1.out⟩
end Go.Proofs.Ytdomngpkahgoiaa.St
