/- The walks over slices.Grow (of the nil slice), slices.Concat, slices.Clone of octets; slices.Clone of ints. -/
import Derived.Test.YthpnlgdcijmocaaDk1
import Derived.Lib.LazyBuf
import Derived.Lib.AppendZerosOnto
namespace Go.Proofs.Ythpnlgdcijmocaa.Dk
open Go.RowKit Rg Mp
set_option linter.unusedVariables false
set_option linter.unusedSimpArgs false
theorem info_u8 : (Try.prog.info? 5).map (fun i => (i.zero, i.size, i.bytes)) = some (some (.int .u8 0), 1, 1) := by kernel_rfl
section
variable {P : Program}
/-- append of whatever two arguments, by its equation. -/
theorem wpList_append_run {ops : Array Oper} {rest : List Oper} {o : Oper} {a : Act} {Q : Exit → Act → World → Prop} {W w1 : World} (hgd : o.guard = none) (s x : Operand) (t u : TypeId)
    (ho : o.op = .call { callee := .builtin .append, args := #[s, x], argTypes := #[t, u] }) (v1 v2 v : Value) (hs : a.eval s = v1) (hx : a.eval x = v2)
    (hr : (Builtin.append_ #[t, u] o.type #[v1, v2]).run P W = .ok v w1) (h : wpList P ops Q rest (a.put o.dst v) w1) : wpList P ops Q (o :: rest) a W := by
  refine wpList_plain hgd fun K hK => ?_
  unfold Oper.wp execOp
  simp only [ho, resolve, invoke, builtin, Sem.run_bind, Sem.run_pure, Result.andThen_ok, List.map_toArray, List.map_cons, List.map_nil, hs, hx, hr]
  exact hK _ _ h
end
set_option maxHeartbeats 2000000 in
set_option maxRecDepth 100000 in
theorem grow_nil (n : Nat) (w : World) (hn : n ≤ 140737488355328) :
    Calls Try.prog 116 #[.slice none 0 0, .int .i64 n] w fun e w' => ∃ v, e = .returned v ∧ Below w.heap.size w w' ∧ w'.ownsRow w.heap.size 5 1 v 0 [] := by
  obtain ⟨iu, hi1, hi2, hi3, hi4⟩ := info_parts info_u8
  by_cases h0 : n = 0
  · subst h0
    go_enter Try.func116, Try.ntmps116
    go_wp2
    go_ret
    exact ⟨_, rfl, Below.refl _ _, rfl, .inl ⟨rfl, rfl⟩⟩
  · have hpos : decide ((0 : Int) < n) = true := decide_eq_true (by omega)
    have hG := grownCap_ge w (0 + n) 0 5
    have hGm := grownCap_le_maxLen w (0 + n) 0 5 (by unfold maxLen; omega)
    have hr : ∀ ty, (Builtin.append_ #[78, 3] ty #[.slice none 0 0, .int .i64 n]).run Try.prog w = _ := fun ty =>
      Lib.run_append_grow_zeros w 78 3 ty 5 iu (.int .u8 0) .i64 .i64 Try.underlying78 Try.underlying3 hi1 hi2 none 0 0 [] (run_firstCells_none w.drew iu.size 0 0 0) n (by omega) (by omega) (by omega) (by omega) (by rw [hi4]; omega)
        (growslice_fits (by omega) (by rw [hi4]; omega))
    have HR := Lib.hid hr; clear hr
    generalize hGe : grownCap w (0 + n) 0 5 = G at *
    go_enter Try.func116, Try.ntmps116
    go_wp2_with (at_builtin; refine wpList_append_run rfl _ _ 78 3 rfl (.slice none 0 0) (.int .i64 n) _ rfl rfl (HR.out _) ?_)
    go_ret
    have hsz : (Builtin.zeroCells #[Value.int .u8 0] n ++ Builtin.zeroCells #[Value.int .u8 0] (G - n)).size = G * 1 := by
      simp [Builtin.zeroCells]; omega
    generalize (Builtin.zeroCells #[Value.int .u8 0] n ++ Builtin.zeroCells #[Value.int .u8 0] (G - n)) = cs at *
    refine ⟨_, rfl, (below_alloc1 w (.cells cs 5)).trans (below_drew1.mono (by simp)), rfl, .inr ⟨w.heap.size, G, cs, rfl, Nat.le_refl _, ?_, Nat.zero_le _, hGm, hsz, ?_⟩⟩
    · exact alloc_at (w := w) _ rfl
    · simp
def SlAt (w : World) (v : Value) (ls : List (List UInt8)) : Prop := ∃ A cap, v = .slice A ls.length cap ∧ ∀ i (h : i < ls.length), ∃ ad x, A = some ad ∧ w.cell? (ad.add i) = some x ∧ BRd w x ls[i]
def total (ls : List (List UInt8)) : Nat := ls.flatten.length
theorem flat_take (ls : List (List UInt8)) (k : Nat) (h : k < ls.length) : (ls.take (k + 1)).flatten = (ls.take k).flatten ++ ls[k] := by
  rw [List.take_succ_eq_append_getElem h, List.flatten_append]
  simp
theorem total_take (ls : List (List UInt8)) (k : Nat) (h : k < ls.length) : total (ls.take (k + 1)) = total (ls.take k) + ls[k].length := by
  unfold total
  rw [flat_take ls k h, List.length_append]
theorem total_le (ls : List (List UInt8)) (k : Nat) : total (ls.take k) ≤ total ls := by
  have h : (ls.take k).flatten ++ (ls.drop k).flatten = ls.flatten := by rw [← List.flatten_append, List.take_append_drop]
  unfold total
  rw [← h, List.length_append]
  omega
set_option maxHeartbeats 2000000 in
set_option maxRecDepth 100000 in
theorem concat_ok (v : Value) (ls : List (List UInt8)) (w : World) (hv : SlAt w v ls) (hn : total ls ≤ 140737488351232) (hl : ls.length ≤ 1000000) :
    Calls Try.prog 115 #[v] w fun e w' => ∃ x, e = .returned x ∧ Below w.heap.size w w' ∧ SOwn w' w.heap.size x ls.flatten := by
  obtain ⟨A, cap, rfl, hel⟩ := hv
  have HE := Lib.hid hel; clear hel
  go_enter Try.func115, Try.ntmps115
  go_wp2_with fail
  go_loop [3, 11] (fun vs vi => ∃ k : Nat, k ≤ ls.length ∧ vi = .int .i64 k ∧ vs = .int .i64 (total (ls.take k) : Nat)) (fun _ vi => ls.length - (intOf vi).toNat)
  case atStart => exact ⟨0, by omega, rfl, by simp [total]⟩
  obtain ⟨k, hk, rfl, rfl⟩ := hrel
  by_cases hlt : k < ls.length
  · have d : decide ((k : Int) < ls.length) = true := decide_eq_true (by omega)
    obtain ⟨ad, x, rfl, hcell, Ax, cx, rfl, _, _, _⟩ := HE.out k hlt
    have ht := total_take ls k hlt
    have ht2 := total_le ls (k + 1)
    have ht3 := total_le ls k
    generalize hT1 : total (ls.take (k + 1)) = T1 at *
    generalize total (ls.take k) = T0 at *
    have HT := Lib.hid (And.intro hT1 ht); clear hT1; have hTT : T0 + ls[k].length ≤ 140737488351232 := by omega
    clear ht
    go_wp2
    exact ⟨⟨k + 1, by omega, by simp, by rw [HT.out.1, HT.out.2]; simp⟩, by simp [intOf]; omega⟩
  · have hkl : k = ls.length := by omega
    subst hkl
    rw [List.take_length]
    have d : decide ((ls.length : Int) < ls.length) = false := decide_eq_false (by omega)
    obtain ⟨T, hT⟩ : ∃ T, T = total ls := ⟨_, rfl⟩
    rw [← hT] at hn ⊢
    have HTot := Lib.hid hT; clear hT
    go_wp2_with fail
    refine (grow_nil T w (by omega)).mono ?_; rintro e w1 ⟨vg, rfl, hb1, ho1⟩
    have HG := Lib.hid (And.intro hb1 ho1); clear hb1 ho1
    go_wp2_with fail
    go_loopw [6, 27] (fun vb vi W => ∃ k : Nat, k ≤ ls.length ∧ vi = .int .i64 k ∧ W.ownsRow w.heap.size 5 1 vb (ls.take k).flatten.length (bv (ls.take k).flatten) ∧ Below w.heap.size w W) (fun _ vi _ => ls.length - (intOf vi).toNat)
    case atStart => exact ⟨0, by omega, rfl, HG.out.2, HG.out.1⟩
    obtain ⟨k, hk, rfl, hown, hbel⟩ := hrel
    by_cases hlt : k < ls.length
    · have d : decide ((k : Int) < ls.length) = true := decide_eq_true (by omega)
      obtain ⟨ad, x, rfl, hcell, hbr⟩ := HE.out k hlt
      have hcell := cell_up hcell hbel
      have hbr := hbr.below hbel
      obtain ⟨Ax, cx, rfl, _, hrx, _⟩ := hbr
      obtain ⟨A0, c0, rfl, hc0, _, _, _⟩ := own_rd hown
      have hft := flat_take ls k hlt
      have htk := total_take ls k hlt
      have htl := total_le ls (k + 1)
      unfold total at htk htl
      have hTT : (ls.take k).flatten.length + ls[k].length ≤ 140737488351232 := by
        have := HTot.out; unfold total at this; omega
      have hsz := hbel.size
      generalize hF1 : (ls.take (k + 1)).flatten = F1 at *
      have HF1 := Lib.hid hF1; clear hF1
      generalize (ls.take k).flatten = F0 at *
      have HO := Lib.hid (And.intro hown (And.intro hbel (And.intro hrx hft))); clear hown hbel hrx hft htk htl
      go_wp2_with (at_builtin; refine wpList_app rfl _ _ 78 rfl w.heap.size 5 (.int .u8 0) 1 1 Try.underlying78 info_u8 rfl (by decide) (by decide) (.slice A0 F0.length c0) F0.length (bv F0) rfl Ax ls[k].length cx (bv ls[k]) rfl HO.out.1 (by rw [bv_length, Nat.mul_one]) HO.out.2.2.1 (bv_one _) (by omega) hsz ?_)
      intro A9 c9 w9 hown hgrow hat
      rw [← bv_append, ← HO.out.2.2.2] at hown
      have hbel := below_grown HO.out.2.1 hgrow (fun k hk => own_base HO.out.1 k hk)
      have hlen : F0.length + ls[k].length = F1.length := by rw [HO.out.2.2.2, List.length_append]
      have HN := Lib.hid (And.intro hown (And.intro hbel hlen)); clear hown hgrow hat hbel hlen
      go_wp2
      exact ⟨⟨k + 1, by omega, by simp, by have e := HN.out.2.2; rw [HF1.out, ← e]; exact HN.out.1, HN.out.2.1⟩, by simp [intOf]; omega⟩
    · have hkl : k = ls.length := by omega
      subst hkl
      rw [List.take_length] at hown
      obtain ⟨A0, c0, rfl, hc0, _, _, _⟩ := own_rd hown
      have HO := Lib.hid (And.intro hown hbel); clear hown hbel
      have d : decide ((ls.length : Int) < ls.length) = false := decide_eq_false (by omega)
      go_wp2
      go_ret
      exact ⟨_, rfl, HO.out.2, HO.out.1⟩
set_option maxHeartbeats 4000000 in
set_option maxRecDepth 100000 in
theorem bclone_ok (v : Value) (l : Oc) (w : World) (h : BRd w v l) (hl : l.length ≤ 140737488355328) :
    Calls Try.prog 74 #[v] w fun e w' => ∃ v', e = .returned v' ∧ w'.ownsRow w.heap.size 5 1 v' l.length (bv l) ∧ Below w.heap.size w w' := by
  have HV := Lib.hid h
  obtain ⟨A, c, rfl, hc, hr⟩ := h
  clear hr
  cases A with
  | none =>
    have hl0 : l = [] := by
      obtain ⟨A', c', e, _, h2, _⟩ := HV.out
      cases e
      cases l with
      | nil => rfl
      | cons a t =>
        obtain ⟨ad, e, _⟩ := h2 0 (by simp [bv])
        cases e
    subst hl0
    have qT : ∀ w : World, (binOp .eql 78 (.slice none 0 c) (.slice none 0 0)).run Try.prog w = .ok (.bool true) w := fun w => run_eql_slice_nil w _ _ _ _ _ Try.underlying78
    go_enter Try.func74, Try.ntmps74
    go_wp2
    go_ret
    exact ⟨_, rfl, ⟨rfl, .inl ⟨rfl, rfl⟩⟩, Below.refl _ _⟩
  | some a =>
    have qT : ∀ w : World, (binOp .eql 78 (.slice (some a) l.length c) (.slice none 0 0)).run Try.prog w = .ok (.bool false) w := fun w => run_eql_slice_nil w _ _ _ _ _ Try.underlying78
    have HA := Lib.hid (HV.out.below (below_alloc1 w (.cells #[] 5)))
    go_enter Try.func74, Try.ntmps74
    go_wp2_with (at_builtin; refine wpList_app rfl _ _ 78 rfl w.heap.size 5 (.int .u8 0) 1 1 Try.underlying78 info_u8 rfl (by decide) (by decide) (.slice (some ⟨w.heap.size, 0, none⟩) 0 0) 0 [] rfl (some a) l.length c (bv l) rfl (own_zero _ _ _) (by rw [bv_length, Nat.mul_one]) ?_ (bv_one _) (by omega) (below_alloc1 _ _).size ?_)
    · obtain ⟨A', c', e, _, h2, _⟩ := HA.out
      cases e
      exact h2
    intro A1 c1 w1 hown hgrow _
    (try simp only [Nat.zero_add, List.nil_append] at hown)
    have hb := below_grown (below_alloc1 w (.cells #[] 5)) hgrow (fun k e => by cases e; exact Nat.le_refl _)
    have HO := Lib.hid (And.intro hown hb)
    clear hown hgrow hb
    go_wp2
    go_ret
    exact ⟨_, rfl, HO.out⟩
set_option maxHeartbeats 4000000 in
set_option maxRecDepth 100000 in
theorem iclone_ok (v : Value) (l : List Int) (w : World) (h : IRd w v l) (hl : l.length ≤ 17592186044416) :
    Calls Try.prog 55 #[v] w fun e w' => ∃ v', e = .returned v' ∧ w'.ownsRow w.heap.size 3 1 v' l.length (iv l) ∧ Below w.heap.size w w' := by
  have HV := Lib.hid h
  obtain ⟨A, c, rfl, hc, hr⟩ := h
  clear hr
  cases A with
  | none =>
    have hl0 : l = [] := by
      obtain ⟨A', c', e, _, h2⟩ := HV.out
      cases e
      cases l with
      | nil => rfl
      | cons a t =>
        obtain ⟨ad, e, _⟩ := h2 0 (by simp [iv])
        cases e
    subst hl0
    have qT : ∀ w : World, (binOp .eql 29 (.slice none 0 c) (.slice none 0 0)).run Try.prog w = .ok (.bool true) w := fun w => run_eql_slice_nil w _ _ _ _ _ Try.underlying29
    go_enter Try.func55, Try.ntmps55
    go_wp2
    go_ret
    exact ⟨_, rfl, ⟨rfl, .inl ⟨rfl, rfl⟩⟩, Below.refl _ _⟩
  | some a =>
    have qT : ∀ w : World, (binOp .eql 29 (.slice (some a) l.length c) (.slice none 0 0)).run Try.prog w = .ok (.bool false) w := fun w => run_eql_slice_nil w _ _ _ _ _ Try.underlying29
    have HA := Lib.hid (HV.out.below (below_alloc1 w (.cells #[] 3)))
    go_enter Try.func55, Try.ntmps55
    go_wp2_with (at_builtin; refine wpList_app rfl _ _ 29 rfl w.heap.size 3 (.int .i64 0) 1 8 Try.underlying29 info_i64 rfl (by decide) (by decide) (.slice (some ⟨w.heap.size, 0, none⟩) 0 0) 0 [] rfl (some a) l.length c (iv l) rfl (own_zero _ _ _) (by rw [iv_length, Nat.mul_one]) ?_ (iv_one _) (by omega) (below_alloc1 _ _).size ?_)
    · obtain ⟨A', c', e, _, h2⟩ := HA.out
      cases e
      exact h2
    intro A1 c1 w1 hown hgrow _
    (try simp only [Nat.zero_add, List.nil_append] at hown)
    have hb := below_grown (below_alloc1 w (.cells #[] 3)) hgrow (fun k e => by cases e; exact Nat.le_refl _)
    have HO := Lib.hid (And.intro hown hb)
    clear hown hgrow hb
    go_wp2
    go_ret
    exact ⟨_, rfl, HO.out⟩
end Go.Proofs.Ythpnlgdcijmocaa.Dk
