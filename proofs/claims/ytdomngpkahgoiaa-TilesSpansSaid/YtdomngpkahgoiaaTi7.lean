/- The walks over slices.Grow (of the nil slice) and slices.Concat, of cells. -/
import Derived.Test.YtdomngpkahgoiaaTi5
import Derived.Lib.AppendZerosOnto
namespace Go.Proofs.Ytdomngpkahgoiaa.Ti
open Go.RowKit Rg St Zw
set_option linter.unusedVariables false
set_option linter.unusedSimpArgs false
section
variable {P : Program}
/-- append of whatever two arguments, by its equation. -/
theorem wpList_append_run {ops : Array Oper} {rest : List Oper} {o : Oper} {a : Act} {Q : Exit → Act → World → Prop} {W w1 : World} (hgd : o.guard = none) (s x : Operand) (t u : TypeId)
    (ho : o.op = .call { callee := .builtin .append, args := #[s, x], argTypes := #[t, u] }) (v1 v2 v : Value) (hs : a.eval s = v1) (hx : a.eval x = v2)
    (hr : (Builtin.append_ #[t, u] o.type #[v1, v2]).run P W = .ok v w1) (h : wpList P ops Q rest (a.put o.dst v) w1) : wpList P ops Q (o :: rest) a W := by
  refine wpList_plain hgd fun K hK => ?_
  unfold Oper.wp execOp
  simp only [ho, resolve, invoke, builtin, Sem.run_bind, Sem.run_pure, Result.andThen_ok, List.map_toArray, List.map_cons, List.map_nil, hs, hx, hr]
  exact hK _ _ h
end
set_option maxHeartbeats 2000000 in
set_option maxRecDepth 100000 in
theorem grow_nil (n : Nat) (w : World) (hn : n ≤ 1000000) :
    Calls Try.prog 73 #[.slice none 0 0, .int .i64 n] w fun e w' => ∃ v, e = .returned v ∧ Below w.heap.size w w' ∧ w'.ownsRow w.heap.size 32 3 v 0 [] := by
  obtain ⟨iu, hi1, hi2, hi3, hi4⟩ := info_parts info_ce
  by_cases h0 : n = 0
  · subst h0
    go_enter Try.func73, Try.ntmps73
    go_wp2
    go_ret
    exact ⟨_, rfl, Below.refl _ _, rfl, .inl ⟨rfl, rfl⟩⟩
  · have hpos : decide ((0 : Int) < n) = true := decide_eq_true (by omega)
    have hG := grownCap_ge w (0 + n) 0 32
    have hGm := grownCap_le_maxLen w (0 + n) 0 32 (by unfold maxLen; omega)
    have hr : ∀ ty, (Builtin.append_ #[27, 3] ty #[.slice none 0 0, .int .i64 n]).run Try.prog w = _ := fun ty =>
      Lib.run_append_grow_zeros w 27 3 ty 32 iu (.agg #[.int .u32 0, .int .u32 0, .int .i64 0]) .i64 .i64 Try.underlying27 Try.underlying3 hi1 hi2 none 0 0 [] (run_firstCells_none w.drew iu.size 0 0 0) n (by omega) (by omega) (by omega) (by omega) (by rw [hi4]; omega)
        (growslice_fits (by omega) (by rw [hi4]; omega))
    have HR := Lib.hid hr; clear hr
    generalize hGe : grownCap w (0 + n) 0 32 = G at *
    go_enter Try.func73, Try.ntmps73
    go_wp2_with (at_builtin; refine wpList_append_run rfl _ _ 27 3 rfl (.slice none 0 0) (.int .i64 n) _ rfl rfl (HR.out _) ?_)
    go_ret
    have hsz : (Builtin.zeroCells #[Value.int .u32 0, Value.int .u32 0, Value.int .i64 0] n ++ Builtin.zeroCells #[Value.int .u32 0, Value.int .u32 0, Value.int .i64 0] (G - n)).size = G * 3 := by
      simp [Builtin.zeroCells]; omega
    generalize (Builtin.zeroCells #[Value.int .u32 0, Value.int .u32 0, Value.int .i64 0] n ++ Builtin.zeroCells #[Value.int .u32 0, Value.int .u32 0, Value.int .i64 0] (G - n)) = cs at *
    refine ⟨_, rfl, (below_alloc1 w (.cells cs 32)).trans (below_drew1.mono (by simp)), rfl, .inr ⟨w.heap.size, G, cs, rfl, Nat.le_refl _, ?_, Nat.zero_le _, hGm, hsz, ?_⟩⟩
    · exact alloc_at (w := w) _ rfl
    · simp
def SlAt (w : World) (v : Value) (ls : List (List CeS)) : Prop := ∃ A cap, v = .slice A ls.length cap ∧ ∀ i (h : i < ls.length), ∃ ad x, A = some ad ∧ w.cell? (ad.add i) = some x ∧ CRow w x ls[i]
def total (ls : List (List CeS)) : Nat := ls.flatten.length
theorem flat_take (ls : List (List CeS)) (k : Nat) (h : k < ls.length) : (ls.take (k + 1)).flatten = (ls.take k).flatten ++ ls[k] := by
  rw [List.take_succ_eq_append_getElem h, List.flatten_append]
  simp
theorem total_take (ls : List (List CeS)) (k : Nat) (h : k < ls.length) : total (ls.take (k + 1)) = total (ls.take k) + ls[k].length := by
  unfold total
  rw [flat_take ls k h, List.length_append]
theorem total_le (ls : List (List CeS)) (k : Nat) : total (ls.take k) ≤ total ls := by
  have h : (ls.take k).flatten ++ (ls.drop k).flatten = ls.flatten := by rw [← List.flatten_append, List.take_append_drop]
  unfold total
  rw [← h, List.length_append]
  omega
set_option maxHeartbeats 2000000 in
set_option maxRecDepth 100000 in
theorem concat_ok (v : Value) (ls : List (List CeS)) (w : World) (hv : SlAt w v ls) (hn : total ls ≤ 1000000) (hl : ls.length ≤ 1000000) :
    Calls Try.prog 41 #[v] w fun e w' => ∃ x, e = .returned x ∧ Below w.heap.size w w' ∧ w'.ownsRow w.heap.size 32 3 x ls.flatten.length (ls.flatten.flatMap CeS.cells) := by
  obtain ⟨A, cap, rfl, hel⟩ := hv
  have HE := Lib.hid hel; clear hel
  go_enter Try.func41, Try.ntmps41
  go_wp2_with fail
  go_loop [3, 11] (fun vs vi => ∃ k : Nat, k ≤ ls.length ∧ vi = .int .i64 k ∧ vs = .int .i64 (total (ls.take k) : Nat)) (fun _ vi => ls.length - (intOf vi).toNat)
  case atStart => exact ⟨0, by omega, rfl, by simp [total]⟩
  obtain ⟨k, hk, rfl, rfl⟩ := hrel
  by_cases hlt : k < ls.length
  · have d : decide ((k : Int) < ls.length) = true := decide_eq_true (by omega)
    obtain ⟨ad, x, rfl, hcell, Ax, cx, rfl, _, _⟩ := HE.out k hlt
    have ht := total_take ls k hlt
    have ht2 := total_le ls (k + 1)
    have ht3 := total_le ls k
    generalize hT1 : total (ls.take (k + 1)) = T1 at *
    generalize total (ls.take k) = T0 at *
    have HT := Lib.hid (And.intro hT1 ht); clear hT1; have hTT : T0 + ls[k].length ≤ 1000000 := by omega
    clear ht
    go_wp2
    exact ⟨⟨k + 1, by omega, by simp, by rw [HT.out.1, HT.out.2]; simp⟩, by simp [intOf]; omega⟩
  · have hkl : k = ls.length := by omega
    subst hkl
    rw [List.take_length]
    have d : decide ((ls.length : Int) < ls.length) = false := decide_eq_false (by omega)
    obtain ⟨T, hT⟩ : ∃ T, T = total ls := ⟨_, rfl⟩
    rw [← hT] at hn ⊢
    have HTot := Lib.hid hT; clear hT
    go_wp2_with fail
    refine (grow_nil T w (by omega)).mono ?_; rintro e w1 ⟨vg, rfl, hb1, ho1⟩
    have HG := Lib.hid (And.intro hb1 ho1); clear hb1 ho1
    go_wp2_with fail
    go_loopw [6, 27] (fun vb vi W => ∃ k : Nat, k ≤ ls.length ∧ vi = .int .i64 k ∧ W.ownsRow w.heap.size 32 3 vb (ls.take k).flatten.length ((ls.take k).flatten.flatMap CeS.cells) ∧ Below w.heap.size w W) (fun _ vi _ => ls.length - (intOf vi).toNat)
    case atStart => exact ⟨0, by omega, rfl, HG.out.2, HG.out.1⟩
    obtain ⟨k, hk, rfl, hown, hbel⟩ := hrel
    by_cases hlt : k < ls.length
    · have d : decide ((k : Int) < ls.length) = true := decide_eq_true (by omega)
      obtain ⟨ad, x, rfl, hcell, hbr⟩ := HE.out k hlt
      have hcell := cell_up hcell hbel
      have hbr := hbr.below hbel
      obtain ⟨Ax, cx, rfl, _, hrx⟩ := hbr
      obtain ⟨A0, c0, rfl, hc0, _, _, _⟩ := own_rd hown
      have hft := flat_take ls k hlt
      have htk := total_take ls k hlt
      have htl := total_le ls (k + 1)
      unfold total at htk htl
      have hTT : (ls.take k).flatten.length + ls[k].length ≤ 1000000 := by
        have := HTot.out; unfold total at this; omega
      have hsz := hbel.size
      generalize hF1 : (ls.take (k + 1)).flatten = F1 at *
      have HF1 := Lib.hid hF1; clear hF1
      generalize (ls.take k).flatten = F0 at *
      have HO := Lib.hid (And.intro hown (And.intro hbel (And.intro hrx hft))); clear hown hbel hrx hft htk htl
      go_wp2_with (at_builtin; refine wpList_app rfl _ _ 27 rfl w.heap.size 32 (.agg #[.int .u32 0, .int .u32 0, .int .i64 0]) 3 16 Try.underlying27 info_ce rfl (by decide) (by decide) (.slice A0 F0.length c0) F0.length (F0.flatMap CeS.cells) rfl Ax ls[k].length cx (ls[k].flatMap CeS.cells) rfl HO.out.1 (by rw [flat_len CeS.cells_len]) HO.out.2.2.1 (flat_one CeS.cells_one _) (by omega) hsz ?_)
      intro A9 c9 w9 hown hgrow hat
      rw [← List.flatMap_append, ← HO.out.2.2.2] at hown
      have hbel := below_grown HO.out.2.1 hgrow (fun k hk => own_base HO.out.1 k hk)
      have hlen : F0.length + ls[k].length = F1.length := by rw [HO.out.2.2.2, List.length_append]
      have HN := Lib.hid (And.intro hown (And.intro hbel hlen)); clear hown hgrow hat hbel hlen
      go_wp2
      exact ⟨⟨k + 1, by omega, by simp, by have e := HN.out.2.2; rw [HF1.out, ← e]; exact HN.out.1, HN.out.2.1⟩, by simp [intOf]; omega⟩
    · have hkl : k = ls.length := by omega
      subst hkl
      rw [List.take_length] at hown
      obtain ⟨A0, c0, rfl, hc0, _, _, _⟩ := own_rd hown
      have HO := Lib.hid (And.intro hown hbel); clear hown hbel
      have d : decide ((ls.length : Int) < ls.length) = false := decide_eq_false (by omega)
      go_wp2
      go_ret
      exact ⟨_, rfl, HO.out.2, HO.out.1⟩
end Go.Proofs.Ytdomngpkahgoiaa.Ti
