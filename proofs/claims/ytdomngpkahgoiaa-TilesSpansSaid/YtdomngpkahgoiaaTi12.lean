/- The walk over tiles.Spans. -/
import Derived.Test.YtdomngpkahgoiaaTi11
import Derived.Test.YtdomngpkahgoiaaTi1
namespace Go.Proofs.Ytdomngpkahgoiaa.Ti
open Go.RowKit Rg St Zw
set_option linter.unusedVariables false
set_option linter.unusedSimpArgs false
def sc (s : Nat × Nat) : List Value := [.int .u64 (s.1 : Nat), .int .u64 (s.2 : Nat)]
theorem sc_len (s : Nat × Nat) : (sc s).length = 2 := rfl
theorem sc_one (s : Nat × Nat) : ∀ u ∈ sc s, u.oneCell' = true := by simp [sc, Value.oneCell']
theorem info_sc : (Try.prog.info? 42).map (fun i => (i.zero, i.size, i.bytes)) = some (some (.agg #[.int .u64 0, .int .u64 0]), 2, 16) := by kernel_rfl
def ivC (c : CeS) : Nat × Nat := (begC c, endC c)
def spansOf (l : List CeS) : List (Nat × Nat) := spanL ((ordL l).map ivC)
theorem spanF_snoc (L : List CeS) (k : Nat) (h : k < L.length) : spanF ((L.take (k + 1)).map ivC) = spanS (spanF ((L.take k).map ivC)) (ivC L[k]) := by
  have := spanF_succ (L.map ivC) k (by simpa using h)
  rw [← List.map_take, ← List.map_take, List.getElem_map] at this
  exact this
theorem sc_set (e1 e2 X : Nat) : ∀ P : List (Nat × Nat), ((P ++ [(e1, e2)]).flatMap sc).set (P.length * 2 + 1) (.int .u64 (X : Nat)) = (P ++ [(e1, X)]).flatMap sc
  | [] => by simp [sc]
  | a :: P => by
    have ih := sc_set e1 e2 X P
    rw [List.cons_append, List.cons_append, List.flatMap_cons, List.flatMap_cons, ← ih, List.length_cons]
    have e : (P.length + 1) * 2 + 1 = (P.length * 2 + 1) + 1 + 1 := by omega
    rw [e]
    simp only [sc, List.cons_append, List.nil_append, List.set_cons_succ]
theorem merged {W : World} {base g co N : Nat} {O P : List (Nat × Nat)} {e1 e2 : Nat} (h : W.ownsRow base 42 2 (.slice (some ⟨g, 0, none⟩) N co) N (O.flatMap sc)) (hO : O = P ++ [(e1, e2)]) {n X : Nat} (hn : P.length = n) (hN : N = n + 1) :
    (W.setCell ⟨g, n * 2 + 1, none⟩ (.int .u64 (X : Nat))).ownsRow base 42 2 (.slice (some ⟨g, 0, none⟩) N co) (P ++ [(e1, X)]).length ((P ++ [(e1, X)]).flatMap sc) := by
  have h1 := (h.stored (n * 2 + 1) (.int .u64 (X : Nat))).1
  subst hO hn
  rw [sc_set] at h1
  rw [List.length_append, List.length_singleton, ← hN]
  exact h1
theorem below_row {w W : World} {g n cap size : Nat} {e : TypeId} {xs : List Value} (hb : Below w.heap.size w W) (h : W.ownsRow w.heap.size e size (.slice (some ⟨g, 0, none⟩) n cap) n xs) (j : Nat) (u : Value) : Below w.heap.size w (W.setCell ⟨g, j, none⟩ u) :=
  hb.setCell (own_base h g rfl) u
set_option maxHeartbeats 4000000 in
set_option maxRecDepth 100000 in
theorem spans_ok (v : Value) (l : List CeS) (w : World) (hv : CRow w v l) (hf : ∀ c ∈ l, c.fine) (hl : l.length ≤ 1000000) :
    Calls Try.prog 17 #[v] w fun e w' => ∃ v', e = .returned v' ∧ w'.ownsRow w.heap.size 42 2 v' (spansOf l).length ((spansOf l).flatMap sc) ∧ Below w.heap.size w w' := by
  have HO := Lib.hid (fun W hv => order_ok v l W hv hf hl)
  have HV := Lib.hid hv
  have HBg := Lib.hid (fun (c : CeS) (h : c.fine) W => begin_ok c W h)
  have HEn := Lib.hid (fun (c : CeS) (h : c.fine) W => end_ok c W h)
  have hlen := ordL_len l
  have hfo : ∀ c ∈ ordL l, c.fine := fun c hc => by
    have h1 : c ∈ l.map CeS.fix := (List.mergeSort_perm (l.map CeS.fix) _).mem_iff.1 hc
    obtain ⟨z, hz, rfl⟩ := List.mem_map.1 h1
    exact (fix_good (hf z hz)).1
  unfold spansOf spanL
  generalize ordL l = L at *
  have hL : L.length ≤ 1000000 := by omega
  have HF := Lib.hid hfo
  clear hlen hl hf hfo
  go_enter Try.func17, Try.ntmps17
  go_wp2_with fail
  (with_reducible refine (HO.out _ HV.out).mono ?_); rintro e w1 ⟨v1, rfl, hown, hb1⟩
  obtain ⟨A, cap, rfl, _, _, _, _⟩ := own_rd hown
  have HR := Lib.hid (srd_own CeS.cells_len (by decide) hown)
  have HB1 := Lib.hid hb1
  clear hown hb1
  go_wp2_with fail
  go_loopw [3, 12] (fun vo vi W => ∃ (k : Nat) (O : List (Nat × Nat)), k ≤ L.length ∧ vi = .int .i64 k ∧ (spanF ((L.take k).map ivC)).reverse = O ∧ O.length ≤ k ∧ W.ownsRow w1.heap.size 42 2 vo O.length (O.flatMap sc) ∧ Below w1.heap.size w1 W) (fun _ vi _ => L.length - (intOf vi).toNat)
  case atStart => exact ⟨0, [], by omega, rfl, rfl, Nat.le_refl _, ⟨rfl, .inl ⟨rfl, rfl⟩⟩, Below.refl _ _⟩
  case round =>
  obtain ⟨k, O, hk, rfl, hO, hOl, ho, hb⟩ := hrel
  obtain ⟨Ao, co, rfl, hco, _, _, hA0⟩ := own_rd ho
  have HA0 := Lib.hid hA0; clear hA0
  have Ho := Lib.hid ho
  have HB := Lib.hid hb
  have HOe := Lib.hid hO
  clear ho hb hO
  by_cases hlt : k < L.length
  · have d : decide ((k : Int) < L.length) = true := decide_eq_true (by omega)
    have dn : decide (k < L.length) = true := decide_eq_true hlt
    have bk : (k : Int) < L.length := by omega
    obtain ⟨g, o, rfl, f0, f1, f2⟩ := c_at (HR.out.below HB.out) hlt
    have hs := spanF_snoc L k hlt
    have hfx := HF.out _ (List.getElem_mem hlt)
    have HBx := Lib.hid (fun W => HBg.out L[k] hfx W)
    have HEx := Lib.hid (fun W => HEn.out L[k] hfx W)
    have hbl : begC L[k] < 18446744073709551616 := Zm.join_lt _ _
    have hel : endC L[k] < 18446744073709551616 := Zm.join_lt _ _
    rw [show ivC L[k] = (begC L[k], endC L[k]) from rfl] at hs
    clear hfx
    generalize L[k] = x at *
    generalize begC x = B at *
    generalize endC x = E at *
    have HS := Lib.hid hs
    have q := alloc_at (w := wr) (.cells #[.int .u32 (x.x : Nat), .int .u32 (x.y : Nat), .int .i64 x.l] 32) rfl
    have hba := below_alloc1 wr (.cells #[.int .u32 (x.x : Nat), .int .u32 (x.y : Nat), .int .i64 x.l] 32)
    have HQ := Lib.hid q
    have Ho1 := Lib.hid (own_below Ho.out hba)
    have HB2 := Lib.hid (below_up HB.out hba)
    clear hs q hba
    go_upto_region 5 with (fail)
    generalize (World.alloc wr _) = W1 at *
    generalize wr.heap.size = g2 at *
    clear f0 f1 f2
    go_cut [6, 7] (fun v6 v7 wx => v6 = .int .u64 (B : Nat) ∧ v7 = .int .u64 (E : Nat) ∧ Below W1.heap.size W1 wx)
    case first =>
      have hd := below_drew1 (w := W1)
      have HD := Lib.hid hd
      have f0 := ccell (block_up HQ.out hd)
      refine beginS (S := fun W => W.cell? ⟨g2, 0, none⟩ = some (.int .u32 (x.x : Nat)) ∧ W.cell? ⟨g2, 1, none⟩ = some (.int .u32 (x.y : Nat)) ∧ W.cell? ⟨g2, 2, none⟩ = some (.int .i64 x.l)) [] (by kernel_rfl) f0 (fun hHeld0 => ?_)
      generalize (World.drew W1) = W0 at *
      clear f0 hd
      refine takeH (i := 0) (v := ?_) rfl (by kernel_rfl) (fun _ _ _ h => h) (Or.inl ⟨by kernel_rfl, ?_⟩) (by assumption) ?_; rotate_left; (focus (intro w hSw; (try dsimp only at hSw); go_simp; (try with_reducible rfl); done)); (try simp only [Act.put, List.getElem_toArray, List.getElem_cons_succ, List.getElem_cons_zero, List.setIfInBounds_toArray, List.set_cons_zero, List.set_cons_succ])
      refine takeH (i := 2) (v := ?_) rfl (by kernel_rfl) (fun _ _ _ h => h) (Or.inl ⟨by kernel_rfl, ?_⟩) (by assumption) ?_; rotate_left; (focus (intro w hSw; (try dsimp only at hSw); go_simp; (try with_reducible rfl); done)); (try simp only [Act.put, List.getElem_toArray, List.getElem_cons_succ, List.getElem_cons_zero, List.setIfInBounds_toArray, List.set_cons_zero, List.set_cons_succ])
      clear hHeld0
      refine readyS (rs := [1]) (by kernel_rfl) (by simp) ?_
      refine ReadyS.consH rfl (fun K hK => ?_) ReadyS.nil
      (try simp only [List.getElem_toArray, List.getElem_cons_succ, List.getElem_cons_zero])
      go_simp
      (with_reducible refine (HBx.out _).mono ?_); rintro e W2 ⟨rfl, hb1⟩
      have HD1 := Lib.hid (below_up HD.out hb1); clear hb1
      refine hK.out _ _ (ccell (block_up HQ.out HD1.out)) (fun hHeld => ?_)
      clear hK K
      (try simp only [Act.put, List.getElem_toArray, List.getElem_cons_succ, List.getElem_cons_zero, List.setIfInBounds_toArray, List.set_cons_zero, List.set_cons_succ])
      clear hHeld
      refine readyS (rs := [3]) (by kernel_rfl) (by simp) ?_
      refine ReadyS.consH rfl (fun K hK => ?_) ReadyS.nil
      (try simp only [List.getElem_toArray, List.getElem_cons_succ, List.getElem_cons_zero])
      go_simp
      (with_reducible refine (HEx.out _).mono ?_); rintro e W3 ⟨rfl, hb1⟩
      have HD2 := Lib.hid (below_up HD1.out hb1); clear hb1
      refine hK.out _ _ (ccell (block_up HQ.out HD2.out)) (fun hHeld => ?_)
      clear hK K
      (try simp only [Act.put, List.getElem_toArray, List.getElem_cons_succ, List.getElem_cons_zero, List.setIfInBounds_toArray, List.set_cons_zero, List.set_cons_succ])
      refine takeF (i := 4) (v := ?_) rfl (by kernel_rfl) (fun _ _ _ h => h) (Or.inl ⟨by kernel_rfl, ?_⟩) (by assumption) ?_; rotate_left; (focus (intro w _; go_simp; (try with_reducible rfl); done)); (try simp only [Act.put, List.getElem_toArray, List.getElem_cons_succ, List.getElem_cons_zero, List.setIfInBounds_toArray, List.set_cons_zero, List.set_cons_succ])
      refine takeF (i := 5) (v := ?_) rfl (by kernel_rfl) (fun _ _ _ h => h) (Or.inl ⟨by kernel_rfl, ?_⟩) (by assumption) ?_; rotate_left; (focus (intro w _; go_simp; (try with_reducible rfl); done)); (try simp only [Act.put, List.getElem_toArray, List.getElem_cons_succ, List.getElem_cons_zero, List.setIfInBounds_toArray, List.set_cons_zero, List.set_cons_succ])
      refine doneS (by kernel_rfl) ?_ _
      go_wp2
      go_meet
      case rel => exact ⟨rfl, rfl, HD2.out⟩
    case rest =>
    obtain ⟨rfl, rfl, hbc⟩ := hcut
    have Ho2 := Lib.hid (own_below Ho1.out hbc)
    have HB3 := Lib.hid (below_up HB2.out hbc)
    clear hbc
    have hNl : O.length ≤ 1000000 := by omega
    obtain ⟨N, hN⟩ : ∃ N, O.length = N := ⟨_, rfl⟩
    have HN := Lib.hid hN
    rw [hN] at Ho2 hNl hco hOl
    rw [hN]
    clear hN Ho Ho1
    have hM : spanF ((L.take k).map ivC) = O.reverse := by rw [← HOe.out, List.reverse_reverse]
    have hS := HS.out
    rw [hM] at hS
    clear hM
    rcases List.eq_nil_or_concat O with hO0 | ⟨P, e, hO0⟩
    · have hN0 : N = 0 := by rw [← HN.out, hO0]; rfl
      have HNew : Hid ((spanF ((L.take (k + 1)).map ivC)).reverse = O ++ [(B, E)]) := Lib.hid (by rw [hS, hO0]; rfl)
      clear hS hO0
      have kw : IntKind.i64.wrap ((N : Int) - 1) = -1 := by rw [hN0]; decide
      have HN0 := Lib.hid hN0
      clear hN0
      have Hrd := Lib.hid (rd_new wc #[.int .u64 (B : Nat), .int .u64 (E : Nat)] 42 ([(B, E)].flatMap sc) rfl)
      have hba := below_alloc1 wc (.cells #[.int .u64 (B : Nat), .int .u64 (E : Nat)] 42)
      have Ho3 := Lib.hid (own_below Ho2.out hba)
      have HB4 := Lib.hid (below_up HB3.out hba)
      clear hba
      go_wp2_with (at_builtin; refine wpList_app rfl _ _ 37 rfl w1.heap.size 42 (.agg #[.int .u64 0, .int .u64 0]) 2 16 Try.underlying37 info_sc rfl (by decide) (by decide) (.slice Ao N co) N (O.flatMap sc) rfl (some ⟨wc.heap.size, 0, none⟩) 1 1 ([(B, E)].flatMap sc) rfl Ho3.out rfl Hrd.out (flat_one sc_one _) (by omega) HB4.out.size ?_)
      intro A1 c1 w9 hown hgrow hat
      have Ho4 : Hid (w9.ownsRow w1.heap.size 42 2 (.slice A1 (N + 1) c1) (O ++ [(B, E)]).length ((O ++ [(B, E)]).flatMap sc)) := Lib.hid (by rw [List.length_append, List.length_singleton, HN.out, List.flatMap_append]; exact hown)
      have HB5 := Lib.hid (below_grown HB4.out hgrow (fun k e => own_base Ho3.out k e))
      clear hown hgrow hat
      go_wp2
      exact ⟨⟨k + 1, O ++ [(B, E)], by omega, by go_num, HNew.out, by rw [List.length_append, List.length_singleton]; have := HN.out; omega, Ho4.out, HB5.out⟩, by simp [intOf]; omega⟩
    · have hN0 : N = P.length + 1 := by rw [← HN.out, hO0, List.concat_eq_append]; simp
      rw [List.concat_eq_append] at hO0
      obtain ⟨n, hn⟩ : ∃ n, P.length = n := ⟨_, rfl⟩
      rw [hn] at hN0
      have kw : IntKind.i64.wrap ((N : Int) - 1) = (n : Int) := by rw [IntWalk.i64_in _ (by omega)]; omega
      have b1 : (n : Int) < N := by omega
      have b2 : n < N := by omega
      have b3 : decide ((n : Int) < N) = true := decide_eq_true b1
      have b4 : decide (n < N) = true := decide_eq_true b2
      obtain ⟨e1, e2⟩ := e
      have hSR : SRd 2 sc wc (.slice Ao N co) O := srd_own sc_len (by decide) Ho2.out
      obtain ⟨g0, o0, eA, _, ci⟩ := SRd.get hSR sc_len (by decide) (k := n) (by rw [HN.out]; exact b2)
      have hge : O[n]'(by rw [HN.out]; exact b2) = (e1, e2) := by subst hn; simp [hO0]
      subst eA
      obtain rfl : o0 = 0 := (HA0.out _ rfl).1
      rw [Nat.zero_add] at ci
      have z1 : wc.cell? ⟨g0, n * 2 + 1, none⟩ = some (.int .u64 (e2 : Nat)) := by have := ci 1 (by decide); rw [hge] at this; simpa [sc] using this
      have HN0 := Lib.hid hN0
      clear ci hge hSR
      by_cases hle : B ≤ e2
      · have l1 : ¬ e2 < B := by omega
        have l3 : decide (B ≤ e2) = true := decide_eq_true hle
        have d1 : decide ((B : Int) ≤ e2) = true := decide_eq_true (by omega)
        have HNew : Hid ((spanF ((L.take (k + 1)).map ivC)).reverse = P ++ [(e1, max e2 E)]) := Lib.hid (by
          rw [hS, hO0, List.reverse_append]
          show (if B ≤ e2 + 1 then _ else _ : List (Nat × Nat)).reverse = _
          rw [if_pos (by omega)]
          simp)
        clear hS
        obtain ⟨X, hX⟩ : ∃ X, max e2 E = X := ⟨_, rfl⟩
        rw [hX] at HNew
        have HO0 := Lib.hid hO0
        have Hn := Lib.hid hn
        have HX := Lib.hid hX
        clear hn hO0 hX hN0
        go_upto_region 8 with (fail)
        have hd := below_drew1 (w := wc)
        have z2 := cell_up z1 hd
        have Ho3 := Lib.hid (own_below Ho2.out hd)
        have HB4 := Lib.hid (below_up HB3.out hd)
        refine beginS (S := fun W => W.cell? ⟨g0, n * 2 + 1, none⟩ = some (.int .u64 (e2 : Nat))) [11] (by kernel_rfl) z2 (fun hHeld0 => ?_)
        generalize (World.drew wc) = W0 at *
        have fz := free_block (own_typed Ho3.out g0 rfl).choose_spec (n * 2 + 1)
        have HM := Lib.hid (merged Ho3.out HO0.out Hn.out HN0.out (X := X))
        have HBm := Lib.hid (below_row HB4.out Ho3.out (n * 2 + 1) (.int .u64 (X : Nat)))
        clear hd z1
        refine takeF (i := 0) (v := ?_) rfl (by kernel_rfl) (fun _ _ _ h => h) (Or.inl ⟨by kernel_rfl, ?_⟩) (by assumption) ?_; rotate_left; (focus (intro w _; go_simp; (try with_reducible rfl); done)); (try simp only [Act.put, List.getElem_toArray, List.getElem_cons_succ, List.getElem_cons_zero, List.setIfInBounds_toArray, List.set_cons_zero, List.set_cons_succ])
        refine takeF (i := 1) (v := ?_) rfl (by kernel_rfl) (fun _ _ _ h => h) (Or.inl ⟨by kernel_rfl, ?_⟩) (by assumption) ?_; rotate_left; (focus (intro w _; go_simp; (try with_reducible rfl); done)); (try simp only [Act.put, List.getElem_toArray, List.getElem_cons_succ, List.getElem_cons_zero, List.setIfInBounds_toArray, List.set_cons_zero, List.set_cons_succ])
        refine takeF (i := 2) (v := ?_) rfl (by kernel_rfl) (fun _ _ _ h => h) (Or.inl ⟨by kernel_rfl, ?_⟩) (by assumption) ?_; rotate_left; (focus (intro w _; go_simp; (try with_reducible rfl); done)); (try simp only [Act.put, List.getElem_toArray, List.getElem_cons_succ, List.getElem_cons_zero, List.setIfInBounds_toArray, List.set_cons_zero, List.set_cons_succ])
        refine takeF (i := 3) (v := ?_) rfl (by kernel_rfl) (fun _ _ _ h => h) (Or.inl ⟨by kernel_rfl, ?_⟩) (by assumption) ?_; rotate_left; (focus (intro w _; go_simp; (try with_reducible rfl); done)); (try simp only [Act.put, List.getElem_toArray, List.getElem_cons_succ, List.getElem_cons_zero, List.setIfInBounds_toArray, List.set_cons_zero, List.set_cons_succ])
        refine takeF (i := 4) (v := ?_) rfl (by kernel_rfl) (fun _ _ _ h => h) (Or.inl ⟨by kernel_rfl, ?_⟩) (by assumption) ?_; rotate_left; (focus (intro w _; go_simp; (try with_reducible rfl); done)); (try simp only [Act.put, List.getElem_toArray, List.getElem_cons_succ, List.getElem_cons_zero, List.setIfInBounds_toArray, List.set_cons_zero, List.set_cons_succ])
        refine takeF (i := 5) (v := ?_) rfl (by kernel_rfl) (fun _ _ _ h => h) (Or.inl ⟨by kernel_rfl, ?_⟩) (by assumption) ?_; rotate_left; (focus (intro w _; go_simp; (try with_reducible rfl); done)); (try simp only [Act.put, List.getElem_toArray, List.getElem_cons_succ, List.getElem_cons_zero, List.setIfInBounds_toArray, List.set_cons_zero, List.set_cons_succ])
        refine takeH (i := 6) (v := ?_) rfl (by kernel_rfl) (fun _ _ _ h => h) (Or.inl ⟨by kernel_rfl, ?_⟩) (by assumption) ?_; rotate_left; (focus (intro w hSw; (try dsimp only at hSw); go_simp; (try with_reducible rfl); done)); (try simp only [Act.put, List.getElem_toArray, List.getElem_cons_succ, List.getElem_cons_zero, List.setIfInBounds_toArray, List.set_cons_zero, List.set_cons_succ])
        refine takeF (i := 7) (v := ?_) rfl (by kernel_rfl) (fun _ _ _ h => h) (Or.inl ⟨by kernel_rfl, ?_⟩) (by assumption) ?_; rotate_left; (focus (intro w _; go_simp; (try with_reducible rfl); done)); (try simp only [Act.put, List.getElem_toArray, List.getElem_cons_succ, List.getElem_cons_zero, List.setIfInBounds_toArray, List.set_cons_zero, List.set_cons_succ])
        refine takeF (i := 8) (v := ?_) rfl (by kernel_rfl) (fun _ _ _ h => h) (Or.inl ⟨by kernel_rfl, ?_⟩) (by assumption) ?_; rotate_left; (focus (intro w _; go_simp; (try with_reducible rfl); done)); (try simp only [Act.put, List.getElem_toArray, List.getElem_cons_succ, List.getElem_cons_zero, List.setIfInBounds_toArray, List.set_cons_zero, List.set_cons_succ])
        refine takeF (i := 9) (v := ?_) rfl (by kernel_rfl) (fun _ _ _ h => h) (Or.inl ⟨by kernel_rfl, ?_⟩) (by assumption) ?_; rotate_left; (focus (intro w _; go_simp; (try with_reducible rfl); done)); (try simp only [Act.put, List.getElem_toArray, List.getElem_cons_succ, List.getElem_cons_zero, List.setIfInBounds_toArray, List.set_cons_zero, List.set_cons_succ])
        refine takeF (i := 10) (v := ?_) rfl (by kernel_rfl) (fun _ _ _ h => h) (Or.inl ⟨by kernel_rfl, ?_⟩) (by assumption) ?_; rotate_left; (focus (intro w _; go_simp; (try with_reducible rfl); done)); (try simp only [Act.put, List.getElem_toArray, List.getElem_cons_succ, List.getElem_cons_zero, List.setIfInBounds_toArray, List.set_cons_zero, List.set_cons_succ])
        clear hHeld0
        refine readyS (rs := [11]) (by kernel_rfl) (by simp) ?_
        refine ReadyS.consP rfl (by kernel_rfl) (fun K hK => ?_) ReadyS.nil
        (try simp only [List.getElem_toArray, List.getElem_cons_succ, List.getElem_cons_zero])
        go_simp
        rw [show (if e2 < E then (E : Int) else (e2 : Int)) = (X : Int) from by rw [← HX.out]; split <;> omega]
        refine hK.out _ _ ?_
        clear hK K
        (try simp only [Act.put, List.getElem_toArray, List.getElem_cons_succ, List.getElem_cons_zero, List.setIfInBounds_toArray, List.set_cons_zero, List.set_cons_succ])
        refine doneS (by kernel_rfl) ?_ _
        clear fz z2
        go_wp2
        exact ⟨⟨k + 1, P ++ [(e1, X)], by omega, by go_num, HNew.out, by rw [List.length_append, List.length_singleton]; have := Hn.out; have := HN0.out; omega, HM.out, HBm.out⟩, by simp [intOf]; omega⟩
      · by_cases h1 : B = e2 + 1
        · have HNew : Hid ((spanF ((L.take (k + 1)).map ivC)).reverse = P ++ [(e1, max e2 E)]) := Lib.hid (by
            rw [hS, hO0, List.reverse_append]
            show (if B ≤ e2 + 1 then _ else _ : List (Nat × Nat)).reverse = _
            rw [if_pos (by omega)]
            simp)
          clear hS
          have d1 : decide ((B : Int) ≤ e2) = false := decide_eq_false (by omega)
          have kw2 : IntKind.u64.wrap ((B : Int) - e2) = (B : Int) - e2 := by rw [IntKind.wrap_u64]; omega
          have d2 : decide ((B : Int) - e2 = 1) = true := decide_eq_true (by omega)
          have d3 : ((B : Int) - e2 == 1) = true := by rw [beq_iff_eq]; omega
          have l1 : e2 < B := by omega
          have l2 : ¬ (B ≤ e2) := by omega
          have l3 : decide (B ≤ e2) = false := decide_eq_false l2
          clear hle h1
          
          obtain ⟨X, hX⟩ : ∃ X, max e2 E = X := ⟨_, rfl⟩
          rw [hX] at HNew
          have HO0 := Lib.hid hO0
          have Hn := Lib.hid hn
          have HX := Lib.hid hX
          clear hn hO0 hX hN0
          go_upto_region 8 with (fail)
          have hd := below_drew1 (w := wc)
          have z2 := cell_up z1 hd
          have Ho3 := Lib.hid (own_below Ho2.out hd)
          have HB4 := Lib.hid (below_up HB3.out hd)
          refine beginS (S := fun W => W.cell? ⟨g0, n * 2 + 1, none⟩ = some (.int .u64 (e2 : Nat))) [11] (by kernel_rfl) z2 (fun hHeld0 => ?_)
          generalize (World.drew wc) = W0 at *
          have fz := free_block (own_typed Ho3.out g0 rfl).choose_spec (n * 2 + 1)
          have HM := Lib.hid (merged Ho3.out HO0.out Hn.out HN0.out (X := X))
          have HBm := Lib.hid (below_row HB4.out Ho3.out (n * 2 + 1) (.int .u64 (X : Nat)))
          clear hd z1
          refine takeF (i := 0) (v := ?_) rfl (by kernel_rfl) (fun _ _ _ h => h) (Or.inl ⟨by kernel_rfl, ?_⟩) (by assumption) ?_; rotate_left; (focus (intro w _; go_simp; (try with_reducible rfl); done)); (try simp only [Act.put, List.getElem_toArray, List.getElem_cons_succ, List.getElem_cons_zero, List.setIfInBounds_toArray, List.set_cons_zero, List.set_cons_succ])
          refine takeF (i := 1) (v := ?_) rfl (by kernel_rfl) (fun _ _ _ h => h) (Or.inl ⟨by kernel_rfl, ?_⟩) (by assumption) ?_; rotate_left; (focus (intro w _; go_simp; (try with_reducible rfl); done)); (try simp only [Act.put, List.getElem_toArray, List.getElem_cons_succ, List.getElem_cons_zero, List.setIfInBounds_toArray, List.set_cons_zero, List.set_cons_succ])
          refine takeF (i := 2) (v := ?_) rfl (by kernel_rfl) (fun _ _ _ h => h) (Or.inl ⟨by kernel_rfl, ?_⟩) (by assumption) ?_; rotate_left; (focus (intro w _; go_simp; (try with_reducible rfl); done)); (try simp only [Act.put, List.getElem_toArray, List.getElem_cons_succ, List.getElem_cons_zero, List.setIfInBounds_toArray, List.set_cons_zero, List.set_cons_succ])
          refine takeF (i := 3) (v := ?_) rfl (by kernel_rfl) (fun _ _ _ h => h) (Or.inl ⟨by kernel_rfl, ?_⟩) (by assumption) ?_; rotate_left; (focus (intro w _; go_simp; (try with_reducible rfl); done)); (try simp only [Act.put, List.getElem_toArray, List.getElem_cons_succ, List.getElem_cons_zero, List.setIfInBounds_toArray, List.set_cons_zero, List.set_cons_succ])
          refine takeF (i := 4) (v := ?_) rfl (by kernel_rfl) (fun _ _ _ h => h) (Or.inl ⟨by kernel_rfl, ?_⟩) (by assumption) ?_; rotate_left; (focus (intro w _; go_simp; (try with_reducible rfl); done)); (try simp only [Act.put, List.getElem_toArray, List.getElem_cons_succ, List.getElem_cons_zero, List.setIfInBounds_toArray, List.set_cons_zero, List.set_cons_succ])
          refine takeF (i := 5) (v := ?_) rfl (by kernel_rfl) (fun _ _ _ h => h) (Or.inl ⟨by kernel_rfl, ?_⟩) (by assumption) ?_; rotate_left; (focus (intro w _; go_simp; (try with_reducible rfl); done)); (try simp only [Act.put, List.getElem_toArray, List.getElem_cons_succ, List.getElem_cons_zero, List.setIfInBounds_toArray, List.set_cons_zero, List.set_cons_succ])
          refine takeH (i := 6) (v := ?_) rfl (by kernel_rfl) (fun _ _ _ h => h) (Or.inl ⟨by kernel_rfl, ?_⟩) (by assumption) ?_; rotate_left; (focus (intro w hSw; (try dsimp only at hSw); go_simp; (try with_reducible rfl); done)); (try simp only [Act.put, List.getElem_toArray, List.getElem_cons_succ, List.getElem_cons_zero, List.setIfInBounds_toArray, List.set_cons_zero, List.set_cons_succ])
          refine takeF (i := 7) (v := ?_) rfl (by kernel_rfl) (fun _ _ _ h => h) (Or.inl ⟨by kernel_rfl, ?_⟩) (by assumption) ?_; rotate_left; (focus (intro w _; go_simp; (try with_reducible rfl); done)); (try simp only [Act.put, List.getElem_toArray, List.getElem_cons_succ, List.getElem_cons_zero, List.setIfInBounds_toArray, List.set_cons_zero, List.set_cons_succ])
          refine takeF (i := 8) (v := ?_) rfl (by kernel_rfl) (fun _ _ _ h => h) (Or.inl ⟨by kernel_rfl, ?_⟩) (by assumption) ?_; rotate_left; (focus (intro w _; go_simp; (try with_reducible rfl); done)); (try simp only [Act.put, List.getElem_toArray, List.getElem_cons_succ, List.getElem_cons_zero, List.setIfInBounds_toArray, List.set_cons_zero, List.set_cons_succ])
          refine takeF (i := 9) (v := ?_) rfl (by kernel_rfl) (fun _ _ _ h => h) (Or.inl ⟨by kernel_rfl, ?_⟩) (by assumption) ?_; rotate_left; (focus (intro w _; go_simp; (try with_reducible rfl); done)); (try simp only [Act.put, List.getElem_toArray, List.getElem_cons_succ, List.getElem_cons_zero, List.setIfInBounds_toArray, List.set_cons_zero, List.set_cons_succ])
          refine takeF (i := 10) (v := ?_) rfl (by kernel_rfl) (fun _ _ _ h => h) (Or.inl ⟨by kernel_rfl, ?_⟩) (by assumption) ?_; rotate_left; (focus (intro w _; go_simp; (try with_reducible rfl); done)); (try simp only [Act.put, List.getElem_toArray, List.getElem_cons_succ, List.getElem_cons_zero, List.setIfInBounds_toArray, List.set_cons_zero, List.set_cons_succ])
          clear hHeld0
          refine readyS (rs := [11]) (by kernel_rfl) (by simp) ?_
          refine ReadyS.consP rfl (by kernel_rfl) (fun K hK => ?_) ReadyS.nil
          (try simp only [List.getElem_toArray, List.getElem_cons_succ, List.getElem_cons_zero])
          go_simp
          rw [show (if e2 < E then (E : Int) else (e2 : Int)) = (X : Int) from by rw [← HX.out]; split <;> omega]
          refine hK.out _ _ ?_
          clear hK K
          (try simp only [Act.put, List.getElem_toArray, List.getElem_cons_succ, List.getElem_cons_zero, List.setIfInBounds_toArray, List.set_cons_zero, List.set_cons_succ])
          refine doneS (by kernel_rfl) ?_ _
          clear fz z2
          go_wp2
          exact ⟨⟨k + 1, P ++ [(e1, X)], by omega, by go_num, HNew.out, by rw [List.length_append, List.length_singleton]; have := Hn.out; have := HN0.out; omega, HM.out, HBm.out⟩, by simp [intOf]; omega⟩
        · have HNew : Hid ((spanF ((L.take (k + 1)).map ivC)).reverse = O ++ [(B, E)]) := Lib.hid (by
            rw [hS, hO0, List.reverse_append]
            show (if B ≤ e2 + 1 then _ else _ : List (Nat × Nat)).reverse = _
            rw [if_neg (by omega)]
            simp)
          clear hS hO0
          have d1 : decide ((B : Int) ≤ e2) = false := decide_eq_false (by omega)
          have kw2 : IntKind.u64.wrap ((B : Int) - e2) = (B : Int) - e2 := by rw [IntKind.wrap_u64]; omega
          have d2 : decide ((B : Int) - e2 = 1) = false := decide_eq_false (by omega)
          have d3 : ((B : Int) - e2 == 1) = false := by rw [beq_eq_false_iff_ne]; omega
          have l1 : e2 < B := by omega
          have l2 : ¬ (B ≤ e2) := by omega
          have l3 : decide (B ≤ e2) = false := decide_eq_false l2
          clear hle h1 hN0 hn
          have Hrd := Lib.hid (rd_new wc #[.int .u64 (B : Nat), .int .u64 (E : Nat)] 42 ([(B, E)].flatMap sc) rfl)
          have hba := below_alloc1 wc (.cells #[.int .u64 (B : Nat), .int .u64 (E : Nat)] 42)
          have Ho3 := Lib.hid (own_below Ho2.out hba)
          have HB4 := Lib.hid (below_up HB3.out hba)
          clear hba
          go_wp2_with (at_builtin; refine wpList_app rfl _ _ 37 rfl w1.heap.size 42 (.agg #[.int .u64 0, .int .u64 0]) 2 16 Try.underlying37 info_sc rfl (by decide) (by decide) (.slice (some ⟨g0, 0, none⟩) N co) N (O.flatMap sc) rfl (some ⟨wc.heap.size, 0, none⟩) 1 1 ([(B, E)].flatMap sc) rfl Ho3.out rfl Hrd.out (flat_one sc_one _) (by omega) HB4.out.size ?_)
          intro A1 c1 w9 hown hgrow hat
          have Ho4 : Hid (w9.ownsRow w1.heap.size 42 2 (.slice A1 (N + 1) c1) (O ++ [(B, E)]).length ((O ++ [(B, E)]).flatMap sc)) := Lib.hid (by rw [List.length_append, List.length_singleton, HN.out, List.flatMap_append]; exact hown)
          have HB5 := Lib.hid (below_grown HB4.out hgrow (fun k e => own_base Ho3.out k e))
          clear hown hgrow hat
          go_wp2
          exact ⟨⟨k + 1, O ++ [(B, E)], by omega, by go_num, HNew.out, by rw [List.length_append, List.length_singleton]; have := HN.out; omega, Ho4.out, HB5.out⟩, by simp [intOf]; omega⟩
  · have hkl : k = L.length := by omega
    subst hkl
    have d : decide ((L.length : Int) < L.length) = false := decide_eq_false (by omega)
    have dn : decide (L.length < L.length) = false := decide_eq_false (by omega)
    have HE : Hid ((spanF (L.map ivC)).reverse = O) := Lib.hid (by have := HOe.out; rwa [List.take_length] at this)
    have HBB := Lib.hid (below_up HB1.out HB.out)
    go_wp2
    go_ret
    exact ⟨_, rfl, by rw [HE.out]; exact own_lower Ho.out HB1.out.size, HBB.out⟩
end Go.Proofs.Ytdomngpkahgoiaa.Ti
