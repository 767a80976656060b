/- The walks over croftlaw29.find, croftplain.Pick, model.New, model.Same; package model of nobody. -/
import Derived.Test.YtdomngpkahgoiaaMd3
import Derived.Test.YtdomngpkahgoiaaPeq
namespace Go.Proofs.Ytdomngpkahgoiaa.Md
open Go.RowKit Pt St Rg Ti Wi
set_option linter.unusedVariables false
set_option linter.unusedSimpArgs false
set_option maxHeartbeats 1000000 in
theorem find_ok (v : Value) (l : List PtS) (id : Int) (w : World) (hv : PRow w v l) (hl : l.length ≤ 140737488355328) :
    Calls Try.prog 27 #[v, .int .i64 id] w fun e w' => e = .returned (.int .i64 (at_ l id)) ∧ w = w' := by
  have HV := Lib.hid hv
  obtain ⟨A, cap, rfl, _, _⟩ := hv
  unfold at_
  go_enter Try.func27, Try.ntmps27
  go_wp2_with fail
  go_loop [5] (fun vi => ∃ k : Nat, k ≤ l.length ∧ vi = .int .i64 k ∧ (l.take k).any (fun x : PtS => x.id == id) = false) (fun vi => l.length - (intOf vi).toNat)
  case atStart => exact ⟨0, by omega, rfl, by simp⟩
  case round =>
  obtain ⟨k, hk, rfl, hany⟩ := hrel
  have HO := Lib.hid hany; clear hany
  by_cases hlt : k < l.length
  · have d : decide ((k : Int) < l.length) = true := decide_eq_true (by omega)
    have dn : decide (k < l.length) = true := decide_eq_true hlt
    have bk : (k : Int) < l.length := by omega
    obtain ⟨g, o, rfl, ⟨c0, c1, c2, c3⟩⟩ := p_at HV.out hlt
    have hs := any_take_succ (fun x : PtS => x.id == id) l k hlt
    rw [HO.out, Bool.false_or] at hs
    have hat := fidx_at (fun x : PtS => x.id == id) l k hlt HO.out
    generalize l[k] = x at *
    have HS := Lib.hid (And.intro hs hat); clear hs hat c1 c2 c3
    by_cases hid : x.id = id
    · have e1 : (x.id == id) = true := by rw [beq_iff_eq]; exact hid
      have HE := Lib.hid (HS.out.2 e1)
      clear hid
      go_wp2
      go_ret
      exact ⟨ret_int HE.out.symm, rfl⟩
    · have e1 : (x.id == id) = false := by rw [beq_eq_false_iff_ne]; exact hid
      have HE := Lib.hid (HS.out.1.trans e1)
      clear hid
      go_wp2
      go_round
      case rel => exact ⟨k + 1, by omega, by go_num, HE.out⟩
      case measure => simp [intOf]; omega
  · have hkl : k = l.length := by omega
    subst hkl
    have d : decide ((l.length : Int) < l.length) = false := decide_eq_false (by omega)
    have dn : decide (l.length < l.length) = false := decide_eq_false (by omega)
    go_wp2
    go_ret
    have := HO.out
    rw [List.take_length] at this
    exact ⟨ret_int (fidx_none _ _ this).symm, rfl⟩
theorem filt_snoc (p : PtS → Bool) (l : List PtS) (k : Nat) (h : k < l.length) : (l.take (k + 1)).filter p = (l.take k).filter p ++ if p l[k] then [l[k]] else [] := by
  rw [List.take_succ_eq_append_getElem h, List.filter_append]
  congr 1
  cases hp : p l[k] <;> simp [hp]
set_option maxHeartbeats 4000000 in
set_option maxRecDepth 100000 in
theorem pick_ok (v : Value) (l : List PtS) (r : RcS) (w : World) (hv : PRow w v l) (hl : l.length ≤ 1000000) :
    Calls Try.prog 35 #[v, rcv r] w fun e w' => ∃ v', e = .returned v' ∧ w'.ownsRow w.heap.size 56 4 v' (l.filter (fun p => inR r p.x p.y)).length ((l.filter (fun p => inR r p.x p.y)).flatMap PtS.cells) ∧ Below w.heap.size w w' := by
  have HV := Lib.hid hv
  have HHs := Lib.hid (fun p W => hasp_ok r p W)
  have hq := alloc_at (w := w) (.cells #[.int .u32 (r.x0 : Nat), .int .u32 (r.y0 : Nat), .int .u32 (r.x1 : Nat), .int .u32 (r.y1 : Nat)] 24) rfl
  have hb := below_alloc1 w (.cells #[.int .u32 (r.x0 : Nat), .int .u32 (r.y0 : Nat), .int .u32 (r.x1 : Nat), .int .u32 (r.y1 : Nat)] 24)
  have H0 := Lib.hid (And.intro hq hb)
  obtain ⟨A, cap, rfl, _, _⟩ := hv
  clear hq hb
  obtain ⟨pf, hpf⟩ : ∃ pf : PtS → Bool, (fun p => inR r p.x p.y) = pf := ⟨_, rfl⟩
  have HPf : Hid (∀ p, inR r p.x p.y = pf p) := Lib.hid (fun p => by rw [← hpf])
  rw [hpf]
  clear hpf
  go_enter Try.func35, Try.ntmps35
  go_wp2_with fail
  go_loopw [5, 6] (fun vo vi W => ∃ (k : Nat) (O : List PtS), k ≤ l.length ∧ vi = .int .i64 k ∧ (l.take k).filter pf = O ∧ W.ownsRow w.heap.size 56 4 vo O.length (O.flatMap PtS.cells) ∧ W.heap[w.heap.size]? = some (.cells #[.int .u32 (r.x0 : Nat), .int .u32 (r.y0 : Nat), .int .u32 (r.x1 : Nat), .int .u32 (r.y1 : Nat)] 24 (0, 0)) ∧ Below w.heap.size w W) (fun _ vi _ => l.length - (intOf vi).toNat)
  case atStart => exact ⟨0, [], by omega, rfl, by simp, ⟨rfl, .inl ⟨rfl, rfl⟩⟩, H0.out⟩
  case round =>
  obtain ⟨k, O, hk, rfl, hO, ho, hq, hb⟩ := hrel
  have hOl : O.length ≤ k := by rw [← hO]; exact Nat.le_trans (List.length_filter_le _ _) (by rw [List.length_take]; omega)
  obtain ⟨Ao, co, rfl, _, _, _, _⟩ := own_rd ho
  have HO := Lib.hid hO
  have Ho := Lib.hid ho
  have HQ := Lib.hid hq
  have HB := Lib.hid hb
  clear hO ho hq hb
  by_cases hlt : k < l.length
  · have d : decide ((k : Int) < l.length) = true := decide_eq_true (by omega)
    have dn : decide (k < l.length) = true := decide_eq_true hlt
    have bk : (k : Int) < l.length := by omega
    have HX : Hid (∀ W', Below wr.heap.size wr W' → ∃ g o, A = some ⟨g, o, none⟩ ∧ AtP W' g o k (l[k]'hlt)) := Lib.hid (fun W' hb => p_at (HV.out.below (below_up HB.out hb)) hlt)
    have hs := filt_snoc pf l k hlt
    rw [HO.out] at hs
    generalize l[k] = x at *
    have HS := Lib.hid hs
    clear hs
    obtain ⟨g, o, rfl, _⟩ := HX.out _ (Below.refl _ _)
    have HX2 : Hid (∀ W', Below wr.heap.size wr W' → AtP W' g o k x) := Lib.hid (fun W' hb => by
      obtain ⟨g1, o1, e, f⟩ := HX.out _ hb
      cases e; exact f)
    clear HX
    have HHx := Lib.hid (fun W => HHs.out x W)
    rw [HPf.out x] at HHx
    go_upto_region 5 with (fail)
    go_cut [18] (fun v18 wx => v18 = .bool (pf x) ∧ Below wr.heap.size wr wx)
    case first =>
      have hd := below_drew1 (w := wr)
      have HD := Lib.hid hd
      have f0 := HX2.out _ hd
      have q0 := cells4 (block_up HQ.out hd)
      refine beginS (S := fun W => AtP W g o k x ∧ (W.cell? ⟨w.heap.size, 0, none⟩ = some (.int .u32 (r.x0 : Nat)) ∧ W.cell? ⟨w.heap.size, 1, none⟩ = some (.int .u32 (r.y0 : Nat)) ∧ W.cell? ⟨w.heap.size, 2, none⟩ = some (.int .u32 (r.x1 : Nat)) ∧ W.cell? ⟨w.heap.size, 3, none⟩ = some (.int .u32 (r.y1 : Nat)))) [] (by kernel_rfl) ⟨f0, q0⟩ (fun hHeld0 => ?_)
      generalize (World.drew wr) = W0 at *
      clear f0 hd q0
      refine takeH (i := 0) (v := ?_) rfl (by kernel_rfl) (fun _ _ _ h => h) (Or.inl ⟨by kernel_rfl, ?_⟩) (by assumption) ?_; rotate_left; (focus (intro w hSw; (try dsimp only at hSw); go_simp; (try with_reducible rfl); done)); (try simp only [Act.put, List.getElem_toArray, List.getElem_cons_succ, List.getElem_cons_zero, List.setIfInBounds_toArray, List.set_cons_zero, List.set_cons_succ])
      refine takeF (i := 1) (v := ?_) rfl (by kernel_rfl) (fun _ _ _ h => h) (Or.inl ⟨by kernel_rfl, ?_⟩) (by assumption) ?_; rotate_left; (focus (intro w _; go_simp; (try with_reducible rfl); done)); (try simp only [Act.put, List.getElem_toArray, List.getElem_cons_succ, List.getElem_cons_zero, List.setIfInBounds_toArray, List.set_cons_zero, List.set_cons_succ])
      refine takeF (i := 2) (v := ?_) rfl (by kernel_rfl) (fun _ _ _ h => h) (Or.inl ⟨by kernel_rfl, ?_⟩) (by assumption) ?_; rotate_left; (focus (intro w _; go_simp; (try with_reducible rfl); done)); (try simp only [Act.put, List.getElem_toArray, List.getElem_cons_succ, List.getElem_cons_zero, List.setIfInBounds_toArray, List.set_cons_zero, List.set_cons_succ])
      refine takeF (i := 3) (v := ?_) rfl (by kernel_rfl) (fun _ _ _ h => h) (Or.inl ⟨by kernel_rfl, ?_⟩) (by assumption) ?_; rotate_left; (focus (intro w _; go_simp; (try with_reducible rfl); done)); (try simp only [Act.put, List.getElem_toArray, List.getElem_cons_succ, List.getElem_cons_zero, List.setIfInBounds_toArray, List.set_cons_zero, List.set_cons_succ])
      refine takeH (i := 4) (v := ?_) rfl (by kernel_rfl) (fun _ _ _ h => h) (Or.inl ⟨by kernel_rfl, ?_⟩) (by assumption) ?_; rotate_left; (focus (intro w hSw; (try dsimp only at hSw); go_simp; (try with_reducible rfl); done)); (try simp only [Act.put, List.getElem_toArray, List.getElem_cons_succ, List.getElem_cons_zero, List.setIfInBounds_toArray, List.set_cons_zero, List.set_cons_succ])
      clear hHeld0
      refine readyS (rs := [5]) (by kernel_rfl) (by simp) ?_
      refine ReadyS.consH rfl (fun K hK => ?_) ReadyS.nil
      (try simp only [List.getElem_toArray, List.getElem_cons_succ, List.getElem_cons_zero])
      go_simp
      (with_reducible refine (HHx.out _).mono ?_); rintro e W1 ⟨rfl, hb1⟩
      have HD1 := Lib.hid (below_up HD.out hb1)
      refine hK.out _ _ ⟨HX2.out _ HD1.out, cells4 (block_up HQ.out HD1.out)⟩ (fun hHeld => ?_)
      clear hK K hb1 hHeld
      (try simp only [Act.put, List.getElem_toArray, List.getElem_cons_succ, List.getElem_cons_zero, List.setIfInBounds_toArray, List.set_cons_zero, List.set_cons_succ])
      refine doneS (by kernel_rfl) ?_ _
      go_wp2
      go_meet
      case rel => exact ⟨rfl, HD1.out⟩
    case rest =>
    obtain ⟨rfl, hbc⟩ := hcut
    have Ho2 := Lib.hid (own_below Ho.out hbc)
    have HQ2 := Lib.hid (block_up HQ.out hbc)
    have HB2 := Lib.hid (below_up HB.out hbc)
    obtain ⟨f0, f1, f2, f3⟩ := HX2.out _ hbc
    clear hbc
    cases hpx : pf x with
    | true =>
      rw [hpx, if_pos rfl] at HS
      have HX3 := Lib.hid hpx
      have Hrd := Lib.hid (rd_new wc #[.int .i64 x.id, .int .u32 (x.x : Nat), .int .u32 (x.y : Nat), .string x.d] 56 ([x].flatMap PtS.cells) rfl)
      have hba := below_alloc1 wc (.cells #[.int .i64 x.id, .int .u32 (x.x : Nat), .int .u32 (x.y : Nat), .string x.d] 56)
      have Ho3 := Lib.hid (own_below Ho2.out hba)
      have HQ3 := Lib.hid (block_up HQ2.out hba)
      have HB3 := Lib.hid (below_up HB2.out hba)
      clear hpx hba
      go_wp2_with (at_builtin; refine wpList_app rfl _ _ 49 rfl w.heap.size 56 (.agg #[.int .i64 0, .int .u32 0, .int .u32 0, .string ⟨#[]⟩]) 4 32 Try.underlying49 info_pt4 rfl (by decide) (by decide) (.slice Ao O.length co) O.length (O.flatMap PtS.cells) rfl (some ⟨wc.heap.size, 0, none⟩) 1 1 ([x].flatMap PtS.cells) rfl Ho3.out rfl Hrd.out (flat_one PtS.cells_one _) (by omega) HB3.out.size ?_)
      intro A1 c1 w1 hown hgrow hat
      have Ho4 : Hid (w1.ownsRow w.heap.size 56 4 (.slice A1 (O.length + 1) c1) (O ++ [x]).length ((O ++ [x]).flatMap PtS.cells)) := Lib.hid (by rw [List.length_append, List.length_singleton, List.flatMap_append]; exact hown)
      have HQ4 := Lib.hid (blk_grown HQ3.out Ho3.out hgrow (by decide))
      have HB4 := Lib.hid (below_grown HB3.out hgrow (fun k e => own_base Ho3.out k e))
      clear hown hgrow hat
      go_wp2
      exact ⟨⟨k + 1, O ++ [x], by omega, by go_num, HS.out, Ho4.out, HQ4.out, HB4.out⟩, by simp [intOf]; omega⟩
    | false =>
      rw [hpx, if_neg (by decide), List.append_nil] at HS
      clear hpx
      go_wp2
      exact ⟨⟨k + 1, O, by omega, by go_num, HS.out, Ho2.out, HQ2.out, HB2.out⟩, by simp [intOf]; omega⟩
  · have hkl : k = l.length := by omega
    subst hkl
    have d : decide ((l.length : Int) < l.length) = false := decide_eq_false (by omega)
    have dn : decide (l.length < l.length) = false := decide_eq_false (by omega)
    have HE := Lib.hid HO.out
    rw [List.take_length] at HE
    go_wp2
    go_ret
    exact ⟨_, rfl, by rw [HE.out]; exact Ho.out, HB.out⟩
theorem same_ok (v1 v2 : Value) (l1 l2 : List PtS) (w : World) (h1 : PRow w v1 l1) (h2 : PRow w v2 l2) (b1 : l1.length ≤ 140737488355328) (b2 : l2.length ≤ 140737488355328) :
    Calls Try.prog 38 #[v1, v2] w fun e w' => e = .returned (.bool (eqL l1 l2)) ∧ Below w.heap.size w w' := by
  have HE := Lib.hid (equal_ok v1 v2 l1 l2 w h1 h2 b1 b2)
  obtain ⟨A1, c1, rfl, _, _⟩ := h1
  obtain ⟨A2, c2, rfl, _, _⟩ := h2
  obtain ⟨R, hR⟩ : ∃ r, eqL l1 l2 = r := ⟨_, rfl⟩
  rw [hR] at HE ⊢
  clear hR
  go_enter Try.func38, Try.ntmps38
  go_wp2_with fail
  (with_reducible refine HE.out.mono ?_); rintro e w1 ⟨rfl, hb⟩
  have H1 := Lib.hid hb; clear hb
  go_wp2
  go_ret
  exact ⟨rfl, H1.out⟩
theorem range_no {W : World} {p : Value} (h : Nob W p) (r : RcS) : Calls Try.prog 34 #[p, rcv r] W fun e w' => e = .returned (.slice none 0 0) ∧ Below W.heap.size W w' := by
  have hb1 := below_alloc1 W (.cells #[.int .u32 (r.x0 : Nat), .int .u32 (r.y0 : Nat), .int .u32 (r.x1 : Nat), .int .u32 (r.y1 : Nat)] 24)
  have HQ := Lib.hid (alloc_at (w := W) (.cells #[.int .u32 (r.x0 : Nat), .int .u32 (r.y0 : Nat), .int .u32 (r.x1 : Nat), .int .u32 (r.y1 : Nat)] 24) rfl)
  have HP := Lib.hid (points_no (h.below hb1))
  have HB := Lib.hid hb1
  have HPI := fun (W2 : World) (hcp : CPr W.heap.size r W2) => pidxg_ok (range1_ok W.heap.size r) (fun W W' hc hb => block_up hc hb) runs_range hcp (.slice none 0 0) [] (srd_nil _ _ _) (by simp)
  have HN := Lib.hid (pdelf_nil (.func (.func 63) #[] #[.pointer (some ⟨W.heap.size, 0, none⟩)]) _ (HPI _ HQ.out))
  clear h hb1 HPI
  go_enter Try.func34, Try.ntmps34
  go_wp2_with fail
  (with_reducible refine HP.out.mono ?_); rintro e w1 ⟨rfl, hw⟩
  subst hw
  go_wp2_with fail
  (with_reducible refine HN.out.mono ?_); rintro e w2 ⟨rfl, hb2⟩
  have H2 := Lib.hid (below_up HB.out hb2)
  clear hb2
  go_wp2
  go_ret
  exact ⟨rfl, H2.out⟩
set_option maxHeartbeats 2000000 in
theorem new_ok (v : Value) (l : List PtS) (w : World) (hv : PRow w v l) (hl : l.length ≤ 100000) :
    Calls Try.prog 24 #[v] w fun e w' => ∃ u, e = .returned (.pointer (some ⟨w.heap.size, 0, none⟩)) ∧ MdV w' w.heap.size w.heap.size u (l.foldl (fun o p => insL p o) []) ∧ Below w.heap.size w w' := by
  have HV := Lib.hid hv
  obtain ⟨A, cap, rfl, _, _⟩ := hv
  have hq := alloc_at (w := w) (.cells #[.slice none 0 0, .bool true] 73) rfl
  have hb := below_alloc1 w (.cells #[.slice none 0 0, .bool true] 73)
  have H0 : Hid (MdV _ w.heap.size w.heap.size (.slice none 0 0) [] ∧ _) := Lib.hid (And.intro ⟨hq, ⟨rfl, .inl ⟨rfl, rfl⟩⟩⟩ hb)
  clear hq hb
  have HLn : Hid (∀ (a b : List PtS), (a.foldl (fun o p => insL p o) b).length ≤ b.length + a.length) := Lib.hid (fun a => by
    induction a with
    | nil => intro b; simp
    | cons x a ih =>
      intro b
      have h1 := ih (insL x b)
      have h2 : (insL x b).length ≤ b.length + 1 := by unfold insL; split <;> simp [byId_length]
      rw [List.foldl_cons, List.length_cons]; omega)
  go_enter Try.func24, Try.ntmps24
  go_wp2_with fail
  go_loopw [10] (fun vi W => ∃ (k : Nat) (u : Value), vi = .int .i64 k ∧ k ≤ l.length ∧ MdV W w.heap.size w.heap.size u ((l.take k).foldl (fun o p => insL p o) []) ∧ Below w.heap.size w W) (fun vi _ => l.length - (intOf vi).toNat)
  case atStart => exact ⟨0, .slice none 0 0, rfl, Nat.zero_le _, H0.out⟩
  case round =>
  obtain ⟨k, u, rfl, hk, hM, hB⟩ := hrel
  have HM := Lib.hid hM
  have HB := Lib.hid hB
  clear hM hB
  by_cases hlt : k < l.length
  · have d : decide ((k : Int) < l.length) = true := decide_eq_true (by omega)
    have dn : decide (k < l.length) = true := decide_eq_true hlt
    have bk : (k : Int) < l.length := by omega
    obtain ⟨g, o, rfl, ⟨c0, c1, c2, c3⟩⟩ := p_at (HV.out.below HB.out) hlt
    have hs : (l.take (k + 1)).foldl (fun o p => insL p o) [] = insL l[k] ((l.take k).foldl (fun o p => insL p o) []) := by rw [List.take_succ_eq_append_getElem hlt, List.foldl_append]; rfl
    generalize l[k] = x at *
    have hll : ((l.take k).foldl (fun o p => insL p o) []).length ≤ 1000000 := by
      have := HLn.out (l.take k) []
      rw [List.length_take, List.length_nil] at this; omega
    generalize (l.take k).foldl (fun o p => insL p o) [] = M at *
    have HS := Lib.hid hs
    have hba := below_alloc1 wr (.cells #[.int .i64 x.id, .int .u32 (x.x : Nat), .int .u32 (x.y : Nat), .string x.d] 56)
    have HB1 := Lib.hid (below_up HB.out hba)
    have HIn := Lib.hid (insert_ok (HM.out.below hba) HB1.out.size hll x)
    clear hs hba hll
    go_wp2_with fail
    (with_reducible refine HIn.out.mono ?_); rintro e w2 ⟨u2, rfl, hM2, hF2, _⟩
    have HM2 := Lib.hid hM2
    have HB2 := Lib.hid (((Fr.of_below (S := fun k => w.heap.size ≤ k) HB1.out).trans hF2 (fun k _ h => by rw [h]; exact Nat.le_refl _)).toBelow (fun _ h => h) (Nat.le_refl _))
    clear hM2 hF2
    go_wp2
    exact ⟨⟨k + 1, u2, by go_num, by omega, by rw [HS.out]; exact HM2.out, HB2.out⟩, by simp [intOf]; omega⟩
  · have hkl : k = l.length := by omega
    subst hkl
    have d : decide ((l.length : Int) < l.length) = false := decide_eq_false (by omega)
    have dn : decide (l.length < l.length) = false := decide_eq_false (by omega)
    have HE := HM
    rw [List.take_length] at HE
    clear HM
    go_wp2
    go_ret
    exact ⟨u, rfl, HE.out, HB.out⟩
end Go.Proofs.Ytdomngpkahgoiaa.Md
