/- The walk over tiles.Order. -/
import Derived.Test.YtdomngpkahgoiaaTi10
namespace Go.Proofs.Ytdomngpkahgoiaa.Ti
open Go.RowKit Rg St Zw
set_option linter.unusedVariables false
set_option linter.unusedSimpArgs false
theorem ins_nil (vf : Value) (W : World) : Calls Try.prog 86 #[.slice none 0 0, .int .i64 0, .int .i64 0, vf] W fun e w' => e = .returned (.tuple #[]) ∧ W = w' := by
  go_enter Try.func86, Try.ntmps86
  go_wp2_with fail
  go_loopw [8] (fun vi W' => vi = .int .i64 1 ∧ W' = W) (fun _ _ => 0)
  case atStart => exact ⟨rfl, rfl⟩
  case round =>
  obtain ⟨rfl, rfl⟩ := hrel
  go_wp2
  go_end0
  exact ⟨rfl, rfl⟩
theorem stable_nil (vf : Value) (W : World) : Calls Try.prog 75 #[.slice none 0 0, .int .i64 0, vf] W fun e w' => e = .returned (.tuple #[]) ∧ W = w' := by
  have HI := fun W => ins_nil vf W
  go_enter Try.func75, Try.ntmps75
  go_wp2_with fail
  go_loopw [7, 8] (fun va vb W' => va = .int .i64 0 ∧ vb = .int .i64 20 ∧ W' = W) (fun _ _ _ => 0)
  case atStart => exact ⟨rfl, rfl, rfl⟩
  case round =>
  obtain ⟨rfl, rfl, hw⟩ := hrel
  replace hw := hw.symm; subst hw
  go_wp2_with fail
  (with_reducible refine (HI _).mono ?_); rintro e w1 ⟨rfl, hw⟩
  subst hw
  go_wp2_with fail
  go_loopw [6] (fun vs W' => vs = .int .i64 20 ∧ W' = W) (fun _ _ => 0)
  case atStart => exact ⟨rfl, rfl⟩
  case round =>
  obtain ⟨rfl, rfl⟩ := hrel
  go_wp2
  go_end0
  exact ⟨rfl, rfl⟩
theorem sort_nil (vf : Value) (W : World) : Calls Try.prog 49 #[.slice none 0 0, vf] W fun e w' => e = .returned (.tuple #[]) ∧ W = w' := by
  have HI := fun W => stable_nil vf W
  go_enter Try.func49, Try.ntmps49
  go_wp2_with fail
  (with_reducible refine (HI _).mono ?_); rintro e w1 ⟨rfl, rfl⟩
  go_wp2
  go_end0
  exact ⟨rfl, rfl⟩
def ordL (l : List CeS) : List CeS := (l.map CeS.fix).mergeSort (fun a b => !StC.ltc cmC b a)
theorem ordL_len (l : List CeS) : (ordL l).length = l.length := by unfold ordL; rw [List.length_mergeSort, List.length_map]
theorem map_snoc (f : CeS → CeS) (l : List CeS) (k : Nat) (h : k < l.length) : (l.take (k + 1)).map f = (l.take k).map f ++ [f l[k]] := by
  rw [List.take_succ_eq_append_getElem h, List.map_append]; rfl
set_option maxHeartbeats 4000000 in
set_option maxRecDepth 100000 in
theorem order_ok (v : Value) (l : List CeS) (w : World) (hv : CRow w v l) (hf : ∀ c ∈ l, c.fine) (hl : l.length ≤ 1000000) :
    Calls Try.prog 20 #[v] w fun e w' => ∃ v', e = .returned v' ∧ w'.ownsRow w.heap.size 32 3 v' (ordL l).length ((ordL l).flatMap CeS.cells) ∧ Below w.heap.size w w' := by
  have HV := Lib.hid hv
  have HF := Lib.hid hf
  have HA := Lib.hid (fun (c : CeS) (h : c.fine) W => atc_ok c W h)
  have HSN := Lib.hid (fun W => sort_nil (.func (.func 50) #[] #[]) W)
  obtain ⟨A, cap, rfl, _, _⟩ := hv
  clear hf
  go_enter Try.func20, Try.ntmps20
  go_wp2_with fail
  go_loopw [3, 8] (fun vo vi W => ∃ (k : Nat), k ≤ l.length ∧ vi = .int .i64 k ∧ W.ownsRow w.heap.size 32 3 vo ((l.take k).map CeS.fix).length (((l.take k).map CeS.fix).flatMap CeS.cells) ∧ Below w.heap.size w W) (fun _ vi _ => l.length - (intOf vi).toNat)
  case atStart => exact ⟨0, by omega, rfl, ⟨rfl, .inl ⟨rfl, rfl⟩⟩, Below.refl _ _⟩
  case round =>
  obtain ⟨k, hk, rfl, ho, hb⟩ := hrel
  obtain ⟨Ao, co, rfl, hco, _, _, hA0⟩ := own_rd ho
  have Ho := Lib.hid ho
  have HB := Lib.hid hb
  clear ho hb
  by_cases hlt : k < l.length
  · have d : decide ((k : Int) < l.length) = true := decide_eq_true (by omega)
    have dn : decide (k < l.length) = true := decide_eq_true hlt
    have bk : (k : Int) < l.length := by omega
    obtain ⟨g, o, rfl, f0, f1, f2⟩ := c_at (HV.out.below HB.out) hlt
    have hs := map_snoc CeS.fix l k hlt
    have hfx := HF.out _ (List.getElem_mem hlt)
    have HAx := Lib.hid (fun W => HA.out l[k] hfx W)
    clear hfx
    generalize l[k] = x at *
    have hOl : ((l.take k).map CeS.fix).length = k := by simp; omega
    have hOle : ((l.take k).map CeS.fix).length ≤ 1000000 := by omega
    clear hOl
    generalize hO : (l.take k).map CeS.fix = O at *
    generalize x.fix = y at *
    have HS := Lib.hid hs
    have Ho1 := Lib.hid (own_below Ho.out (below_alloc1 wr (.cells #[.int .u32 (x.x : Nat), .int .u32 (x.y : Nat), .int .i64 x.l] 32)))
    have HB1 := Lib.hid (below_up HB.out (below_alloc1 wr (.cells #[.int .u32 (x.x : Nat), .int .u32 (x.y : Nat), .int .i64 x.l] 32)))
    have q0 := ccell (alloc_at (w := wr) (.cells #[.int .u32 (x.x : Nat), .int .u32 (x.y : Nat), .int .i64 x.l] 32) rfl)
    clear hs hA0 hO
    go_wp2_with fail
    (with_reducible refine (HAx.out _).mono ?_); rintro e w2 ⟨rfl, hb2⟩
    have Ho2 := Lib.hid (own_below Ho1.out hb2)
    have HB2 := Lib.hid (below_up HB1.out hb2)
    have Hrd := Lib.hid (rd_new w2 #[.int .u32 (y.x : Nat), .int .u32 (y.y : Nat), .int .i64 y.l] 32 ([y].flatMap CeS.cells) rfl)
    have hba := below_alloc1 w2 (.cells #[.int .u32 (y.x : Nat), .int .u32 (y.y : Nat), .int .i64 y.l] 32)
    have Ho3 := Lib.hid (own_below Ho2.out hba)
    have HB3 := Lib.hid (below_up HB2.out hba)
    clear hb2 hba f0 f1 f2 q0
    go_wp2_with (at_builtin; refine wpList_app rfl _ _ 27 rfl w.heap.size 32 (.agg #[.int .u32 0, .int .u32 0, .int .i64 0]) 3 16 Try.underlying27 info_ce rfl (by decide) (by decide) (.slice Ao O.length co) O.length (O.flatMap CeS.cells) rfl (some ⟨w2.heap.size, 0, none⟩) 1 1 ([y].flatMap CeS.cells) rfl Ho3.out rfl Hrd.out (flat_one CeS.cells_one _) (by omega) HB3.out.size ?_)
    intro A1 c1 w1 hown hgrow hat
    have Ho4 : Hid (w1.ownsRow w.heap.size 32 3 (.slice A1 (O.length + 1) c1) (O ++ [y]).length ((O ++ [y]).flatMap CeS.cells)) := Lib.hid (by rw [List.length_append, List.length_singleton, List.flatMap_append]; exact hown)
    have HB5 := Lib.hid (below_grown HB3.out hgrow (fun k e => own_base Ho3.out k e))
    clear hown hgrow hat
    go_wp2
    exact ⟨⟨k + 1, by omega, by go_num, by rw [HS.out]; exact Ho4.out, HB5.out⟩, by simp [intOf]; omega⟩
  · have hkl : k = l.length := by omega
    subst hkl
    have d : decide ((l.length : Int) < l.length) = false := decide_eq_false (by omega)
    have dn : decide (l.length < l.length) = false := decide_eq_false (by omega)
    have ho := Ho.out
    rw [List.take_length] at ho hA0 hco
    have hfa : ∀ c ∈ l.map CeS.fix, c.fine := fun c hc => by
      obtain ⟨z, hz, rfl⟩ := List.mem_map.1 hc
      exact (fix_good (HF.out z hz)).1
    have hml : (l.map CeS.fix).length ≤ 4398046511104 := by rw [List.length_map]; omega
    have HOrd : Hid (ordL l = (l.map CeS.fix).mergeSort (fun a b => !StC.ltc cmC b a)) := Lib.hid rfl
    have HLen := Lib.hid (ordL_len l)
    have hlm : ((l.take l.length).map CeS.fix).length = (l.map CeS.fix).length := by rw [List.take_length]
    rw [hlm]
    clear hlm
    have hll : (l.map CeS.fix).length = l.length := List.length_map ..
    generalize hM : l.map CeS.fix = M at *
    rcases Ao with _ | ⟨⟨g, off, spot⟩⟩
    · have h0 : M.length = 0 := by
        rcases ho.2 with ⟨e, _⟩ | ⟨g, cap', cur, e, _⟩
        · injection e
        · cases e
      have hM0 : M = [] := List.eq_nil_of_length_eq_zero h0
      have hc0 : co = 0 := by
        rcases ho.2 with ⟨e, _⟩ | ⟨g, cap', cur, e, _⟩
        · injection e
        · cases e
      rw [h0, hc0]
      have HO0 : Hid (ordL l = []) := Lib.hid (by rw [HOrd.out, hM0]; simp)
      have HB0 := Lib.hid HB.out
      clear ho hfa hml hA0
      go_wp2_with fail
      (with_reducible refine (HSN.out _).mono ?_); rintro e w3 ⟨rfl, hw⟩
      subst hw
      go_wp2
      go_ret
      exact ⟨_, rfl, by rw [HO0.out]; exact ⟨rfl, .inl ⟨rfl, rfl⟩⟩, HB0.out⟩
    · obtain ⟨e1, e2, e3⟩ := hA0 _ rfl
      simp only at e1 e2
      subst e1 e2
      have HSo := Lib.hid (StC.sort_ok cmc_ok swo_c (fun _ _ _ _ => trivial) runs_c wr trivial M hfa hml ho)
      have hg := own_base ho g e3
      have hgl := own_lt ho g e3
      clear ho hfa hml e3 hll
      go_wp2_with fail
      (with_reducible refine HSo.out.mono ?_); rintro e w3 ⟨rfl, ho3, hf3⟩
      have HO3 := Lib.hid ho3
      have HB4 : Hid (Below w.heap.size w w3) := Lib.hid (((Fr.of_below (S := fun k => w.heap.size ≤ k) HB.out).trans hf3 (fun k _ h => by omega)).toBelow (fun _ h => h) (Nat.le_refl _))
      clear ho3 hf3
      go_wp2
      go_ret
      exact ⟨_, rfl, by rw [HOrd.out, List.length_mergeSort]; exact HO3.out, HB4.out⟩
end Go.Proofs.Ytdomngpkahgoiaa.Ti
