/- The walk over node.body. -/
import Derived.Test.YthpnlgdcijmocaaNd6
import Derived.Test.YthpnlgdcijmocaaNd7
import Derived.Laws.OwnMore
namespace Go.Proofs.Ythpnlgdcijmocaa.Nd
open Go.RowKit Lt Pt Rg
set_option linter.unusedVariables false
set_option linter.unusedSimpArgs false
theorem infoN_pt : (Try.prog.info? 58).map (fun i => (i.zero, i.size, i.bytes)) = some (some (.agg #[.int .i64 0, .int .u32 0, .int .u32 0, .string ⟨#[]⟩]), 4, 32) := by kernel_rfl
abbrev zcN : Array Value := #[.bool false, .slice none 0 0, .int .i64 0, .int .i64 0, .int .i64 0, .int .i64 0, .int .i64 0, .int .i64 0, .int .i64 0, .int .i64 0, .int .i64 0]
theorem infoN_nd (n : NdS) : (Try.prog.info? 49).map (·.size) = some (ncells n).size := by
  have h : (Try.prog.info? 49).map (·.size) = some 11 := by kernel_rfl
  exact h
theorem holdN_zc (n : NdS) : zcN.size = (ncells n).size := rfl
theorem oneN_nd (n : NdS) (hv : n.v.oneCell' = true) : (ncells n).all (·.oneCell') = true := by
  simp [Value.oneCell'] at hv ⊢
  exact hv
theorem rowN_one {W : World} {base : Nat} {e : TypeId} {size m : Nat} {v : Value} {xs : List Value} (h : W.ownsRow base e size v m xs) : v.oneCell' = true := by
  obtain ⟨A, c, rfl, _⟩ := own_rd h
  rfl
theorem resN_cell1 {P : Program} {fn : Func} {p : Tmp} {ty : TypeId} (h : fn.results = #[.cell p ty]) (tmps : Array Value) (w : World) (g : Nat) (t0 : TypeId) (cs : Array Value) (fr : Nat × Nat) (d : TypeDesc)
    (hp : tmps.getD p undef = .pointer (some ⟨g, 0, none⟩)) (hg : w.heap[g]? = some (.cells cs t0 fr))
    (hu : P.underlying ty = some d) (hd : (match d with | .struct _ | .array _ _ => true | _ => false) = true) (hi : (P.info? ty).map (·.size) = some cs.size) :
    (results fn tmps).run P w = .ok (.agg cs) w := by
  have hp' : tmps[p]?.getD undef = .pointer (some ⟨g, 0, none⟩) := by simpa using hp
  simp [results, h, hp', asAddr, run_loadVar_row w g t0 ty cs fr d hg hu hd hi]
/-- A row of points outlives what an In does. -/
theorem own_keepI {W W' : World} {base n : Nat} {v : Value} {xs : List Value} (h : W.ownsRow base 58 4 v n xs) (hK : KeepI W W') : W'.ownsRow base 58 4 v n xs := own_move h (fun k hk => by
  obtain ⟨cs, hc⟩ := own_typed h k hk
  rw [hc]
  exact hK.2 _ _ _ _ hc (by decide))
theorem got1_255 (s : InS) : getB (s.got 1) ≤ 255 := by
  have h1 := getB_lt (s.got 1)
  have h2 := got_le s 1
  have h3 : 256 ^ (s.got 1).length ≤ 256 ^ 1 := Nat.pow_le_pow_right (by omega) h2
  omega
theorem got2_65535 (s : InS) : getB (s.got 2) ≤ 65535 := by
  have h1 := getB_lt (s.got 2)
  have h2 := got_le s 2
  have h3 : 256 ^ (s.got 2).length ≤ 256 ^ 2 := Nat.pow_le_pow_right (by omega) h2
  omega
theorem rdTo_ble (s : InS) : ∀ k, (rdTo k s).2.b.length ≤ s.b.length
  | 0 => Nat.le_refl _
  | k + 1 => by
    have ih := rdTo_ble s k
    show (rdP (rdTo k s).2).s.b.length ≤ _
    have h1 := next_len (rdTo k s).2 4
    have h2 := next_len ((rdTo k s).2.next 4) 4
    have h3 := next_len (((rdTo k s).2.next 4).next 4) 4
    have h4 := next_len ((((rdTo k s).2.next 4).next 4).next 4) 1
    have h5 := next_len (((((rdTo k s).2.next 4).next 4).next 4).next 1) (getB (((((rdTo k s).2.next 4).next 4).next 4).got 1))
    show ((((((rdTo k s).2.next 4).next 4).next 4).next 1).next (getB (((((rdTo k s).2.next 4).next 4).next 4).got 1))).b.length ≤ _
    omega
theorem iterI_ble (n : Nat) (s : InS) : ∀ k, (iterI n k s).b.length ≤ s.b.length
  | 0 => Nat.le_refl _
  | k + 1 => by
    have ih := iterI_ble n s k
    have h := next_len (iterI n k s) n
    show ((iterI n k s).next n).b.length ≤ _
    omega
/-- The fields read so far, in a node's array. -/
def upTo (n : Nat) (s : InS) (q : Nat) : Nat → Int := fun i => if i < q then numAt n s i else 0
theorem upTo_zero (n : Nat) (s : InS) : upTo n s 0 = fun _ => 0 := by
  funext i
  unfold upTo
  rw [if_neg (by omega)]
theorem upTo_old {n : Nat} {s : InS} {q i : Nat} (h : i ≠ q) : upTo n s (q + 1) i = upTo n s q i := by
  unfold upTo
  by_cases h1 : i < q
  · rw [if_pos h1, if_pos (by omega)]
  · rw [if_neg h1, if_neg (by omega)]
theorem upTo_new (n : Nat) (s : InS) (q : Nat) : upTo n s (q + 1) q = numAt n s q := by
  unfold upTo
  rw [if_pos (by omega)]
theorem ks_set (x : NdS) (f g : Nat → Int) (q : Nat) (hq : q < 4) (z : Int) (hz : g q = z) (ho : ∀ i, i ≠ q → g i = f i) : (ncells { x with ks := f }).setIfInBounds (3 + q) (.int .i64 z) = ncells { x with ks := g } := by
  have o0 := ho 0; have o1 := ho 1; have o2 := ho 2; have o3 := ho 3
  rcases (by omega : q = 0 ∨ q = 1 ∨ q = 2 ∨ q = 3) with rfl | rfl | rfl | rfl
  · rw [← hz]; simp only [ncells, o1 (by decide), o2 (by decide), o3 (by decide)]; rfl
  · rw [← hz]; simp only [ncells, o0 (by decide), o2 (by decide), o3 (by decide)]; rfl
  · rw [← hz]; simp only [ncells, o0 (by decide), o1 (by decide), o3 (by decide)]; rfl
  · rw [← hz]; simp only [ncells, o0 (by decide), o1 (by decide), o2 (by decide)]; rfl
theorem cs_set (x : NdS) (f g : Nat → Int) (q : Nat) (hq : q < 4) (z : Int) (hz : g q = z) (ho : ∀ i, i ≠ q → g i = f i) : (ncells { x with cs := f }).setIfInBounds (7 + q) (.int .i64 z) = ncells { x with cs := g } := by
  have o0 := ho 0; have o1 := ho 1; have o2 := ho 2; have o3 := ho 3
  rcases (by omega : q = 0 ∨ q = 1 ∨ q = 2 ∨ q = 3) with rfl | rfl | rfl | rfl
  · rw [← hz]; simp only [ncells, o1 (by decide), o2 (by decide), o3 (by decide)]; rfl
  · rw [← hz]; simp only [ncells, o0 (by decide), o2 (by decide), o3 (by decide)]; rfl
  · rw [← hz]; simp only [ncells, o0 (by decide), o1 (by decide), o3 (by decide)]; rfl
  · rw [← hz]; simp only [ncells, o0 (by decide), o1 (by decide), o2 (by decide)]; rfl
theorem bodyD_inner {K : Nat} (hk : K ≠ 1) (s : InS) : bodyD K s = (⟨false, [], 0, upTo 1 s 4, upTo 2 (iterI 1 4 s) 4⟩, iterI 2 4 (iterI 1 4 s)) := by
  unfold bodyD
  rw [if_neg hk]
  rfl
set_option maxHeartbeats 8000000 in
set_option maxRecDepth 100000 in
theorem nbody_ok {w0 W : World} {q : Nat} {s : InS} (h : IW w0 W q s) (hl : s.b.length ≤ 140737488355328) (K : Nat) (hK : K < 256) :
    Calls Try.prog 69 #[.pointer (some ⟨q, 0, none⟩), .int .i64 (K : Nat)] W fun e w' => ∃ v, e = .returned (nv ((bodyD K s).1.nd v)) ∧ w'.ownsRow w0.heap.size 58 4 v (bodyD K s).1.pts.length ((bodyD K s).1.pts.flatMap PtS.cells) ∧ IW w0 w' q (bodyD K s).2 := by
  have hsz := h.bel.size
  have qz := alloc_at (w := W) (.cells zcN 49) rfl
  have hw1 : (W.alloc (.cells zcN 49)).heap.size = W.heap.size + 1 := by unfold World.alloc; simp
  by_cases hk : K = 1
  · subst hk
    have qb := below_alloc (below_alloc1 W (.cells zcN 49)) (.cells (ncells ⟨true, .slice none 0 0, [], 0, fun _ => 0, fun _ => 0⟩) 49)
    have HI := Lib.hid (h.up qb)
    have HZ := Lib.hid (alloc_old qz (.cells (ncells ⟨true, .slice none 0 0, [], 0, fun _ => 0, fun _ => 0⟩) 49))
    have HN := Lib.hid (alloc_at (w := W.alloc (.cells zcN 49)) (n := W.heap.size + 1) (.cells (ncells ⟨true, .slice none 0 0, [], 0, fun _ => 0, fun _ => 0⟩) 49) hw1.symm)
    clear qz hw1 qb h
    unfold bodyD
    rw [if_pos rfl]
    have hmany := got1_255 (s.next 1)
    have hn1 := got1_255 s
    obtain ⟨many, hm⟩ : ∃ m, getB ((s.next 1).got 1) = m := ⟨_, rfl⟩
    obtain ⟨nx, hnx⟩ : ∃ m, getB (s.got 1) = m := ⟨_, rfl⟩
    obtain ⟨s3, hs3⟩ : ∃ z, (s.next 1).next 1 = z := ⟨_, rfl⟩
    have hl1 := next_len s 1
    have hl2 := next_len (s.next 1) 1
    rw [hm] at hmany
    rw [hnx] at hn1
    rw [hs3] at hl2
    have HS := Lib.hid (And.intro hm (And.intro hnx hs3))
    rw [hm, hnx, hs3]
    clear hm hnx hs3
    have HL := Lib.hid (And.intro hl1 hl2)
    clear hl1 hl2
    generalize hg4 : W.heap.size = g4 at *
    go_enter Try.func69, Try.ntmps69
    go_upto_region 3 with (fail)
    generalize ((W.alloc _).alloc _) = w1 at *
    have hg5 : Hid (w0.heap.size ≤ g4) := Lib.hid (by omega)
    go_wp2_with fail
    (with_reducible refine (HI.out.num 1 (by have := HL.out; omega)).mono ?_); rintro e w2 ⟨rfl, hI2, hK2⟩
    rw [sz1] at hI2 ⊢
    rw [HS.out.2.1]
    have hN2 := hK2.2 _ _ _ _ HN.out (by decide)
    have hZ2 := hK2.2 _ _ _ _ HZ.out (by decide)
    have q2 : w2.cell? ⟨g4 + 1, 2, none⟩ = some (.int .i64 0) := by rw [cell_block hN2]; rfl
    have f2 := free_block hN2 2
    have HI3 := Lib.hid (hI2.set (q := ⟨g4 + 1, 2, none⟩) hN2 (by show w0.heap.size ≤ g4 + 1; have := hg5.out; omega) (by decide) (by decide) (.int .i64 (nx : Nat)))
    have HN3 : Hid ((w2.setCell ⟨g4 + 1, 2, none⟩ (.int .i64 (nx : Nat))).heap[g4 + 1]? = some (.cells (ncells ⟨true, .slice none 0 0, [], (nx : Nat), fun _ => 0, fun _ => 0⟩) 49 (0, 0))) := Lib.hid (blk_set hN2 2 _)
    have HZ3 := Lib.hid (blk_far hZ2 (p := ⟨g4 + 1, 2, none⟩) (by show g4 ≠ g4 + 1; omega) (.int .i64 (nx : Nat)))
    clear hI2 hK2 hN2 hZ2
    go_wp2_with fail
    clear q2 f2
    generalize w2.setCell _ _ = w3 at *
    (with_reducible refine (HI3.out.num 1 (by have := HL.out; omega)).mono ?_); rintro e w4 ⟨rfl, hI4, hK4⟩
    rw [sz1] at hI4 ⊢
    rw [HS.out.1]
    rw [HS.out.2.2] at hI4
    have HI4 := Lib.hid hI4
    have HN4 := Lib.hid (hK4.2 _ _ _ _ HN3.out (by decide))
    have HZ4 := Lib.hid (hK4.2 _ _ _ _ HZ3.out (by decide))
    clear hI4 hK4
    go_wp2_with fail
    go_loopw [20] (fun vj W' => ∃ (j : Nat) (vs : Value), vj = .int .i64 j ∧ j ≤ many ∧ IW w0 W' q (rdTo j s3).2 ∧ W'.heap[g4 + 1]? = some (.cells (ncells ⟨true, vs, [], (nx : Nat), fun _ => 0, fun _ => 0⟩) 49 (0, 0)) ∧ W'.heap[g4]? = some (.cells zcN 49 (0, 0)) ∧ W'.ownsRow w0.heap.size 58 4 vs j ((rdTo j s3).1.flatMap PtS.cells)) (fun vj _ => many - (intOf vj).toNat)
    case atStart => exact ⟨0, _, rfl, Nat.zero_le _, HI4.out, HN4.out, HZ4.out, ⟨rfl, .inl ⟨rfl, rfl⟩⟩⟩
    case round =>
    obtain ⟨j, vs, rfl, hj, hI, hN, hZ, hO⟩ := hrel
    obtain ⟨Av, cv, rfl, _⟩ := own_rd hO
    have HI5 := Lib.hid hI; have HN5 := Lib.hid hN; have HZ5 := Lib.hid hZ; have HO5 := Lib.hid hO
    have hble := rdTo_ble s3 j
    clear hI hN hZ hO
    by_cases hjm : j < many
    · have dj : decide (j < many) = true := decide_eq_true hjm
      have hsu : rdTo (j + 1) s3 = ((rdTo j s3).1 ++ [(rdP (rdTo j s3).2).out], (rdP (rdTo j s3).2).s) := rfl
      obtain ⟨P, hP⟩ : ∃ P, (rdP (rdTo j s3).2).out = P := ⟨_, rfl⟩
      obtain ⟨B, hB⟩ : ∃ P, (rdP (rdTo j s3).2).ok = P := ⟨_, rfl⟩
      rw [hP] at hsu
      have HSu := Lib.hid hsu
      have hget := pget_ok HI5.out (by have := HL.out; omega)
      rw [hP, hB] at hget
      have HGet := Lib.hid hget
      clear hsu hget hP hB
      go_wp2_with fail
      (with_reducible refine HGet.out.mono ?_); rintro e w6 ⟨rfl, hI6, hK6⟩
      have HI6 := Lib.hid (hI6.up (below_alloc1 w6 (.cells #[.int .i64 P.id, .int .u32 (P.x : Nat), .int .u32 (P.y : Nat), .string P.d] 58)))
      have HN6 := Lib.hid (alloc_old (hK6.2 _ _ _ _ HN5.out (by decide)) (.cells #[.int .i64 P.id, .int .u32 (P.x : Nat), .int .u32 (P.y : Nat), .string P.d] 58))
      have HZ6 := Lib.hid (alloc_old (hK6.2 _ _ _ _ HZ5.out (by decide)) (.cells #[.int .i64 P.id, .int .u32 (P.x : Nat), .int .u32 (P.y : Nat), .string P.d] 58))
      have HO6 := Lib.hid (own_below (own_keepI HO5.out hK6) (below_alloc1 w6 (.cells #[.int .i64 P.id, .int .u32 (P.x : Nat), .int .u32 (P.y : Nat), .string P.d] 58)))
      have HX6 := Lib.hid (alloc_at (w := w6) (.cells #[.int .i64 P.id, .int .u32 (P.x : Nat), .int .u32 (P.y : Nat), .string P.d] 58) rfl)
      clear hI6 hK6
      go_upto_region 7 with (fail)
      generalize w6.heap.size = gp at *
      generalize World.alloc w6 _ = w7 at *
      have c1 : w7.cell? ⟨g4 + 1, 1, none⟩ = some (.slice Av j cv) := by rw [cell_block HN6.out]; rfl
      obtain ⟨p0, p1, p2, p3⟩ := cells4 HX6.out
      have HR7 := Lib.hid (rd_new w7 #[.int .i64 P.id, .int .u32 (P.x : Nat), .int .u32 (P.y : Nat), .string P.d] 58 ([P].flatMap PtS.cells) rfl)
      have hba := below_alloc1 w7 (.cells #[.int .i64 P.id, .int .u32 (P.x : Nat), .int .u32 (P.y : Nat), .string P.d] 58)
      have HI7 := Lib.hid (HI6.out.up hba)
      have HN7 := Lib.hid (block_up HN6.out hba)
      have HZ7 := Lib.hid (block_up HZ6.out hba)
      have HO7 := Lib.hid (own_below HO6.out hba)
      clear hba
      go_wp2_with (at_builtin; refine wpList_app rfl _ _ 46 rfl w0.heap.size 58 (.agg #[.int .i64 0, .int .u32 0, .int .u32 0, .string ⟨#[]⟩]) 4 32 Try.underlying46 infoN_pt rfl (by decide) (by decide) (.slice Av j cv) j ((rdTo j s3).1.flatMap PtS.cells) rfl _ 1 1 ([P].flatMap PtS.cells) rfl HO7.out rfl HR7.out (flat_one PtS.cells_one _) (by omega) HI7.out.bel.size ?_
                   intro A8 c8 w8 hown hgrow hat
                   have hI8 := IW.grown HI7.out HO7.out hgrow (Nat.le_refl _) (by decide) (by decide)
                   have hN8 := (hgrow.block (g4 + 1) (Array.getElem?_eq_some_iff.1 HN7.out).1 (fun e => own_ne_block HO7.out HN7.out (by decide) e.symm)).trans HN7.out
                   have hZ8 := (hgrow.block g4 (Array.getElem?_eq_some_iff.1 HZ7.out).1 (fun e => own_ne_block HO7.out HZ7.out (by decide) e.symm)).trans HZ7.out
                   have q8 : w8.cell? ⟨g4 + 1, 1, none⟩ = some (.slice Av j cv) := by rw [cell_block hN8]; rfl
                   have f8 := free_block hN8 1
                   have HI9 := Lib.hid (hI8.set (q := ⟨g4 + 1, 1, none⟩) hN8 (by show w0.heap.size ≤ g4 + 1; have := hg5.out; omega) (by decide) (by decide) (.slice A8 (j + 1) c8))
                   have HN9 : Hid ((w8.setCell ⟨g4 + 1, 1, none⟩ (.slice A8 (j + 1) c8)).heap[g4 + 1]? = some (.cells (ncells ⟨true, .slice A8 (j + 1) c8, [], (nx : Nat), fun _ => 0, fun _ => 0⟩) 49 (0, 0))) := Lib.hid (blk_set hN8 1 _)
                   have HZ9 := Lib.hid (blk_far hZ8 (p := ⟨g4 + 1, 1, none⟩) (by show g4 ≠ g4 + 1; omega) (.slice A8 (j + 1) c8))
                   have HO9 := Lib.hid (own_set hown (p := ⟨g4 + 1, 1, none⟩) (own_ne_block hown hN8 (by decide)) (.slice A8 (j + 1) c8))
                   clear hown hgrow hat hI8 hN8 hZ8 c1 p0 p1 p2 p3)
      exact ⟨⟨j + 1, _, by go_num, by omega, by rw [HSu.out]; exact HI9.out, HN9.out, HZ9.out, by rw [HSu.out, List.flatMap_append]; exact HO9.out⟩, by simp [intOf]; omega⟩
    · obtain rfl : j = many := by omega
      have dj : decide (j < j) = false := decide_eq_false (by omega)
      have HI6 := Lib.hid (infoN_nd ⟨true, .slice Av j cv, [], (nx : Nat), fun _ => 0, fun _ => 0⟩)
      have HO6 := Lib.hid (oneN_nd ⟨true, .slice Av j cv, [], (nx : Nat), fun _ => 0, fun _ => 0⟩ (rowN_one HO5.out))
      have HH6 := Lib.hid (holdN_zc ⟨true, .slice Av j cv, [], (nx : Nat), fun _ => 0, fun _ => 0⟩)
      go_wp2_with (first
        | (with_reducible refine wpList_store_rowF rfl 49 _ _ rfl g4 (ncells ⟨true, .slice Av j cv, [], (nx : Nat), fun _ => 0, fun _ => 0⟩) rfl rfl 49 _ HZ5.out HI6.out HH6.out HO6.out ?_; intro w8 hg8 hf8)
        | (with_reducible refine wpList_load_row rfl 49 _ rfl (g4 + 1) rfl 49 (ncells ⟨true, .slice Av j cv, [], (nx : Nat), fun _ => 0, fun _ => 0⟩) (0, 0) _ HN5.out Try.underlying49 rfl HI6.out ?_))
      refine bodyPost_ret (v := nv ⟨true, .slice Av j cv, (rdTo j s3).1, (nx : Nat), fun _ => 0, fun _ => 0⟩) (resN_cell1 (p := 4) rfl _ _ g4 _ _ (0, 0) _ rfl hg8 Try.underlying49 rfl HI6.out) rfl ⟨.slice Av j cv, rfl, ?_, ?_⟩
      · rw [rdTo_len]
        exact own_fr HO5.out hf8 (fun k hk e => own_ne_block HO5.out HZ5.out (by decide) (by rw [hk, e]))
      · exact HI5.out.fr hf8 HZ5.out hg5.out (by decide) (by decide)
  · have qb := below_alloc (below_alloc1 W (.cells zcN 49)) (.cells (ncells ⟨false, .slice none 0 0, [], 0, fun _ => 0, fun _ => 0⟩) 49)
    have HI := Lib.hid (h.up qb)
    have HZ := Lib.hid (alloc_old qz (.cells (ncells ⟨false, .slice none 0 0, [], 0, fun _ => 0, fun _ => 0⟩) 49))
    have HN := Lib.hid (alloc_at (w := W.alloc (.cells zcN 49)) (n := W.heap.size + 1) (.cells (ncells ⟨false, .slice none 0 0, [], 0, fun _ => 0, fun _ => 0⟩) 49) hw1.symm)
    have ek : ((K : Int) == 1) = false := by rw [beq_eq_false_iff_ne]; omega
    have ek2 : (K == 1) = false := by rw [beq_eq_false_iff_ne]; exact hk
    clear qz hw1 qb h
    rw [bodyD_inner hk]
    obtain ⟨s4, hs4⟩ : ∃ z, iterI 1 4 s = z := ⟨_, rfl⟩
    obtain ⟨kf, hkf⟩ : ∃ f, upTo 1 s 4 = f := ⟨_, rfl⟩
    rw [hs4, hkf]
    obtain ⟨cf, hcf⟩ : ∃ f, upTo 2 s4 4 = f := ⟨_, rfl⟩
    rw [hcf]
    have HF := Lib.hid (And.intro hs4 (And.intro hkf hcf))
    clear hs4 hkf hcf
    have HL := Lib.hid hl
    generalize hg4 : W.heap.size = g4 at *
    have hg5 : Hid (w0.heap.size ≤ g4) := Lib.hid (by omega)
    go_enter Try.func69, Try.ntmps69
    go_upto_region 10 with (fail)
    generalize ((W.alloc _).alloc _) = w1 at *
    go_wp2_with fail
    go_loopw [35] (fun vj W' => ∃ j : Nat, vj = .int .i64 j ∧ j ≤ 4 ∧ IW w0 W' q (iterI 1 j s) ∧ W'.heap[g4 + 1]? = some (.cells (ncells ⟨false, .slice none 0 0, [], 0, upTo 1 s j, fun _ => 0⟩) 49 (0, 0)) ∧ W'.heap[g4]? = some (.cells zcN 49 (0, 0))) (fun vj _ => 4 - (intOf vj).toNat)
    case atStart => exact ⟨0, rfl, by omega, HI.out, by rw [upTo_zero]; exact HN.out, HZ.out⟩
    case round =>
    obtain ⟨j, rfl, hj, hI, hN, hZ⟩ := hrel
    have HI1 := Lib.hid hI; have HN1 := Lib.hid hN; have HZ1 := Lib.hid hZ
    have hble := iterI_ble 1 s j
    clear hI hN hZ
    by_cases hj4 : j < 4
    · have dj : decide ((j : Int) < 4) = true := decide_eq_true (by omega)
      have bj : (j : Int) < 4 := by omega
      have hnu := upTo_new 1 s j
      have hol := fun i => @upTo_old 1 s j i
      unfold numAt at hnu
      obtain ⟨z, hz⟩ : ∃ z, getB ((iterI 1 j s).got 1) = z := ⟨_, rfl⟩
      rw [hz] at hnu
      have HZz := Lib.hid hz
      have HSet := Lib.hid (ks_set ⟨false, .slice none 0 0, [], 0, fun _ => 0, fun _ => 0⟩ (upTo 1 s j) (upTo 1 s (j + 1)) j hj4 (z : Nat) hnu hol)
      clear hnu hol hz
      go_wp2_with fail
      (with_reducible refine (HI1.out.num 1 (by have := HL.out; omega)).mono ?_); rintro e w2 ⟨rfl, hI2, hK2⟩
      rw [sz1] at hI2 ⊢
      rw [HZz.out]
      have hN2 := hK2.2 _ _ _ _ HN1.out (by decide)
      have hZ2 := hK2.2 _ _ _ _ HZ1.out (by decide)
      have q2 := (nd_cells hN2).2.2.2.1 j hj4
      simp only at q2
      have f2 := free_block hN2 (3 + j)
      have HI3 := Lib.hid (hI2.set (q := ⟨g4 + 1, 3 + j, none⟩) hN2 (by show w0.heap.size ≤ g4 + 1; have := hg5.out; omega) (by decide) (by decide) (.int .i64 (z : Nat)))
      have HN3 := Lib.hid (blk_set hN2 (3 + j) (.int .i64 (z : Nat)))
      have HZ3 := Lib.hid (blk_far hZ2 (p := ⟨g4 + 1, 3 + j, none⟩) (by show g4 ≠ g4 + 1; omega) (.int .i64 (z : Nat)))
      clear hI2 hK2 hN2 hZ2
      go_wp2
      exact ⟨⟨j + 1, by go_num, by omega, HI3.out, by rw [← HSet.out]; exact HN3.out, HZ3.out⟩, by simp [intOf]; omega⟩
    · obtain rfl : j = 4 := by omega
      rw [HF.out.2.1] at HN1
      rw [HF.out.1] at HI1 hble
      rw [show ((4 : Nat) : Int) = 4 from rfl]
      go_wp2_with fail
      generalize hwb : wr = wb at *
      clear hwb
      go_loopw [44] (fun vj W' => ∃ j : Nat, vj = .int .i64 j ∧ j ≤ 4 ∧ IW w0 W' q (iterI 2 j s4) ∧ W'.heap[g4 + 1]? = some (.cells (ncells ⟨false, .slice none 0 0, [], 0, kf, upTo 2 s4 j⟩) 49 (0, 0)) ∧ W'.heap[g4]? = some (.cells zcN 49 (0, 0))) (fun vj _ => 4 - (intOf vj).toNat)
      case atStart => exact ⟨0, rfl, by omega, HI1.out, by rw [upTo_zero]; exact HN1.out, HZ1.out⟩
      case round =>
      obtain ⟨j, rfl, hj, hI, hN, hZ⟩ := hrel
      have HI5 := Lib.hid hI; have HN5 := Lib.hid hN; have HZ5 := Lib.hid hZ
      have hble2 := iterI_ble 2 s4 j
      clear hI hN hZ
      by_cases hj4 : j < 4
      · have dj : decide ((j : Int) < 4) = true := decide_eq_true (by omega)
        have bj : (j : Int) < 4 := by omega
        have hnu := upTo_new 2 s4 j
        have hol := fun i => @upTo_old 2 s4 j i
        unfold numAt at hnu
        obtain ⟨z, hz⟩ : ∃ z, getB ((iterI 2 j s4).got 2) = z := ⟨_, rfl⟩
        rw [hz] at hnu
        have HZz := Lib.hid hz
        have HSet := Lib.hid (cs_set ⟨false, .slice none 0 0, [], 0, kf, fun _ => 0⟩ (upTo 2 s4 j) (upTo 2 s4 (j + 1)) j hj4 (z : Nat) hnu hol)
        clear hnu hol hz
        go_wp2_with fail
        (with_reducible refine (HI5.out.num 2 (by have := HL.out; omega)).mono ?_); rintro e w2 ⟨rfl, hI2, hK2⟩
        rw [show sz 2 = 2 from by decide] at hI2 ⊢
        rw [HZz.out]
        have hN2 := hK2.2 _ _ _ _ HN5.out (by decide)
        have hZ2 := hK2.2 _ _ _ _ HZ5.out (by decide)
        have q2 := (nd_cells hN2).2.2.2.2 j hj4
        simp only at q2
        have f2 := free_block hN2 (7 + j)
        have HI3 := Lib.hid (hI2.set (q := ⟨g4 + 1, 7 + j, none⟩) hN2 (by show w0.heap.size ≤ g4 + 1; have := hg5.out; omega) (by decide) (by decide) (.int .i64 (z : Nat)))
        have HN3 := Lib.hid (blk_set hN2 (7 + j) (.int .i64 (z : Nat)))
        have HZ3 := Lib.hid (blk_far hZ2 (p := ⟨g4 + 1, 7 + j, none⟩) (by show g4 ≠ g4 + 1; omega) (.int .i64 (z : Nat)))
        clear hI2 hK2 hN2 hZ2
        go_wp2
        exact ⟨⟨j + 1, by go_num, by omega, HI3.out, by rw [← HSet.out]; exact HN3.out, HZ3.out⟩, by simp [intOf]; omega⟩
      · obtain rfl : j = 4 := by omega
        rw [HF.out.2.2] at HN5
        have HI6 := Lib.hid (infoN_nd ⟨false, .slice none 0 0, [], 0, kf, cf⟩)
        have HO6 := Lib.hid (oneN_nd ⟨false, .slice none 0 0, [], 0, kf, cf⟩ rfl)
        have HH6 := Lib.hid (holdN_zc ⟨false, .slice none 0 0, [], 0, kf, cf⟩)
        go_wp2_with (first
          | (with_reducible refine wpList_store_rowF rfl 49 _ _ rfl g4 (ncells ⟨false, .slice none 0 0, [], 0, kf, cf⟩) rfl rfl 49 _ HZ5.out HI6.out HH6.out HO6.out ?_; intro w8 hg8 hf8)
          | (with_reducible refine wpList_load_row rfl 49 _ rfl (g4 + 1) rfl 49 (ncells ⟨false, .slice none 0 0, [], 0, kf, cf⟩) (0, 0) _ HN5.out Try.underlying49 rfl HI6.out ?_))
        refine bodyPost_ret (v := nv ⟨false, .slice none 0 0, [], 0, kf, cf⟩) (resN_cell1 (p := 4) rfl _ _ g4 _ _ (0, 0) _ rfl hg8 Try.underlying49 rfl HI6.out) rfl ⟨.slice none 0 0, rfl, ⟨rfl, .inl ⟨rfl, rfl⟩⟩, ?_⟩
        exact HI5.out.fr hf8 HZ5.out hg5.out (by decide) (by decide)
end Go.Proofs.Ythpnlgdcijmocaa.Nd
