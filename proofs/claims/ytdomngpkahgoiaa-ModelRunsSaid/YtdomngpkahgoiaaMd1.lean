/- The walks over package model's is, place, Get, Points. -/
import Derived.Test.YtdomngpkahgoiaaMd0
import Derived.Test.YtdomngpkahgoiaaPd
import Derived.Test.YtdomngpkahgoiaaWi
namespace Go.Proofs.Ytdomngpkahgoiaa.Md
open Go.RowKit Pt St Rg
set_option linter.unusedVariables false
set_option linter.unusedSimpArgs false
/-- A model in memory: block g, its row v. -/
structure MdV (W : World) (base g : Nat) (v : Value) (L : List PtS) : Prop where
  blk : W.heap[g]? = some (.cells #[v, .bool true] 73 (0, 0))
  row : W.ownsRow base 56 4 v L.length (L.flatMap PtS.cells)
/-- A model that nobody made. -/
def Nob (W : World) (p : Value) : Prop := p = .pointer none ∨ ∃ g, p = .pointer (some ⟨g, 0, none⟩) ∧ W.cell? ⟨g, 1, none⟩ = some (.bool false)
theorem Nob.below {W W' : World} {p : Value} (h : Nob W p) (hb : Below W.heap.size W W') : Nob W' p := by
  rcases h with rfl | ⟨g, rfl, h⟩
  · exact .inl rfl
  · exact .inr ⟨g, rfl, cell_up h hb⟩
theorem MdV.below {W W' : World} {base g : Nat} {v : Value} {L : List PtS} (h : MdV W base g v L) (hb : Below W.heap.size W W') : MdV W' base g v L := ⟨block_up h.blk hb, own_below h.row hb⟩
theorem md_at {W : World} {base g : Nat} {v : Value} {L : List PtS} (h : MdV W base g v L) : (W.cell? ⟨g, 0, none⟩ = some v ∧ W.cell? ⟨g, 1, none⟩ = some (.bool true)) ∧ ∀ j, W.frozen? ⟨g, j, none⟩ = false := by
  have q0 := cell_block h.blk 0; have q1 := cell_block h.blk 1
  simp only [List.getElem?_toArray, List.getElem?_cons_zero, List.getElem?_cons_succ] at q0 q1
  exact ⟨⟨q0, q1⟩, free_block h.blk⟩
theorem is_t {W : World} {g : Nat} (b : Bool) (h : W.cell? ⟨g, 1, none⟩ = some (.bool b)) : Calls Try.prog 55 #[.pointer (some ⟨g, 0, none⟩)] W fun e w' => e = .returned (.bool b) ∧ W = w' := by
  go_enter Try.func55, Try.ntmps55
  go_wp2
  go_ret
  exact ⟨rfl, rfl⟩
theorem is_no {W : World} {p : Value} (h : Nob W p) : Calls Try.prog 55 #[p] W fun e w' => e = .returned (.bool false) ∧ W = w' := by
  rcases h with rfl | ⟨g, rfl, h⟩
  · go_enter Try.func55, Try.ntmps55
    go_wp2
    go_ret
    exact ⟨rfl, rfl⟩
  · exact is_t false h
theorem place_no {W : World} {p : Value} (h : Nob W p) (id : Int) : Calls Try.prog 60 #[p, .int .i64 id] W fun e w' => e = .returned (.tuple #[.int .i64 0, .int .i64 9]) ∧ W = w' := by
  have HI := Lib.hid (is_no h)
  clear h
  go_enter Try.func60, Try.ntmps60
  go_wp2_with fail
  (with_reducible refine HI.out.mono ?_); rintro e w1 ⟨rfl, rfl⟩
  go_wp2
  go_ret2
  exact ⟨rfl, rfl⟩
/-- What place tells. -/
def plI (z : Int) : Int := if z < 0 then 0 else z
def plE (z : Int) : Int := if z < 0 then 14 else 0
set_option maxHeartbeats 1000000 in
theorem place_ok {W : World} {base g : Nat} {v : Value} {L : List PtS} (h : MdV W base g v L) (hl : L.length ≤ 4398046511104) (id : Int) :
    Calls Try.prog 60 #[.pointer (some ⟨g, 0, none⟩), .int .i64 id] W fun e w' => e = .returned (.tuple #[.int .i64 (plI (at_ L id)), .int .i64 (plE (at_ L id))]) ∧ Below W.heap.size W w' := by
  obtain ⟨⟨q0, q1⟩, _⟩ := md_at h
  have HI := Lib.hid (is_t true q1)
  have HF := Lib.hid (pfind_ok v L id W (srd_own PtS.cells_len (by decide) h.row) (by omega))
  obtain ⟨A, c, rfl, _, _, _, _⟩ := own_rd h.row
  clear h q1
  obtain ⟨z, hz⟩ : ∃ z, at_ L id = z := ⟨_, rfl⟩
  have hz' : fidx (fun x : PtS => x.id == id) L = z := hz
  rw [hz'] at HF
  rw [hz]
  clear hz hz'
  unfold plI plE
  by_cases hn : z < 0
  · rw [if_pos hn, if_pos hn]
    have d : decide (z < 0) = true := decide_eq_true hn
    go_enter Try.func60, Try.ntmps60
    go_wp2_with fail
    (with_reducible refine HI.out.mono ?_); rintro e w1 ⟨rfl, rfl⟩
    go_wp2_with fail
    (with_reducible refine HF.out.mono ?_); rintro e w2 ⟨rfl, hb⟩
    have H2 := Lib.hid hb; clear hb
    go_wp2
    go_ret2
    exact ⟨rfl, H2.out⟩
  · rw [if_neg hn, if_neg hn]
    have d : decide (z < 0) = false := decide_eq_false hn
    go_enter Try.func60, Try.ntmps60
    go_wp2_with fail
    (with_reducible refine HI.out.mono ?_); rintro e w1 ⟨rfl, rfl⟩
    go_wp2_with fail
    (with_reducible refine HF.out.mono ?_); rintro e w2 ⟨rfl, hb⟩
    have H2 := Lib.hid hb; clear hb
    go_wp2
    go_ret2
    exact ⟨rfl, H2.out⟩
theorem points_no {W : World} {p : Value} (h : Nob W p) : Calls Try.prog 33 #[p] W fun e w' => e = .returned (.slice none 0 0) ∧ W = w' := by
  have HI := Lib.hid (is_no h)
  clear h
  go_enter Try.func33, Try.ntmps33
  go_wp2_with fail
  (with_reducible refine HI.out.mono ?_); rintro e w1 ⟨rfl, rfl⟩
  go_wp2
  go_ret
  exact ⟨rfl, rfl⟩
set_option maxHeartbeats 1000000 in
theorem points_ok {W : World} {base g : Nat} {v : Value} {L : List PtS} (h : MdV W base g v L) (hl : L.length ≤ 4398046511104) :
    Calls Try.prog 33 #[.pointer (some ⟨g, 0, none⟩)] W fun e w' => ∃ v', e = .returned v' ∧ w'.ownsRow W.heap.size 56 4 v' L.length (L.flatMap PtS.cells) ∧ Below W.heap.size W w' := by
  obtain ⟨⟨q0, q1⟩, _⟩ := md_at h
  have HI := Lib.hid (is_t true q1)
  have HF := Lib.hid (pclone_ok v L W (srd_own PtS.cells_len (by decide) h.row) hl)
  obtain ⟨A, c, rfl, _, _, _, _⟩ := own_rd h.row
  clear h q1
  go_enter Try.func33, Try.ntmps33
  go_wp2_with fail
  (with_reducible refine HI.out.mono ?_); rintro e w1 ⟨rfl, rfl⟩
  go_wp2_with fail
  (with_reducible refine HF.out.mono ?_); rintro e w2 ⟨v', rfl, ho, hb⟩
  have H2 := Lib.hid (And.intro ho hb); clear ho hb
  go_wp2
  go_ret
  exact ⟨_, rfl, H2.out⟩
theorem get_no {W : World} {p : Value} (h : Nob W p) (id : Int) : Calls Try.prog 31 #[p, .int .i64 id] W fun e w' => e = .returned (.tuple #[pv PtS.zero, .bool false]) ∧ Below W.heap.size W w' := by
  have HI := Lib.hid (fun W' hb => place_no (h.below hb) id (W := W'))
  clear h
  go_enter Try.func31, Try.ntmps31
  go_wp2_with fail
  (with_reducible refine (HI.out _ (below_alloc1 _ _)).mono ?_); rintro e w1 ⟨rfl, rfl⟩
  go_wp2
  refine bodyPost_ret (v := .tuple #[pv PtS.zero, .bool false]) (by simp [results, Try.results31, go_sem, pv, PtS.zero]) rfl ⟨rfl, ?_⟩
  exact below_alloc1 _ _
theorem at_lt (L : List PtS) (id : Int) (h0 : 0 ≤ at_ L id) : (at_ L id).toNat < L.length := by
  have h1 : L.any (fun x : PtS => x.id == id) = true := by
    have := fidx_nn (fun x : PtS => x.id == id) L
    rw [← this]; exact decide_eq_true h0
  unfold at_ fidx
  rw [if_pos h1, Int.toNat_natCast]
  exact List.findIdx_lt_length.2 (by simpa using h1)
/-- What Get hands back. -/
def getP (L : List PtS) (id : Int) : PtS := if at_ L id < 0 then PtS.zero else L.getD (at_ L id).toNat PtS.zero
set_option maxHeartbeats 2000000 in
theorem get_ok {W : World} {base g : Nat} {v : Value} {L : List PtS} (h : MdV W base g v L) (hl : L.length ≤ 4398046511104) (id : Int) :
    Calls Try.prog 31 #[.pointer (some ⟨g, 0, none⟩), .int .i64 id] W fun e w' => e = .returned (.tuple #[pv (getP L id), .bool (decide (0 ≤ at_ L id))]) ∧ Below W.heap.size W w' := by
  have hb1 := below_alloc1 W (.cells #[.int .i64 0, .int .u32 0, .int .u32 0, .string ⟨#[]⟩] 56)
  have HI := Lib.hid (place_ok (h.below hb1) hl id)
  have hq := alloc_at (w := W) (.cells #[.int .i64 0, .int .u32 0, .int .u32 0, .string ⟨#[]⟩] 56) rfl
  have HQ := Lib.hid (And.intro hq hb1)
  have HM := Lib.hid (h.below hb1)
  have hbd := fidx_bnd (fun x : PtS => x.id == id) L
  have hlt : 0 ≤ at_ L id → (at_ L id).toNat < L.length := fun h0 => by
    have h1 : L.any (fun x : PtS => x.id == id) = true := by
      have := fidx_nn (fun x : PtS => x.id == id) L
      rw [← this]; exact decide_eq_true h0
    unfold at_ fidx
    rw [if_pos h1, Int.toNat_natCast]
    exact List.findIdx_lt_length.2 (by simpa using h1)
  unfold getP
  clear h hq hb1 hbd
  obtain ⟨z, hz⟩ : ∃ z, at_ L id = z := ⟨_, rfl⟩
  rw [hz] at HI hlt ⊢
  unfold plI plE at HI
  clear hz
  by_cases hn : z < 0
  · rw [if_pos hn, show decide (0 ≤ z) = false from decide_eq_false (by omega)]
    rw [if_pos hn, if_pos hn] at HI
    clear hlt hn
    go_enter Try.func31, Try.ntmps31
    go_wp2_with fail
    (with_reducible refine HI.out.mono ?_); rintro e w1 ⟨rfl, hb⟩
    have hq1 := block_up HQ.out.1 hb
    have hf1 := free_block hq1
    have HB1 := Lib.hid (below_up HQ.out.2 hb)
    have r0 := cell_block hq1 0; have r1 := cell_block hq1 1; have r2 := cell_block hq1 2; have r3 := cell_block hq1 3
    simp only [List.getElem?_toArray, List.getElem?_cons_zero, List.getElem?_cons_succ] at r0 r1 r2 r3
    clear hb hq1
    go_wp2
    refine bodyPost_ret (v := .tuple #[pv PtS.zero, .bool false]) (by simp [results, Try.results31, go_sem, pv, PtS.zero, r0, r1, r2, r3]) rfl ⟨rfl, ?_⟩
    exact (((HB1.out.setCell (Nat.le_refl _) _).setCell (Nat.le_refl _) _).setCell (Nat.le_refl _) _).setCell (Nat.le_refl _) _
  · rw [if_neg hn, show decide (0 ≤ z) = true from decide_eq_true (by omega)]
    rw [if_neg hn, if_neg hn] at HI
    obtain ⟨k, rfl⟩ := Int.eq_ofNat_of_zero_le (show 0 ≤ z by omega)
    have hk := hlt (by omega)
    rw [Int.toNat_natCast] at hk ⊢
    rw [show L.getD k PtS.zero = L[k] by simp [hk]]
    clear hlt hn
    have bk : (k : Int) < L.length := by omega
    obtain ⟨x, hx⟩ : ∃ x, L[k] = x := ⟨_, rfl⟩
    rw [hx]
    have HX := Lib.hid hx
    clear hx
    go_enter Try.func31, Try.ntmps31
    go_wp2_with fail
    (with_reducible refine HI.out.mono ?_); rintro e w1 ⟨rfl, hb⟩
    have hq1 := block_up HQ.out.1 hb
    have hf1 := free_block hq1
    have hm1 := HM.out.below hb
    have HB1 := Lib.hid (below_up HQ.out.2 hb)
    obtain ⟨⟨q0, q1⟩, _⟩ := md_at hm1
    obtain ⟨A, c, rfl, _, _, _, _⟩ := own_rd hm1.row
    obtain ⟨g2, o2, rfl, c0, c1, c2, c3⟩ := p_at (srd_own PtS.cells_len (by decide) hm1.row) hk
    rw [HX.out] at c0 c1 c2 c3
    have r0 := cell_block hq1 0; have r1 := cell_block hq1 1; have r2 := cell_block hq1 2; have r3 := cell_block hq1 3
    simp only [List.getElem?_toArray, List.getElem?_cons_zero, List.getElem?_cons_succ] at r0 r1 r2 r3
    clear hb hm1 hq1
    go_wp2
    refine bodyPost_ret (v := .tuple #[pv x, .bool true]) (by simp [results, Try.results31, go_sem, pv, r0, r1, r2, r3]) rfl ⟨rfl, ?_⟩
    exact (((HB1.out.setCell (Nat.le_refl _) _).setCell (Nat.le_refl _) _).setCell (Nat.le_refl _) _).setCell (Nat.le_refl _) _
end Go.Proofs.Ytdomngpkahgoiaa.Md
