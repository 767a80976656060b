/- The walk over NmapApplies. -/
import Derived.Test.YtjikndfpkhgnkaaNmap7
namespace Go.Proofs.Ytjikndfpkhgnkaa.Nm
open Go.RowKit
set_option linter.unusedVariables false
set_option linter.unusedSimpArgs false

def NS (w : World) (nB : Nat) (f g : Nat → Int) (W : World) : Prop :=
  W.heap[w.heap.size]? = some (.cells (lsI 256 f).toArray 22 (0, 0)) ∧ W.heap[nB]? = some (.cells (lsI 256 g).toArray 22 (0, 0)) ∧ Below w.heap.size w W
theorem NS.up {w : World} {nB : Nat} {f g : Nat → Int} {W W' : World} (h : NS w nB f g W) (hb : Below W.heap.size W W') : NS w nB f g W' := ⟨block_up h.1 hb, block_up h.2.1 hb, below_up h.2.2 hb⟩
/-- What the law has, behind k entries. -/
def LR (f : Nat → Int) (l : List EntS) (a : List Int) (k u : Nat) (ok : Bool) (g : Nat → Int) : Prop :=
  (ok = true → u ≤ a.length ∧ apAll (f, a) (l.take k) = some (g, a.drop u)) ∧ (ok = false → apAll (f, a) l = none)
theorem LR_no {f g g' : Nat → Int} {l : List EntS} {a : List Int} {k u : Nat} (h : LR f l a k u true g) (hk : k < l.length) (hn : apStep (g, a.drop u) l[k] = none) : LR f l a (k + 1) u false g' :=
  ⟨fun h => by simp at h, fun _ => apAll_none _ _ _ hk (h.1 rfl).2 hn⟩
theorem LR_kept {f g : Nat → Int} {l : List EntS} {a : List Int} {k u : Nat} (h : LR f l a k u true g) (hk : k < l.length) (hu : u < a.length) (h1 : l[k].odd = false) (h2 : l[k].kind = 1) : LR f l a (k + 1) (u + 1) true (upd g l[k].id a[u]) := by
  refine ⟨fun _ => ⟨hu, ?_⟩, fun h => by simp at h⟩
  rw [apAll_succ _ _ _ hk, (h.1 rfl).2, List.drop_eq_getElem_cons hu]
  exact apStep_kept h1 h2
theorem LR_gone {f g : Nat → Int} {l : List EntS} {a : List Int} {k u : Nat} (h : LR f l a k u true g) (hk : k < l.length) (h1 : l[k].odd = false) (h2 : ¬ l[k].kind = 1) : LR f l a (k + 1) u true (upd g l[k].id 0) := by
  refine ⟨fun _ => ⟨(h.1 rfl).1, ?_⟩, fun h => by simp at h⟩
  rw [apAll_succ _ _ _ hk, (h.1 rfl).2]
  exact apStep_gone h1 h2
theorem LR_end_no {f g : Nat → Int} {l : List EntS} {a : List Int} {k u : Nat} (h : LR f l a k u false g) : apF f l a = f ∧ apB f l a = false := ap_none (h.2 rfl)
theorem LR_end_all {f g : Nat → Int} {l : List EntS} {a : List Int} (h : LR f l a l.length a.length true g) : apF f l a = g ∧ apB f l a = true := by
  have := (h.1 rfl).2
  rw [List.take_length, List.drop_length] at this
  exact ap_all this
theorem LR_end_rest {f g : Nat → Int} {l : List EntS} {a : List Int} {u : Nat} (h : LR f l a l.length u true g) (hu : u ≠ a.length) : apF f l a = f ∧ apB f l a = false := by
  obtain ⟨h1, h2⟩ := h.1 rfl
  have hu2 : u < a.length := by omega
  rw [List.take_length, List.drop_eq_getElem_cons hu2] at h2
  exact ap_rest h2
theorem odd_true {e : EntS} (h : e.id < 1 ∨ 255 < e.id ∨ (e.kind ≠ 1 ∧ e.kind ≠ 2)) : e.odd = true := by
  cases hb : e.odd
  · have := EntS.odd_false hb; omega
  · rfl
theorem odd_no {e : EntS} (h : 1 ≤ e.id) (h2 : e.id ≤ 255) (h3 : e.kind = 1 ∨ e.kind = 2) : e.odd = false := by
  simp [EntS.odd]; omega
theorem set_blk (g : Nat → Int) (i : Nat) (id v : Int) (hi : id = i) (h : 1 ≤ id) (h2 : id ≤ 255) : (lsI 256 g).toArray.setIfInBounds i (.int .i64 v) = (lsI 256 (upd g id v)).toArray := updB g id v i hi h h2
theorem NS_set {w : World} {nB : Nat} {f g g' : Nat → Int} {W W' : World} {i : Nat} {v : Value} (h : NS w nB f g W) (hne : nB ≠ w.heap.size) (hle : w.heap.size ≤ nB) (hst : (lsI 256 g).toArray.setIfInBounds i v = (lsI 256 g').toArray) (hW : W'.heap = W.heap := by rfl) (h4 : W'.os = W.os ∧ W'.tape = W.tape ∧ W'.output = W.output := by exact ⟨rfl, rfl, rfl⟩) : NS w nB f g' (W'.setCell ⟨nB, i, none⟩ v) := by
  have h' : NS w nB f g W' := ⟨by rw [hW]; exact h.1, by rw [hW]; exact h.2.1, ⟨h4.1.trans h.2.2.os, h4.2.1.trans h.2.2.tape, h4.2.2.trans h.2.2.output, by rw [hW]; exact h.2.2.size, fun k hk => by rw [hW]; exact h.2.2.block k hk⟩⟩
  exact ⟨blk_far h'.1 (fun e => hne e.symm) _, by rw [blk_set h'.2.1, hst], h'.2.2.setCell hle _⟩
theorem ldS_eq8 (v : Value) : Instr.loadAt 22 v = ldS 22 v := rfl
attribute [local go_sem ↓] ldS_eq8
theorem ldN {W : World} {g : Nat} {f : Nat → Int} (h : W.heap[g]? = some (.cells (lsI 256 f).toArray 22 (0, 0))) : (ldS 22 (.pointer (some ⟨g, 0, none⟩))).run Try.prog W = .ok (.agg (lsI 256 f).toArray) W :=
  run_ldS (range_blk h) Try.underlying22 rfl (infl f)
set_option maxHeartbeats 8000000 in
set_option maxRecDepth 100000 in
theorem applies_walk (f : Nat → Int) (v1 v2 : Value) (l : List EntS) (a : List Int) (w : World) (h1 : ERd w v1 l) (h2 : IRd w v2 a) (hl : l.length ≤ 140737488355328) (ha : a.length ≤ 140737488355328) (hfine : ∀ e ∈ l, e.fine) :
    Calls Try.prog 9 #[.agg (lsI 256 f).toArray, v1, v2] w fun e w' => e = .returned (.bool true) ∧ Below w.heap.size w w' := by
  have hz := zeroW
  have H := Lib.hid (And.intro h1 (And.intro h2 hfine))
  have hfin : ∀ (W : World), Below w.heap.size w W → Calls Try.prog 40 #[.agg (lsI 256 f).toArray, v1, v2] W fun e w' => e = .returned (.tuple #[.agg (lsI 256 (apF f l a)).toArray, .bool (apB f l a)]) ∧ Below W.heap.size W w' := fun W hb =>
    apply_ok f v1 v2 l a W (h1.below hb) (h2.below hb) hl ha hfine
  obtain ⟨A1, c1, rfl, _, _⟩ := h1
  obtain ⟨A2, c2, rfl, _, _⟩ := h2
  have HF := Lib.hid hfin; clear hfin hfine
  go_enter Try.func9, Try.ntmps9
  go_wp2_with fail
  refine (alive_ok _).mono ?_; rintro e w1 ⟨rfl, hb⟩
  have hb0 := block_up (alloc_at (w := w) _ rfl) hb
  have q0 := ldN hb0
  have H1 := Lib.hid (And.intro (below_up (below_alloc1 w _) hb) hb0); clear hb hb0
  have q1 := ldN (alloc_old H1.out.2 (.cells (lsI 256 fun _ => 0).toArray 22))
  go_wp2_with (with_reducible refine wpList_store_rowF rfl 22 _ _ rfl w1.heap.size (lsI 256 f).toArray rfl rfl 22 (lsI 256 fun _ => 0).toArray (alloc_at _ rfl) (inf f) (by rw [lsI_size, lsI_size]) (lsI_all _ _) ?_
               intro W2 hn2 hF2)
  have hns : NS w w1.heap.size f f W2 := by
    have h10 := H1.out.1.size
    have hlt1 := (Array.getElem?_eq_some_iff.1 H1.out.2).1
    exact ⟨blk_fr (alloc_old H1.out.2 _) hF2 (by omega), hn2, (below_alloc H1.out.1 _).trans (hF2.toBelow (fun k hk => by omega) (by simp; omega))⟩
  have hne : w1.heap.size ≠ w.heap.size := by have hlt1 := (Array.getElem?_eq_some_iff.1 H1.out.2).1; omega
  have hle : w.heap.size ≤ w1.heap.size := H1.out.1.size
  generalize w1.heap.size = nB at *
  clear hn2 hF2 q0 q1 H1
  go_loopw [8, 9, 10] (fun vu vo vi W => ∃ (k u : Nat) (ok : Bool) (g : Nat → Int), k ≤ l.length ∧ u ≤ a.length ∧ vi = .int .i64 k ∧ vu = .int .i64 u ∧ vo = .bool ok ∧ LR f l a k u ok g ∧ NS w nB f g W) (fun _ _ vi _ => l.length - (intOf vi).toNat)
  case atStart => exact ⟨0, 0, true, f, by omega, by omega, rfl, rfl, rfl, ⟨fun _ => ⟨by omega, rfl⟩, fun h => by simp at h⟩, hns⟩
  clear hns
  obtain ⟨k, u, ok, g, hk, hu, rfl, rfl, rfl, hLR, hNS⟩ := hrel
  have HL := Lib.hid (And.intro hLR hNS); clear hLR hNS
  by_cases hlt : k < l.length ∧ ok = true
  · obtain ⟨hlt, rfl⟩ := hlt
    have d : decide ((k : Int) < l.length) = true := decide_eq_true (by omega)
    obtain ⟨g1, o1, rfl, _, k1⟩ := H.out.1.get EntS.cells_len (by decide) hlt
    have a0 := cell_up (k1 0 (by decide)) HL.out.2.2.2
    have a1 := cell_up (k1 1 (by decide)) HL.out.2.2.2
    have hno := fun (g' : Nat → Int) hn => LR_no (g' := g') HL.out.1 hlt hn
    have hkp := fun hu => LR_kept HL.out.1 hlt hu
    have hgo := LR_gone HL.out.1 hlt
    clear k1
    generalize l[k] = x at *
    simp only [Nat.add_zero, EntS.cells] at a0 a1
    have HX := Lib.hid (And.intro hno (And.intro hkp hgo)); clear hno hkp hgo
    have HN := Lib.hid (HL.out.2.up (below_alloc1 wr (.cells #[.int .i64 x.kind, .int .i64 x.id] 71)))
    by_cases i1 : 1 ≤ x.id
    · by_cases i2 : x.id ≤ 255
      · by_cases kk : x.kind = 1
        · have e1 : (x.kind == 1) = true := by simpa using kk
          have e2 : (x.kind == 2) = false := by simp [kk]
          by_cases hul : u < a.length
          · have du : decide ((u : Int) < a.length) = true := decide_eq_true (by omega)
            obtain ⟨ad, rfl, k2⟩ := H.out.2.1.get hul
            have k2 := cell_up (cell_up k2 HL.out.2.2.2) (below_alloc1 wr (.cells #[.int .i64 x.kind, .int .i64 x.id] 71))
            have hlr := HX.out.2.1 hul (odd_no i1 i2 (.inl kk)) kk
            generalize a[u] = z at *
            have hst := set_blk g x.id.toNat x.id z (by omega) i1 i2
            have hci : (wr.alloc (.cells #[.int .i64 x.kind, .int .i64 x.id] 71)).cell? ⟨nB, x.id.toNat, none⟩ = some (.int .i64 (g x.id.toNat)) := blkA HN.out.2.1 (by omega)
            have hfi : (wr.alloc (.cells #[.int .i64 x.kind, .int .i64 x.id] 71)).frozen? ⟨nB, x.id.toNat, none⟩ = false := free_block HN.out.2.1 x.id.toNat
            have HS := Lib.hid (And.intro hlr hst); clear hlr hst kk
            go_wp2_with fail
            go_region
            all_goals
              go_wp2
              exact ⟨⟨k + 1, u + 1, true, upd g x.id z, by omega, by omega, by simp, by simp, rfl, HS.out.1, (NS_set HN.out hne hle HS.out.2).up below_drew1⟩, by simp [intOf]; omega⟩
          · have du : decide ((u : Int) < a.length) = false := decide_eq_false (by omega)
            have hlr := HX.out.1 g (by rw [List.drop_eq_nil_of_le (by omega)]; exact apStep_none (odd_no i1 i2 (.inl kk)) kk)
            have HS := Lib.hid hlr; clear hlr kk
            go_wp2
            exact ⟨⟨k + 1, u, false, g, by omega, by omega, by simp, rfl, rfl, HS.out, HN.out⟩, by simp [intOf]; omega⟩
        · have e1 : (x.kind == 1) = false := by simpa using kk
          by_cases kk2 : x.kind = 2
          · have e2 : (x.kind == 2) = true := by simp [kk2]
            have hlr := HX.out.2.2 (odd_no i1 i2 (.inr kk2)) kk
            have hst := set_blk g x.id.toNat x.id 0 (by omega) i1 i2
            have hci : (wr.alloc (.cells #[.int .i64 x.kind, .int .i64 x.id] 71)).cell? ⟨nB, x.id.toNat, none⟩ = some (.int .i64 (g x.id.toNat)) := blkA HN.out.2.1 (by omega)
            have hfi : (wr.alloc (.cells #[.int .i64 x.kind, .int .i64 x.id] 71)).frozen? ⟨nB, x.id.toNat, none⟩ = false := free_block HN.out.2.1 x.id.toNat
            have HS := Lib.hid (And.intro hlr hst); clear hlr hst kk kk2
            go_wp2
            exact ⟨⟨k + 1, u, true, upd g x.id 0, by omega, by omega, by simp, rfl, rfl, HS.out.1, NS_set HN.out hne hle HS.out.2⟩, by simp [intOf]; omega⟩
          · have e2 : (x.kind == 2) = false := by simpa using kk2
            have hlr := HX.out.1 g (apStep_odd (odd_true (.inr (.inr ⟨kk, kk2⟩))))
            have HS := Lib.hid hlr; clear hlr kk kk2
            go_wp2
            exact ⟨⟨k + 1, u, false, g, by omega, by omega, by simp, rfl, rfl, HS.out, HN.out⟩, by simp [intOf]; omega⟩
      · have hlr := HX.out.1 g (apStep_odd (odd_true (.inr (.inl (by omega)))))
        have HS := Lib.hid hlr; clear hlr
        go_wp2
        exact ⟨⟨k + 1, u, false, g, by omega, by omega, by simp, rfl, rfl, HS.out, HN.out⟩, by simp [intOf]; omega⟩
    · have hlr := HX.out.1 g (apStep_odd (odd_true (.inl (by omega))))
      have HS := Lib.hid hlr; clear hlr
      go_wp2
      exact ⟨⟨k + 1, u, false, g, by omega, by omega, by simp, rfl, rfl, HS.out, HN.out⟩, by simp [intOf]; omega⟩
  · have hns := HL.out.2
    unfold NS at hns
    have HL2 := Lib.hid hns; clear hns
    cases ok with
    | false =>
      by_cases hlt2 : k < l.length
      all_goals
       have he := LR_end_no HL.out.1
       rw [he.1, he.2] at HF
       have hq := eqa f f
       rw [eqA_true (fun _ _ => rfl)] at hq
       clear he
       have q2 := ldN HL2.out.1
       go_wp2_with (first
         | (with_reducible refine wpList_store_rowF rfl 22 _ _ rfl nB (lsI 256 f).toArray rfl rfl 22 (lsI 256 g).toArray HL2.out.2.1 (inf _) (by rw [lsI_size, lsI_size]) (lsI_all _ _) ?_
            intro W6 hn6 hF6
            have h6 : NS w nB f f W6 := ⟨blk_fr HL2.out.1 hF6 (fun e => hne e.symm), hn6, HL2.out.2.2.trans (hF6.toBelow (fun k hk => by omega) HL2.out.2.2.size)⟩
            have q5 := ldN h6.1
            have HN6 := Lib.hid h6; clear hn6 hF6 h6)
         | (go_at_call 40; refine (HF.out _ HN6.out.2.2).mono ?_; rintro e w7 ⟨rfl, hb⟩
            have h7 := (HN6.out).up hb
            have HN7 := Lib.hid h7; have HB7 := Lib.hid hb; clear hb h7
            have HN8 := Lib.hid (HN7.out.up (below_alloc1 w7 (.cells (lsI 256 fun _ => 0).toArray 22))))
         | (with_reducible refine wpList_store_rowF rfl 22 _ _ rfl w7.heap.size (lsI 256 f).toArray rfl rfl 22 (lsI 256 fun _ => 0).toArray (alloc_at _ rfl) (inf _) (by rw [lsI_size, lsI_size]) (lsI_all _ _) ?_
            intro W9 hn9 hF9
            have q3 := ldN hn9
            have q4 := ldN (blk_fr HN8.out.2.1 hF9 (by have := (Array.getElem?_eq_some_iff.1 HN7.out.2.1).1; omega))
            have H9 := Lib.hid (HN8.out.2.2.trans (hF9.toBelow (fun k hk => by have := HN7.out.2.2.size; omega) HN8.out.2.2.size)); clear hn9 hF9))
       go_ret
       exact ⟨ret_bool (by simp), H9.out⟩
    | true =>
      have hkl : k = l.length := by
        rcases Nat.lt_or_ge k l.length with h | h
        · exact absurd ⟨h, rfl⟩ hlt
        · omega
      subst hkl
      have d : decide ((l.length : Int) < l.length) = false := decide_eq_false (by omega)
      by_cases hue : u = a.length
      · subst hue
        have d2 : ((a.length : Int) == a.length) = true := by simp
        have he := LR_end_all HL.out.1
        rw [he.1, he.2] at HF
        have hq := eqa g g
        rw [eqA_true (fun _ _ => rfl)] at hq
        clear he
        have q2 := ldN HL2.out.1
        go_wp2_with (first
          | fail
          | (go_at_call 40; refine (HF.out _ HL2.out.2.2).mono ?_; rintro e w7 ⟨rfl, hb⟩
             have h7 := NS.up (w := w) (nB := nB) (f := f) (g := g) HL2.out hb
             have HN7 := Lib.hid h7; have HB7 := Lib.hid hb; clear hb h7
             have HN8 := Lib.hid (HN7.out.up (below_alloc1 w7 (.cells (lsI 256 fun _ => 0).toArray 22))))
          | (with_reducible refine wpList_store_rowF rfl 22 _ _ rfl w7.heap.size (lsI 256 g).toArray rfl rfl 22 (lsI 256 fun _ => 0).toArray (alloc_at _ rfl) (inf _) (by rw [lsI_size, lsI_size]) (lsI_all _ _) ?_
             intro W9 hn9 hF9
             have q3 := ldN hn9
             have q4 := ldN (blk_fr HN8.out.2.1 hF9 (by have := (Array.getElem?_eq_some_iff.1 HN7.out.2.1).1; omega))
             have H9 := Lib.hid (HN8.out.2.2.trans (hF9.toBelow (fun k hk => by have := HN7.out.2.2.size; omega) HN8.out.2.2.size)); clear hn9 hF9))
        go_ret
        exact ⟨ret_bool (by simp), H9.out⟩
      · have d2 : ((u : Int) == a.length) = false := by simp; omega
        have d2' : (u == a.length) = false := by simpa using hue
        have he := LR_end_rest HL.out.1 hue
        rw [he.1, he.2] at HF
        have hq := eqa f f
        rw [eqA_true (fun _ _ => rfl)] at hq
        clear he
        have q2 := ldN HL2.out.1
        go_wp2_with (first
          | (with_reducible refine wpList_store_rowF rfl 22 _ _ rfl nB (lsI 256 f).toArray rfl rfl 22 (lsI 256 g).toArray HL2.out.2.1 (inf _) (by rw [lsI_size, lsI_size]) (lsI_all _ _) ?_
             intro W6 hn6 hF6
             have h6 : NS w nB f f W6 := ⟨blk_fr HL2.out.1 hF6 (fun e => hne e.symm), hn6, HL2.out.2.2.trans (hF6.toBelow (fun k hk => by omega) HL2.out.2.2.size)⟩
             have q5 := ldN h6.1
             have HN6 := Lib.hid h6; clear hn6 hF6 h6)
          | (go_at_call 40; refine (HF.out _ HN6.out.2.2).mono ?_; rintro e w7 ⟨rfl, hb⟩
             have h7 := (HN6.out).up hb
             have HN7 := Lib.hid h7; have HB7 := Lib.hid hb; clear hb h7
             have HN8 := Lib.hid (HN7.out.up (below_alloc1 w7 (.cells (lsI 256 fun _ => 0).toArray 22))))
          | (with_reducible refine wpList_store_rowF rfl 22 _ _ rfl w7.heap.size (lsI 256 f).toArray rfl rfl 22 (lsI 256 fun _ => 0).toArray (alloc_at _ rfl) (inf _) (by rw [lsI_size, lsI_size]) (lsI_all _ _) ?_
             intro W9 hn9 hF9
             have q3 := ldN hn9
             have q4 := ldN (blk_fr HN8.out.2.1 hF9 (by have := (Array.getElem?_eq_some_iff.1 HN7.out.2.1).1; omega))
             have H9 := Lib.hid (HN8.out.2.2.trans (hF9.toBelow (fun k hk => by have := HN7.out.2.2.size; omega) HN8.out.2.2.size)); clear hn9 hF9))
        go_ret
        exact ⟨ret_bool (by simp), H9.out⟩
end Go.Proofs.Ytjikndfpkhgnkaa.Nm
