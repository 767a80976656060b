/- The walk over NmapTells. -/
import Derived.Test.YtjikndfpkhgnkaaNmap4
namespace Go.Proofs.Ytjikndfpkhgnkaa.Nm
open Go.RowKit
set_option linter.unusedVariables false
set_option linter.unusedSimpArgs false

/-- Is it an Id? (behind a name, for the walk) -/
def inB (id : Int) : Bool := decide (1 ≤ id ∧ id ≤ 255)
theorem below_dr {w W : World} {B : Nat} (h : Below B w W) : Below B w W.drew := h.trans ⟨rfl, rfl, rfl, Nat.le_refl _, fun _ _ => rfl⟩
/-- What the law has of its own list, and of its flag. -/
def apk (f : Nat → Int) (k : Nat) : Bool := decide (secs f (idl f k)).Nodup
def apj (f : Nat → Int) (k j : Nat) : Bool := apk f k && decide (f k ∉ (secs f (idl f k)).take j)
theorem apj_zero (f : Nat → Int) (k : Nat) : apj f k 0 = apk f k := by simp [apj]
theorem apj_succ (f : Nat → Int) (k j : Nat) (i : Nat) (h : j < (idl f k).length) (hi : (idl f k)[j] = (i : Int)) : apj f k (j + 1) = (apj f k j && (f i != f k)) := by
  have hj : j < (secs f (idl f k)).length := by simpa [secs] using h
  have e : (secs f (idl f k))[j] = f i := by simp [secs, hi]
  unfold apj
  rw [List.take_succ_eq_append_getElem hj, e, Bool.and_assoc]
  congr 1
  rw [Bool.eq_iff_iff, Bool.and_eq_true, decide_eq_true_iff, decide_eq_true_iff, bne_iff_ne, List.mem_append, not_or, List.mem_singleton]
  exact ⟨fun h => ⟨h.1, fun e => h.2 e.symm⟩, fun h => ⟨h.1, fun e => h.2 e.symm⟩⟩
theorem secs_len (f : Nat → Int) (l : List Int) : (secs f l).length = l.length := by simp [secs]
theorem apk_yes {f : Nat → Int} {k : Nat} (h : 0 < k) (h2 : f k ≠ 0) : apk f (k + 1) = apj f k (idl f k).length := by
  unfold apj apk
  rw [idl_yes h h2, ← secs_len f, List.take_length]
  have : secs f (idl f k ++ [(k : Int)]) = secs f (idl f k) ++ [f k] := by simp [secs]
  rw [this, Bool.eq_iff_iff]
  simp [List.nodup_append]
  intro _
  constructor
  · intro h e; exact h _ e rfl
  · intro h a ha e; exact h (e ▸ ha)
theorem apk_no {f : Nat → Int} {k : Nat} (h : ¬ (0 < k ∧ f k ≠ 0)) : apk f (k + 1) = apk f k := by unfold apk; rw [idl_no h]
def TS (w : World) (g n : Nat) (Lf Lu : List Value) (f : Nat → Int) (vo : Value) (k : Nat) (W : World) : Prop :=
  W.heap[g]? = some (.cells Lf.toArray 22 (0, 0)) ∧ W.heap[n]? = some (.cells Lu.toArray 22 (0, 0)) ∧ W.ownsRow w.heap.size 3 1 vo (idl f k).length (iv (idl f k)) ∧ Below w.heap.size w W
theorem TS.up {w W W' : World} {g n : Nat} {Lf Lu : List Value} {f : Nat → Int} {vo : Value} {k : Nat} (h : TS w g n Lf Lu f vo k W) (hb : Below W.heap.size W W') : TS w g n Lf Lu f vo k W' :=
  ⟨block_up h.1 hb, block_up h.2.1 hb, own_below h.2.2.1 hb, below_up h.2.2.2 hb⟩
theorem updB (f : Nat → Int) (id v : Int) (k : Nat) (hk : id = k) (h : 1 ≤ id) (h2 : id ≤ 255) : (lsI 256 f).toArray.setIfInBounds k (.int .i64 v) = (lsI 256 (upd f id v)).toArray := by
  rw [lsI_setA]
  congr 1
  refine lsI_congr fun i hi => ?_
  unfold upd
  by_cases e : i = k
  · rw [if_pos e, if_pos (by omega)]
  · rw [if_neg e, if_neg (by omega)]
theorem updN (f : Nat → Int) (id v : Int) (h : ¬ (1 ≤ id ∧ id ≤ 255)) : lsI 256 (upd f id v) = lsI 256 f := lsI_congr fun i hi => by unfold upd; rw [if_neg (by omega)]
theorem ldS_eq (v : Value) : Instr.loadAt 22 v = ldS 22 v := rfl
attribute [local go_sem ↓] ldS_eq
set_option maxHeartbeats 8000000 in
set_option maxRecDepth 100000 in
theorem tells_walk (f : Nat → Int) (id v : Int) (w : World) (hf : ∀ i, i < 256 → -9223372036854775808 ≤ f i ∧ f i ≤ 9223372036854775807) (i1 : -9223372036854775808 ≤ id) (i2 : id ≤ 9223372036854775807) :
    Calls Try.prog 3 #[.agg (lsI 256 f).toArray, .int .i64 id, .int .i64 v] w fun e w' => e = .returned (.bool true) ∧ Below w.heap.size w w' := by
  have hz := zeroW
  have hset := set_ok f id v
  have hids := ids_ok f
  have hap := apart_ok f
  have hif := inf f
  have hi0 := inf (fun _ => 0)
  have hiu := inf (upd f id v)
  have hsf := lsI_size 256 f
  have hs0 := lsI_size 256 (fun _ => 0)
  have haf := lsI_all 256 f
  have hyes := updB f id v
  have hno := updN f id v
  have hget : ∀ i, i < 256 → (lsI 256 f)[i]? = some (.int .i64 (f i)) := fun i h => lsI_get f h
  have heq : ∀ W, (binOp .eql 22 (.agg (lsI 256 (upd f id v)).toArray) (.agg (lsI 256 (upd f id v)).toArray)).run Try.prog W = .ok (.bool true) W := fun W => by
    rw [eqa, eqA_true (fun _ _ => rfl)]
  generalize (lsI 256 fun _ => 0) = L0 at *
  generalize (lsI 256 f) = Lf at *
  generalize (lsI 256 (upd f id v)) = Lu at *
  have HC := Lib.hid (And.intro (fun W => hset W i1 i2) (And.intro hids (fun W => hap W hf)))
  have HI := Lib.hid (And.intro hif (And.intro hi0 (And.intro hiu (And.intro hsf (And.intro hs0 haf)))))
  have HG := Lib.hid (And.intro hyes (And.intro hno (And.intro hget (And.intro heq hf))))
  clear hset hids hap hif hi0 hiu hsf hs0 haf hyes hno hget heq hf
  clear i1 i2
  go_enter Try.func3, Try.ntmps3
  go_wp2_with fail
  refine (alive_ok _).mono ?_; rintro e w1 ⟨rfl, hb⟩
  have H1 := Lib.hid (And.intro (below_up (below_alloc1 w _) hb) (block_up (alloc_at (w := w) _ rfl) hb)); clear hb
  go_upto_region 4 with (first
    | (with_reducible refine wpList_load_row rfl 22 _ rfl w.heap.size rfl 22 Lf.toArray (0, 0) _ H1.out.2 Try.underlying22 rfl HI.out.1 ?_)
    | (with_reducible refine wpList_store_rowF rfl 22 _ _ rfl w1.heap.size Lf.toArray rfl rfl 22 L0.toArray (alloc_at _ rfl) HI.out.1 (by rw [HI.out.2.2.2.2.1, HI.out.2.2.2.1]) HI.out.2.2.2.2.2 ?_
       intro W2 hn2 hF2))
  have h10 := H1.out.1.size
  have hlt1 := (Array.getElem?_eq_some_iff.1 H1.out.2).1
  have H2 : W2.heap[w.heap.size]? = some (.cells Lf.toArray 22 (0, 0)) ∧ Below w.heap.size w W2 :=
    ⟨blk_fr (alloc_old H1.out.2 _) hF2 (by omega), (below_alloc H1.out.1 _).trans (hF2.toBelow (fun k hk => by omega) (by simp; omega))⟩
  have H2 := Lib.hid (And.intro hn2 H2)
  have hn1 : w1.heap.size ≠ w.heap.size := by omega
  obtain ⟨n, hn⟩ : ∃ n, n = w1.heap.size := ⟨_, rfl⟩
  rw [← hn] at H2 hn1 ⊢
  have Hn := Lib.hid hn; clear hn hn2 hF2 hlt1 h10 hz
  go_frame
  go_cut [20] (fun vt wx => vt = .bool (inB id) ∧ wx = W2)
  case first =>
    by_cases h1 : 1 ≤ id
    · by_cases h2 : id ≤ 255
      · have e : inB id = true := decide_eq_true ⟨h1, h2⟩
        go_wp2
        go_meet
        case rel => exact ⟨by rw [e], rfl⟩
      · have e : inB id = false := decide_eq_false (fun h => h2 h.2)
        go_wp2
        go_meet
        case rel => exact ⟨by rw [e], rfl⟩
    · have e : inB id = false := decide_eq_false (fun h => h1 h.1)
      go_wp2
      go_meet
      case rel => exact ⟨by rw [e], rfl⟩
  case rest =>
  obtain ⟨rfl, hw⟩ := hcut
  replace hw := hw.symm; subst hw
  go_upto_if 20 with (fail)
  go_cut [] (fun wx => TS w w.heap.size n Lf Lu f (.slice none 0 0) 0 wx)
  case first =>
    by_cases h : 1 ≤ id ∧ id ≤ 255
    · have e : inB id = true := decide_eq_true h
      obtain ⟨k, hk⟩ := Int.eq_ofNat_of_zero_le (by omega : 0 ≤ id)
      have hk2 : k < 256 := by omega
      have hst := HG.out.1 k hk h.1 h.2
      have hc := HG.out.2.2.1 k hk2
      have hck : W2.cell? ⟨n, k, none⟩ = some (.int .i64 (f k)) := by rw [cell_block H2.out.1]; simpa using hc
      have hfk : W2.frozen? ⟨n, k, none⟩ = false := free_block H2.out.1 k
      have HS := Lib.hid (And.intro hst h); clear hst hc h
      rw [e]
      clear e
      have HK := Lib.hid hk
      subst hk
      go_wp2
      go_meet
      case rel =>
        refine ⟨blk_far H2.out.2.1 (by simpa using Ne.symm hn1) _, ?_, ⟨rfl, .inl ⟨rfl, rfl⟩⟩, H2.out.2.2.setCell (by have := H1.out.1.size; rw [Hn.out]; exact this) _⟩
        rw [blk_set H2.out.1, HS.out.1]
    · have e : inB id = false := decide_eq_false h
      have hst := HG.out.2.1 h
      rw [e]
      have HST := Lib.hid hst
      clear h e hst
      go_wp2
      go_meet
      case rel =>
        refine ⟨H2.out.2.1, ?_, ⟨rfl, .inl ⟨rfl, rfl⟩⟩, H2.out.2.2⟩
        rw [HST.out]; exact H2.out.1
  case rest =>
  have HT := Lib.hid hcut; clear hcut H2 H1 Hn
  go_wp2_with fail
  go_loopw [8, 9, 10] (fun vo va vi W => ∃ k : Nat, 1 ≤ k ∧ k ≤ 256 ∧ vi = .int .i64 k ∧ va = .bool (apk f k) ∧ TS w w.heap.size n Lf Lu f vo k W) (fun _ _ vi _ => 256 - (intOf vi).toNat)
  case atStart => exact ⟨1, by omega, by omega, rfl, rfl, HT.out⟩
  obtain ⟨k, hk1, hk, rfl, rfl, hTS⟩ := hrel
  obtain ⟨A0, c0, rfl, _, _, _, _⟩ := own_rd hTS.2.2.1
  have hll := idl_len f k
  have HO := Lib.hid hTS; clear hTS
  by_cases hlt : k < 256
  · have d : decide ((k : Int) < 256) = true := decide_eq_true (by omega)
    have hck : wr.cell? ⟨w.heap.size, k, none⟩ = some (.int .i64 (f k)) := by rw [cell_block HO.out.1]; simpa using HG.out.2.2.1 k hlt
    by_cases h0 : f k = 0
    · have e0 : (f k == 0) = true := by simpa using h0
      have hno : ¬ (0 < k ∧ f k ≠ 0) := fun h => h.2 h0
      have hn1 := idl_no hno
      have hn2 := apk_no hno
      have HN := Lib.hid (And.intro hn1 hn2); clear hn1 hn2 hno h0
      generalize f k = y at *
      go_wp2
      exact ⟨⟨k + 1, by omega, by omega, by simp, by rw [HN.out.2], by unfold TS; rw [HN.out.1]; exact HO.out⟩, by simp [intOf]; omega⟩
    · have e0 : (f k == 0) = false := by simpa using h0
      have hn1 := idl_yes (f := f) (k := k) (by omega) h0
      have hn2 := apk_yes (f := f) (k := k) (by omega) h0
      have HN := Lib.hid (And.intro hn1 hn2); clear hn1 hn2 h0
      go_wp2_with fail
      obtain ⟨wo, hwo⟩ : ∃ wo : World, wo = wr := ⟨_, rfl⟩
      subst hwo
      go_loopw [9, 11] (fun va vj W => ∃ j : Nat, j ≤ (idl f k).length ∧ vj = .int .i64 j ∧ va = .bool (apj f k j) ∧ Below wo.heap.size wo W) (fun _ vj _ => (idl f k).length - (intOf vj).toNat)
      case atStart => exact ⟨0, by omega, rfl, by rw [apj_zero], Below.refl _ _⟩
      obtain ⟨j, hj, rfl, rfl, hbj⟩ := hrel
      have HB := Lib.hid hbj; clear hbj
      by_cases hjl : j < (idl f k).length
      · have dj : decide ((j : Int) < (idl f k).length) = true := decide_eq_true (by omega)
        obtain ⟨ad, rfl, k1⟩ := (ird_own HO.out.2.2.1).get hjl
        obtain ⟨i, hi, hi2⟩ := idl_mem f k _ (List.getElem_mem hjl)
        have hs := apj_succ f k j i hjl hi
        rw [hi] at k1
        have hci : wo.cell? ⟨w.heap.size, i, none⟩ = some (.int .i64 (f i)) := by rw [cell_block HO.out.1]; simpa using HG.out.2.2.1 i (by omega)
        have k1 := cell_up k1 HB.out
        have hci := cell_up hci HB.out
        have hck := cell_up hck HB.out
        have HSJ := Lib.hid hs; clear hs hi
        have hi3 : i < 256 := by omega
        generalize apj f k j = b at *
        generalize f i = x at *
        generalize f k = y at *
        cases b with
        | true =>
          go_wp2_with fail
          go_quiet (fail)
          go_wp2
          exact ⟨⟨j + 1, by omega, by simp, by rw [HSJ.out, Bool.true_and], HB.out.trans ⟨rfl, rfl, rfl, Nat.le_refl _, fun _ _ => rfl⟩⟩, by simp [intOf]; omega⟩
        | false =>
          go_wp2_with fail
          go_quiet (fail)
          go_wp2
          exact ⟨⟨j + 1, by omega, by simp, by rw [HSJ.out, Bool.false_and], HB.out.trans ⟨rfl, rfl, rfl, Nat.le_refl _, fun _ _ => rfl⟩⟩, by simp [intOf]; omega⟩
      · have hjl2 : j = (idl f k).length := by omega
        subst hjl2
        have dj : decide (((idl f k).length : Int) < (idl f k).length) = false := decide_eq_false (by omega)
        rw [← HN.out.2]
        have HO2 := Lib.hid (HO.out.up HB.out)
        clear hck
        go_wp2_with (at_builtin; refine wpList_app rfl _ _ 24 rfl w.heap.size 3 (.int .i64 0) 1 8 Try.underlying24 info_i64 rfl (by decide) (by decide) (.slice A0 (idl f k).length c0) (idl f k).length (iv (idl f k)) rfl (some ⟨wr.heap.size, 0, none⟩) 1 1 (iv [(k : Int)]) rfl ?_ rfl ?_ (iv_one _) (by omega) ?_ ?_)
        · exact own_move HO2.out.2.2.1 (fun b hb => ((Below.refl wr.heap.size wr).alloc (Nat.le_refl _) _).block b (own_lt HO2.out.2.2.1 b hb))
        · exact rd_new _ _ _ _ rfl
        · have := HO2.out.2.2.2.size; simp; omega
        intro A1 c1 w9 hown hgrow hat
        rw [← iv_append, ← HN.out.1] at hown
        have hl : (idl f k).length + 1 = (idl f (k + 1)).length := by rw [HN.out.1]; simp
        rw [hl] at hown ⊢
        have h1 := alloc_old HO2.out.1 (.cells #[.int .i64 (k : Int)] 3)
        have h2 := alloc_old HO2.out.2.1 (.cells #[.int .i64 (k : Int)] 3)
        have hTS : TS w w.heap.size n Lf Lu f (.slice A1 (idl f (k + 1)).length c1) (k + 1) w9 :=
          ⟨(hgrow.block _ (Array.getElem?_eq_some_iff.1 h1).1 (fun e => own_ne_block HO2.out.2.2.1 HO2.out.1 (by decide) e.symm)).trans h1,
           (hgrow.block _ (Array.getElem?_eq_some_iff.1 h2).1 (fun e => own_ne_block HO2.out.2.2.1 HO2.out.2.1 (by decide) e.symm)).trans h2, hown,
           below_grown (below_alloc HO2.out.2.2.2 _) hgrow (fun b e => own_base HO2.out.2.2.1 b e)⟩
        have HM := Lib.hid hTS; clear hTS hown hgrow hat hl h1 h2
        go_wp2
        exact ⟨⟨k + 1, by omega, by omega, by simp, rfl, HM.out⟩, by simp [intOf]; omega⟩
  · have hkl : k = 256 := by omega
    subst hkl
    have hif := HI.out.1
    have hiu := HI.out.2.2.1
    have d : decide (((256 : Nat) : Int) < 256) = false := by decide
    have hlf : (Try.prog.info? 22).map (·.size) = some Lf.length := by simpa using HI.out.1
    have hlu : (Try.prog.info? 22).map (·.size) = some Lu.length := by simpa using HI.out.2.2.1
    have HLL := Lib.hid (And.intro hlf hlu)
    have heq := HG.out.2.2.2.1
    have hap := HC.out.2.2
    rw [show decide (secs f (idl f 256)).Nodup = apk f 256 from rfl] at hap
    generalize apk f 256 = ap at *
    have HAP := Lib.hid hap; clear hap
    have S0 : wr.drew.rangeAt w.heap.size 0 Lf ∧ wr.drew.rangeAt n 0 Lu ∧ IRd wr.drew (.slice A0 (idl f 256).length c0) (idl f 256) ∧ Below w.heap.size w wr.drew :=
      ⟨range_up (range_blk HO.out.1) below_drew1, range_up (range_blk HO.out.2.1) below_drew1, (ird_own HO.out.2.2.1).below below_drew1, below_up HO.out.2.2.2 below_drew1⟩
    have HS0 := Lib.hid S0; clear S0
    have hmv : ∀ W W' : World, (W.rangeAt w.heap.size 0 Lf ∧ W.rangeAt n 0 Lu ∧ IRd W (.slice A0 (idl f 256).length c0) (idl f 256) ∧ Below w.heap.size w W) → Below W.heap.size W W' →
        (W'.rangeAt w.heap.size 0 Lf ∧ W'.rangeAt n 0 Lu ∧ IRd W' (.slice A0 (idl f 256).length c0) (idl f 256) ∧ Below w.heap.size w W') := fun W W' h hb =>
      ⟨range_up h.1 hb, range_up h.2.1 hb, h.2.2.1.below hb, below_up h.2.2.2 hb⟩
    have HM := Lib.hid hmv; clear hmv
    have q1 := run_ldS HS0.out.1 Try.underlying22 rfl HLL.out.1
    have q2 := run_ldS HS0.out.2.1 Try.underlying22 rfl HLL.out.2
    clear hif hiu
    go_wp2_with fail
    go_region_with (first
        | (go_at_call 15; refine (HC.out.1 _).mono ?_; rintro e w8 ⟨rfl, hb⟩; have HS1 := Lib.hid (HM.out _ _ HS0.out hb); clear hb; have q1 := run_ldS HS1.out.1 Try.underlying22 rfl HLL.out.1; have q2 := run_ldS HS1.out.2.1 Try.underlying22 rfl HLL.out.2)
        | (go_at_call 17; refine (HC.out.2.1 _).mono ?_; rintro e w9 ⟨v9, rfl, hb, hown9⟩; have HS2 := Lib.hid (HM.out _ _ HS1.out hb); have HI9 := Lib.hid (ird_own hown9); clear hown9 hb; have q1 := run_ldS HS2.out.1 Try.underlying22 rfl HLL.out.1)
        | (go_at_call 16; refine (ints_ok _ _ _ _ _ HI9.out HS2.out.2.2.1 (by omega) (by omega)).mono ?_; rintro e w10 ⟨rfl, hb⟩; have HS3 := Lib.hid (HM.out _ _ HS2.out hb); clear hb; have q1 := run_ldS HS3.out.1 Try.underlying22 rfl HLL.out.1)
        | (go_at_call 18; refine (HAP.out _).mono ?_; rintro e w11 ⟨rfl, hb⟩; have HS4 := Lib.hid (HM.out _ _ HS3.out hb); clear hb))
    all_goals
      go_wp2
      go_ret
      exact ⟨ret_bool (by simp), HS4.out.2.2.2⟩
end Go.Proofs.Ytjikndfpkhgnkaa.Nm
