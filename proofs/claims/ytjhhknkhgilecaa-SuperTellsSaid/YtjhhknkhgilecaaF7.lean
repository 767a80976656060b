/- The walk over croftref01.Read. -/
import Derived.Test.YtjhhknkhgilecaaF6
namespace Go.Proofs.Ytjhhknkhgilecaa.Fm
open Go.RowKit Lt
set_option linter.unusedVariables false
set_option linter.unusedSimpArgs false
theorem okR_iff {b : List UInt8} (hs : snd b = true) : okR b ↔ ((b.getD 0 0).toNat = 67 ∧ (b.getD 1 0).toNat = 82 ∧ nOf b ≤ 238 ∧ ∀ j, j < 252 → 14 + nOf b ≤ j → (b.getD j 0).toNat = 0) := by
  have hu : ∀ (x : UInt8) (k : Nat), k < 256 → (x.toNat = k ↔ x = UInt8.ofNat k) := fun x k hk => by
    constructor
    · intro h; apply UInt8.toNat_inj.1; rw [h]; simp; omega
    · rintro rfl; simp; omega
  unfold okR
  constructor
  · rintro ⟨_, h1, h2, h3, h4⟩
    exact ⟨(hu _ 67 (by decide)).2 h1, (hu _ 82 (by decide)).2 h2, h3, fun j a c => (hu _ 0 (by decide)).2 (h4 j a c)⟩
  · rintro ⟨h1, h2, h3, h4⟩
    exact ⟨hs, (hu _ 67 (by decide)).1 h1, (hu _ 82 (by decide)).1 h2, h3, fun j a c => (hu _ 0 (by decide)).1 (h4 j a c)⟩
theorem rd_at {w : World} {g o : Nat} {b : List UInt8} (hr : Rd w (some ⟨g, o, none⟩) (bv b)) {i : Nat} (hi : i < b.length) : w.cell? ⟨g, o + i, none⟩ = some (.int .u8 ((b.getD i 0).toNat : Nat)) := by
  obtain ⟨ad, e, h⟩ := hr.at_ (i := i) (by rw [bv_length]; exact hi)
  cases e
  rw [add_plain] at h
  rw [h]
  simp [bv, List.getD]
  rw [List.getElem?_eq_getElem hi]
  rfl
set_option maxHeartbeats 8000000 in
set_option maxRecDepth 100000 in
theorem read_ok (v : Value) (b : List UInt8) (w : World) (hv : BRd w v b) (hl : b.length ≤ 140737488351232) :
    Calls Try.prog 16 #[v] w fun e w' => ∃ x, e = .returned (.tuple #[.int .i64 (oK b : Nat), sv (oS b), x, .bool (decide (okR b))]) ∧ BRd w' x (oT b) ∧ Below w.heap.size w w' := by
  obtain ⟨RK, hRK⟩ : ∃ x, oK b = x := ⟨_, rfl⟩
  obtain ⟨RS, hRS⟩ : ∃ x, oS b = x := ⟨_, rfl⟩
  obtain ⟨RT, hRT⟩ : ∃ x, oT b = x := ⟨_, rfl⟩
  obtain ⟨RE, hRE⟩ : ∃ x, decide (okR b) = x := ⟨_, rfl⟩
  rw [hRK, hRS, hRT, hRE]
  have hbadR : ¬ okR b → RK = 0 ∧ RS = StS.zero ∧ RT = [] ∧ RE = false := fun h => by
    obtain ⟨h1, h2, h3, h4⟩ := o_no h
    exact ⟨hRK.symm.trans h1, hRS.symm.trans h2, hRT.symm.trans h3, hRE.symm.trans (decide_eq_false h)⟩
  have hokR : okR b → RK = kOf b ∧ RS = sOf b ∧ RT = tOf b ∧ RE = true := fun h => by
    obtain ⟨h1, h2, h3, h4⟩ := o_yes h
    exact ⟨hRK.symm.trans h1, hRS.symm.trans h2, hRT.symm.trans h3, hRE.symm.trans (decide_eq_true h)⟩
  have HRR := Lib.hid (And.intro hbadR hokR); clear hbadR hokR hRK hRS hRT hRE
  have hz := alloc_at (w := w) (.cells #[.int .i64 0, .int .i64 0, .int .i64 0] 32) rfl
  have hb0 := below_alloc1 w (.cells #[.int .i64 0, .int .i64 0, .int .i64 0] 32)
  have hso := refsound_ok v b _ (hv.below hb0) hl
  have HZ := Lib.hid (And.intro hz (And.intro hb0 hso)); clear hz hb0 hso
  cases hs : snd b with
  | false =>
    rw [hs] at HZ
    obtain ⟨rfl, rfl, rfl, rfl⟩ := HRR.out.1 (fun h => by have := h.1; rw [hs] at this; cases this)
    clear hv hs
    go_enter Try.func16, Try.ntmps16
    go_wp2_with (first
      | (go_at_call 56; (with_reducible refine HZ.out.2.2.mono ?_); rintro e w1 ⟨rfl, hb⟩; have H1 := Lib.hid (And.intro (block_up HZ.out.1 hb) (below_up HZ.out.2.1 hb)); clear hb)
      | (refine wpList_store_rowF rfl 32 _ _ rfl w.heap.size #[.int .i64 0, .int .i64 0, .int .i64 0] rfl rfl 32 #[.int .i64 0, .int .i64 0, .int .i64 0] H1.out.1 info_st rfl (by simp [Value.oneCell']) ?_
         intro W9 hn9 hF9
         have HF := Lib.hid (And.intro hn9 (fr_below H1.out.2 hF9 (Nat.le_refl _))); clear hn9 hF9))
    exact bodyPost_ret (v := .tuple #[.int .i64 0, sv StS.zero, .slice none 0 0, .bool false]) (results_tctt (a := 2) (p := 3) (c := 4) (d := 5) rfl _ _ w.heap.size _ _ (0, 0) _ rfl HF.out.1 Try.underlying32 rfl info_st _ _ _ rfl rfl rfl) rfl ⟨_, rfl, brd_nil _, HF.out.2⟩
  | true =>
    rw [hs] at HZ
    obtain ⟨h256, _⟩ := snd_l hs
    obtain ⟨A, c, rfl, hlc, _, _⟩ := id hv
    obtain ⟨g, o, rfl, hr, hgl⟩ := brd_cut hv (by intro e; rw [e] at h256; simp at h256)
    have hcell := fun (W : World) (hb : Below w.heap.size w W) (i : Nat) (hi : i < 256) => rd_at (hr.below hb) (i := i) (by omega)
    have hsl := fun (W : World) (hb : Below w.heap.size w W) (k m C : Nat) (h1 : k ≤ m) (h2 : m ≤ 256) (h3 : m - k ≤ C) => brd_sl (hr.below hb) k m C h1 (by omega) h3
    have hiff := okR_iff hs
    have HC := Lib.hid (And.intro hcell (And.intro hsl hiff)); clear hcell hsl hiff hr hv hs
    have h0b := (b.getD 0 0).toNat_lt
    have h1b := (b.getD 1 0).toNat_lt
    have h13b := (b.getD 13 0).toNat_lt
    obtain ⟨N0, e0⟩ : ∃ n, (b.getD 0 0).toNat = n := ⟨_, rfl⟩
    obtain ⟨N1, e1⟩ : ∃ n, (b.getD 1 0).toNat = n := ⟨_, rfl⟩
    obtain ⟨n, e13⟩ : ∃ n, (b.getD 13 0).toNat = n := ⟨_, rfl⟩
    rw [e0] at h0b; rw [e1] at h1b; rw [e13] at h13b
    have hi2 := HC.out.2.2
    rw [e0, e1, show nOf b = n from e13] at hi2
    have HE := Lib.hid (And.intro e0 (And.intro e1 (And.intro e13 hi2))); clear e0 e1 e13 hi2
    have b1 : (0 : Int) < b.length := by omega
    have b2 : (1 : Int) < b.length := by omega
    have b3 : (13 : Int) < b.length := by omega
    have b4 : 13 < b.length := by omega
    have b5 : (2 : Int) < b.length := by omega
    have b6 : (252 : Int) ≤ b.length := by omega
    have b7 : (256 : Int) ≤ c := by omega
    have b9 : 256 ≤ c := by omega
    have H256 := Lib.hid h256; clear h256
    go_enter Try.func16, Try.ntmps16
    go_wp2_with fail
    (with_reducible refine HZ.out.2.2.mono ?_); rintro e w1 ⟨rfl, hb⟩
    have H1 := Lib.hid (And.intro (block_up HZ.out.1 hb) (below_up HZ.out.2.1 hb)); clear hb
    have d0 := HC.out.1 _ H1.out.2 0 (by decide)
    have d1 := HC.out.1 _ H1.out.2 1 (by decide)
    have d13 := HC.out.1 _ H1.out.2 13 (by decide)
    rw [HE.out.1, Nat.add_zero] at d0
    rw [HE.out.2.1] at d1
    rw [HE.out.2.2.1] at d13
    by_cases c0 : N0 = 67
    · subst c0
      by_cases c1 : N1 = 82
      · subst c1
        by_cases c2 : n ≤ 238
        · have k2 : decide ((238 : Int) < n) = false := decide_eq_false (by omega)
          have kn : IntKind.i64.wrap (n : Int) = n := by rw [IntKind.wrap_i64]; omega
          go_wp2_with fail
          go_loop [7] (fun vi => ∃ i : Nat, 14 + n ≤ i ∧ i ≤ 252 ∧ vi = .int .i64 i ∧ ∀ j, j < i → 14 + n ≤ j → (b.getD j 0).toNat = 0) (fun vi => 252 - (intOf vi).toNat)
          case atStart => exact ⟨14 + n, Nat.le_refl _, by omega, by go_num, fun j h1 h2 => by omega⟩
          case round =>
          obtain ⟨i, hi1, hi2, rfl, hz⟩ := hrel
          have HI := Lib.hid hz; clear hz d0 d1 d13
          by_cases hlt : i < 252
          · have dl : decide ((i : Int) < 252) = true := decide_eq_true (by omega)
            have di := HC.out.1 _ H1.out.2 i (by omega)
            have k5 : (i : Int) < b.length := by omega
            have k6 : i < b.length := by omega
            have hxb := (b.getD i 0).toNat_lt
            obtain ⟨x, hx⟩ : ∃ x, (b.getD i 0).toNat = x := ⟨_, rfl⟩
            rw [hx] at di hxb
            have HX := Lib.hid hx; clear hx
            by_cases hx0 : x = 0
            · subst hx0
              have hz2 : ∀ j, j < i + 1 → 14 + n ≤ j → (b.getD j 0).toNat = 0 := fun j h1 h2 => by
                by_cases e : j = i
                · rw [e]; exact HX.out
                · exact HI.out j (by omega) h2
              have HZ2 := Lib.hid hz2; clear hz2
              go_wp2
              go_round
              case rel => exact ⟨i + 1, by omega, by omega, by go_num, HZ2.out⟩
              case measure => simp [intOf]; omega
            · obtain ⟨rfl, rfl, rfl, rfl⟩ := HRR.out.1 (fun h => hx0 (HX.out.symm.trans ((HE.out.2.2.2.1 h).2.2.2 i hlt hi1)))
              have k8 : (((x : Nat) : Int) != 0) = true := by rw [bne_iff_ne]; omega
              have k9 : (((x : Nat) : Int) == 0) = false := by rw [beq_eq_false_iff_ne]; omega
              clear hx0
              go_wp2_with (refine wpList_store_rowF rfl 32 _ _ rfl w.heap.size #[.int .i64 0, .int .i64 0, .int .i64 0] rfl rfl 32 #[.int .i64 0, .int .i64 0, .int .i64 0] H1.out.1 info_st rfl (by simp [Value.oneCell']) ?_
                           intro W9 hn9 hF9
                           have HF := Lib.hid (And.intro hn9 (fr_below H1.out.2 hF9 (Nat.le_refl _))); clear hn9 hF9)
              exact bodyPost_ret (v := .tuple #[.int .i64 0, sv StS.zero, .slice none 0 0, .bool false]) (results_tctt (a := 2) (p := 3) (c := 4) (d := 5) rfl _ _ w.heap.size _ _ (0, 0) _ rfl HF.out.1 Try.underlying32 rfl info_st _ _ _ rfl rfl rfl) rfl ⟨_, rfl, brd_nil _, HF.out.2⟩
          · have hi3 : i = 252 := by omega
            subst hi3
            have dl : decide ((252 : Int) < 252) = false := by decide
            obtain ⟨rfl, rfl, rfl, rfl⟩ := HRR.out.2 (HE.out.2.2.2.2 ⟨by trivial, by trivial, c2, HI.out⟩)
            have d2 := HC.out.1 _ H1.out.2 2 (by decide)
            have s1 := fun (W : World) (hb : Below w.heap.size w W) => refget_ok _ _ W (HC.out.2.1 W hb 3 7 (c - 3) (by decide) (by decide) (by omega)) (by simp; omega)
            have s2 := fun (W : World) (hb : Below w.heap.size w W) => refget_ok _ _ W (HC.out.2.1 W hb 7 11 (c - 7) (by decide) (by decide) (by omega)) (by simp; omega)
            have s3 := fun (W : World) (hb : Below w.heap.size w W) => refget_ok _ _ W (HC.out.2.1 W hb 11 13 (c - 11) (by decide) (by decide) (by omega)) (by simp; omega)
            have s4 := fun (W : World) (hb : Below w.heap.size w W) => HC.out.2.1 W hb 14 (14 + n) (c - 14) (by omega) (by omega) (by omega)
            have hso : sOf b = ⟨(getB ((b.take 7).drop 3) : Nat), (getB ((b.take 11).drop 7) : Nat), (getB ((b.take 13).drop 11) : Nat)⟩ := by unfold sOf; simp only [List.drop_take]
            have hto : tOf b = (b.take (14 + n)).drop 14 := by unfold tOf; rw [List.drop_take, show nOf b = n from HE.out.2.2.1]; congr 1; omega
            obtain ⟨G1, g1⟩ : ∃ x, getB ((b.take 7).drop 3) = x := ⟨_, rfl⟩
            obtain ⟨G2, g2⟩ : ∃ x, getB ((b.take 11).drop 7) = x := ⟨_, rfl⟩
            obtain ⟨G3, g3⟩ : ∃ x, getB ((b.take 13).drop 11) = x := ⟨_, rfl⟩
            rw [g1] at s1 hso; rw [g2] at s2 hso; rw [g3] at s3 hso
            have HS := Lib.hid (And.intro s1 (And.intro s2 (And.intro s3 (And.intro s4 (And.intro hso hto))))); clear s1 s2 s3 s4 hso hto g1 g2 g3 HI
            have m1 : ¬ c = 3 := by omega
            have m2 : ¬ c = 7 := by omega
            have m3 : ¬ c = 11 := by omega
            have m4 : ¬ c = 14 := by omega
            have m5 : (7 : Int) ≤ c := by omega
            have m6 : (11 : Int) ≤ c := by omega
            have m7 : (13 : Int) ≤ c := by omega
            have m8 : (14 : Int) + n ≤ c := by omega
            have m9 : (14 : Int) ≤ 14 + n := by omega
            have m10 : 14 + n ≤ c := by omega
            have m11 : (0 : Int) ≤ 14 + n := by omega
            have kw : IntKind.i64.wrap (14 + (n : Int)) = 14 + n := by rw [IntKind.wrap_i64]; omega
            have kt : (14 + (n : Int)).toNat = 14 + n := by omega
            have ks : 14 + n - 14 = n := by omega
            have ks2 : ((14 : Int) + n - 14).toNat = n := by omega
            have hkk : (b.getD 2 0).toNat = kOf b := rfl
            rw [hkk] at d2
            have hkb : kOf b < 256 := (b.getD 2 0).toNat_lt
            clear hkk
            have kwk : IntKind.i64.wrap ((kOf b : Nat) : Int) = (kOf b : Nat) := by rw [IntKind.wrap_i64]; omega
            have HD2 := Lib.hid d2; clear d2
            go_upto_region 9 with (fail)
            refine wp_region_held_drew (S := fun W => W.cell? ⟨g, o + 2, none⟩ = some (.int .u8 (kOf b : Nat)) ∧ Below w.heap.size w W) (by kernel_rfl) ⟨cell_up HD2.out below_drew1, below_up H1.out.2 below_drew1⟩ (fun hHeld0 => ?_)
            have H2 := Lib.hid (block_up H1.out.1 below_drew1)
            generalize (World.drew w1) = w2 at *
            refine wpAnyH_take (i := 0) (v := ?_) rfl (by kernel_rfl) (by kernel_rfl) (by kernel_rfl) (fun _ _ _ h => h) (Or.inl ⟨by kernel_rfl, ?_⟩) (by assumption) ?_; rotate_left; (focus (intro w hSw; (try dsimp only at hSw); go_simp; (try with_reducible rfl); done)); (try simp only [Act.put, List.getElem_toArray, List.getElem_cons_succ, List.getElem_cons_zero, List.setIfInBounds_toArray, List.set_cons_zero, List.set_cons_succ])
            refine wpAnyH_take (i := 1) (v := ?_) rfl (by kernel_rfl) (by kernel_rfl) (by kernel_rfl) (fun _ _ _ h => h) (Or.inl ⟨by kernel_rfl, ?_⟩) (by assumption) ?_; rotate_left; (focus (intro w hSw; (try dsimp only at hSw); go_simp; (try with_reducible rfl); done)); (try simp only [Act.put, List.getElem_toArray, List.getElem_cons_succ, List.getElem_cons_zero, List.setIfInBounds_toArray, List.set_cons_zero, List.set_cons_succ])
            refine wpAnyH_take (i := 2) (v := ?_) rfl (by kernel_rfl) (by kernel_rfl) (by kernel_rfl) (fun _ _ _ h => h) (Or.inl ⟨by kernel_rfl, ?_⟩) (by assumption) ?_; rotate_left; (focus (intro w hSw; (try dsimp only at hSw); go_simp; (try with_reducible rfl); done)); (try simp only [Act.put, List.getElem_toArray, List.getElem_cons_succ, List.getElem_cons_zero, List.setIfInBounds_toArray, List.set_cons_zero, List.set_cons_succ])
            refine wpAnyH_take (i := 3) (v := ?_) rfl (by kernel_rfl) (by kernel_rfl) (by kernel_rfl) (fun _ _ _ h => h) (Or.inl ⟨by kernel_rfl, ?_⟩) (by assumption) ?_; rotate_left; (focus (intro w hSw; (try dsimp only at hSw); go_simp; (try with_reducible rfl); done)); (try simp only [Act.put, List.getElem_toArray, List.getElem_cons_succ, List.getElem_cons_zero, List.setIfInBounds_toArray, List.set_cons_zero, List.set_cons_succ])
            refine wpAnyH_take (i := 4) (v := ?_) rfl (by kernel_rfl) (by kernel_rfl) (by kernel_rfl) (fun _ _ _ h => h) (Or.inl ⟨by kernel_rfl, ?_⟩) (by assumption) ?_; rotate_left; (focus (intro w hSw; (try dsimp only at hSw); go_simp; (try with_reducible rfl); done)); (try simp only [Act.put, List.getElem_toArray, List.getElem_cons_succ, List.getElem_cons_zero, List.setIfInBounds_toArray, List.set_cons_zero, List.set_cons_succ])
            refine wpAnyH_take (i := 5) (v := ?_) rfl (by kernel_rfl) (by kernel_rfl) (by kernel_rfl) (fun _ _ _ h => h) (Or.inl ⟨by kernel_rfl, ?_⟩) (by assumption) ?_; rotate_left; (focus (intro w hSw; (try dsimp only at hSw); go_simp; (try with_reducible rfl); done)); (try simp only [Act.put, List.getElem_toArray, List.getElem_cons_succ, List.getElem_cons_zero, List.setIfInBounds_toArray, List.set_cons_zero, List.set_cons_succ])
            refine wpAnyH_take (i := 7) (v := ?_) rfl (by kernel_rfl) (by kernel_rfl) (by kernel_rfl) (fun _ _ _ h => h) (Or.inl ⟨by kernel_rfl, ?_⟩) (by assumption) ?_; rotate_left; (focus (intro w hSw; (try dsimp only at hSw); go_simp; (try with_reducible rfl); done)); (try simp only [Act.put, List.getElem_toArray, List.getElem_cons_succ, List.getElem_cons_zero, List.setIfInBounds_toArray, List.set_cons_zero, List.set_cons_succ])
            refine wpAnyH_take (i := 8) (v := ?_) rfl (by kernel_rfl) (by kernel_rfl) (by kernel_rfl) (fun _ _ _ h => h) (Or.inl ⟨by kernel_rfl, ?_⟩) (by assumption) ?_; rotate_left; (focus (intro w hSw; (try dsimp only at hSw); go_simp; (try with_reducible rfl); done)); (try simp only [Act.put, List.getElem_toArray, List.getElem_cons_succ, List.getElem_cons_zero, List.setIfInBounds_toArray, List.set_cons_zero, List.set_cons_succ])
            refine wpAnyH_take (i := 10) (v := ?_) rfl (by kernel_rfl) (by kernel_rfl) (by kernel_rfl) (fun _ _ _ h => h) (Or.inl ⟨by kernel_rfl, ?_⟩) (by assumption) ?_; rotate_left; (focus (intro w hSw; (try dsimp only at hSw); go_simp; (try with_reducible rfl); done)); (try simp only [Act.put, List.getElem_toArray, List.getElem_cons_succ, List.getElem_cons_zero, List.setIfInBounds_toArray, List.set_cons_zero, List.set_cons_succ])
            refine wpAnyH_take (i := 11) (v := ?_) rfl (by kernel_rfl) (by kernel_rfl) (by kernel_rfl) (fun _ _ _ h => h) (Or.inl ⟨by kernel_rfl, ?_⟩) (by assumption) ?_; rotate_left; (focus (intro w hSw; (try dsimp only at hSw); go_simp; (try with_reducible rfl); done)); (try simp only [Act.put, List.getElem_toArray, List.getElem_cons_succ, List.getElem_cons_zero, List.setIfInBounds_toArray, List.set_cons_zero, List.set_cons_succ])
            refine wpAnyH_take (i := 14) (v := ?_) rfl (by kernel_rfl) (by kernel_rfl) (by kernel_rfl) (fun _ _ _ h => h) (Or.inl ⟨by kernel_rfl, ?_⟩) (by assumption) ?_; rotate_left; (focus (intro w hSw; (try dsimp only at hSw); go_simp; (try with_reducible rfl); done)); (try simp only [Act.put, List.getElem_toArray, List.getElem_cons_succ, List.getElem_cons_zero, List.setIfInBounds_toArray, List.set_cons_zero, List.set_cons_succ])
            refine wpAnyH_take (i := 15) (v := ?_) rfl (by kernel_rfl) (by kernel_rfl) (by kernel_rfl) (fun _ _ _ h => h) (Or.inl ⟨by kernel_rfl, ?_⟩) (by assumption) ?_; rotate_left; (focus (intro w hSw; (try dsimp only at hSw); go_simp; (try with_reducible rfl); done)); (try simp only [Act.put, List.getElem_toArray, List.getElem_cons_succ, List.getElem_cons_zero, List.setIfInBounds_toArray, List.set_cons_zero, List.set_cons_succ])
            refine wpAnyH_take (i := 16) (v := ?_) rfl (by kernel_rfl) (by kernel_rfl) (by kernel_rfl) (fun _ _ _ h => h) (Or.inl ⟨by kernel_rfl, ?_⟩) (by assumption) ?_; rotate_left; (focus (intro w hSw; (try dsimp only at hSw); go_simp; (try with_reducible rfl); done)); (try simp only [Act.put, List.getElem_toArray, List.getElem_cons_succ, List.getElem_cons_zero, List.setIfInBounds_toArray, List.set_cons_zero, List.set_cons_succ])
            refine wpAnyH_take (i := 17) (v := ?_) rfl (by kernel_rfl) (by kernel_rfl) (by kernel_rfl) (fun _ _ _ h => h) (Or.inl ⟨by kernel_rfl, ?_⟩) (by assumption) ?_; rotate_left; (focus (intro w hSw; (try dsimp only at hSw); go_simp; (try with_reducible rfl); done)); (try simp only [Act.put, List.getElem_toArray, List.getElem_cons_succ, List.getElem_cons_zero, List.setIfInBounds_toArray, List.set_cons_zero, List.set_cons_succ])
            refine wpAnyH_ready (rs := [6]) (by kernel_rfl) (by simp) ?_
            refine AllReadyH.cons rfl (fun K hK => ?_) AllReadyH.nil
            (try simp only [List.getElem_toArray, List.getElem_cons_succ, List.getElem_cons_zero])
            go_simp
            (with_reducible refine (HS.out.1 _ hHeld0.2).mono ?_); rintro e w5 ⟨rfl, rfl⟩
            refine hK.out _ _ (hHeld0) (fun hHeld => ?_)
            clear hK K
            (try simp only [Act.put, List.getElem_toArray, List.getElem_cons_succ, List.getElem_cons_zero, List.setIfInBounds_toArray, List.set_cons_zero, List.set_cons_succ])
            refine wpAnyH_ready (rs := [9]) (by kernel_rfl) (by simp) ?_
            refine AllReadyH.cons rfl (fun K hK => ?_) AllReadyH.nil
            (try simp only [List.getElem_toArray, List.getElem_cons_succ, List.getElem_cons_zero])
            go_simp
            (with_reducible refine (HS.out.2.1 _ hHeld0.2).mono ?_); rintro e w5 ⟨rfl, rfl⟩
            refine hK.out _ _ (hHeld0) (fun hHeld => ?_)
            clear hK K
            (try simp only [Act.put, List.getElem_toArray, List.getElem_cons_succ, List.getElem_cons_zero, List.setIfInBounds_toArray, List.set_cons_zero, List.set_cons_succ])
            refine wpAnyH_ready (rs := [12]) (by kernel_rfl) (by simp) ?_
            refine AllReadyH.cons rfl (fun K hK => ?_) AllReadyH.nil
            (try simp only [List.getElem_toArray, List.getElem_cons_succ, List.getElem_cons_zero])
            go_simp
            (with_reducible refine (HS.out.2.2.1 _ hHeld0.2).mono ?_); rintro e w5 ⟨rfl, rfl⟩
            refine hK.out _ _ (hHeld0) (fun hHeld => ?_)
            clear hK K
            (try simp only [Act.put, List.getElem_toArray, List.getElem_cons_succ, List.getElem_cons_zero, List.setIfInBounds_toArray, List.set_cons_zero, List.set_cons_succ])
            refine wpAnyH_take (i := 13) (v := ?_) rfl (by kernel_rfl) (by kernel_rfl) (by kernel_rfl) (fun _ _ _ h => h) (Or.inl ⟨by kernel_rfl, ?_⟩) (by assumption) ?_; rotate_left; (focus (intro w hSw; (try dsimp only at hSw); go_simp; (try with_reducible rfl); done)); (try simp only [Act.put, List.getElem_toArray, List.getElem_cons_succ, List.getElem_cons_zero, List.setIfInBounds_toArray, List.set_cons_zero, List.set_cons_succ])
            refine wpAnyH_take (i := 18) (v := ?_) rfl (by kernel_rfl) (by kernel_rfl) (by kernel_rfl) (fun _ _ _ h => h) (Or.inl ⟨by kernel_rfl, ?_⟩) (by assumption) ?_; rotate_left; (focus (intro w hSw; (try dsimp only at hSw); go_simp; (try with_reducible rfl); done)); (try simp only [Act.put, List.getElem_toArray, List.getElem_cons_succ, List.getElem_cons_zero, List.setIfInBounds_toArray, List.set_cons_zero, List.set_cons_succ])
            refine wpAnyH_ready (rs := [19]) (by kernel_rfl) (by simp) ?_
            refine AllReadyH.cons rfl (fun K hK => ?_) AllReadyH.nil
            (try simp only [List.getElem_toArray, List.getElem_cons_succ, List.getElem_cons_zero])
            rw [if_pos (by rfl)]
            refine wp_store_rowF 32 (.tmp 3) (.tmp 59) rfl w.heap.size #[.int .i64 (G1 : Nat), .int .i64 (G2 : Nat), .int .i64 (G3 : Nat)] rfl rfl 32 #[.int .i64 0, .int .i64 0, .int .i64 0] H2.out info_st rfl (by simp [Value.oneCell']) ?_
            intro W9 hn9 hF9
            have hb9 := fr_below hHeld0.2 hF9 (Nat.le_refl _)
            have hc9 := HC.out.1 _ hb9 2 (by decide)
            have HF := Lib.hid (And.intro hn9 hb9); clear hn9 hF9
            refine hK.out _ _ (⟨hc9, hb9⟩) (fun hHeld => ?_)
            clear hK K
            (try simp only [Act.put, List.getElem_toArray, List.getElem_cons_succ, List.getElem_cons_zero, List.setIfInBounds_toArray, List.set_cons_zero, List.set_cons_succ])
            refine wpAnyH_take (i := 20) (v := ?_) rfl (by kernel_rfl) (by kernel_rfl) (by kernel_rfl) (fun _ _ _ h => h) (Or.inl ⟨by kernel_rfl, ?_⟩) (by assumption) ?_; rotate_left; (focus (intro w hSw; (try dsimp only at hSw); go_simp; (try with_reducible rfl); done)); (try simp only [Act.put, List.getElem_toArray, List.getElem_cons_succ, List.getElem_cons_zero, List.setIfInBounds_toArray, List.set_cons_zero, List.set_cons_succ])
            refine wpAnyH_take (i := 21) (v := ?_) rfl (by kernel_rfl) (by kernel_rfl) (by kernel_rfl) (fun _ _ _ h => h) (Or.inl ⟨by kernel_rfl, ?_⟩) (by assumption) ?_; rotate_left; (focus (intro w hSw; (try dsimp only at hSw); go_simp; (try with_reducible rfl); done)); (try simp only [Act.put, List.getElem_toArray, List.getElem_cons_succ, List.getElem_cons_zero, List.setIfInBounds_toArray, List.set_cons_zero, List.set_cons_succ])
            refine wpAnyH_done (by kernel_rfl) ?_ _
            go_wp2
            rw [HS.out.2.2.2.2.1]
            exact bodyPost_ret (v := .tuple #[.int .i64 (kOf b : Nat), sv ⟨(G1 : Nat), (G2 : Nat), (G3 : Nat)⟩, .slice (some ⟨g, o + 14, none⟩) n (c - 14), .bool true]) (results_tctt (a := 2) (p := 3) (c := 4) (d := 5) rfl _ _ w.heap.size _ _ (0, 0) _ rfl HF.out.1 Try.underlying32 rfl info_st _ _ _ rfl rfl rfl) rfl ⟨_, rfl, by
              have := HS.out.2.2.2.1 _ HF.out.2
              rw [ks] at this
              rw [HS.out.2.2.2.2.2]; exact this, HF.out.2⟩
        · obtain ⟨rfl, rfl, rfl, rfl⟩ := HRR.out.1 (fun h => c2 (HE.out.2.2.2.1 h).2.2.1)
          have k2 : decide ((238 : Int) < n) = true := decide_eq_true (by omega)
          clear c2
          go_wp2_with (refine wpList_store_rowF rfl 32 _ _ rfl w.heap.size #[.int .i64 0, .int .i64 0, .int .i64 0] rfl rfl 32 #[.int .i64 0, .int .i64 0, .int .i64 0] H1.out.1 info_st rfl (by simp [Value.oneCell']) ?_
                       intro W9 hn9 hF9
                       have HF := Lib.hid (And.intro hn9 (fr_below H1.out.2 hF9 (Nat.le_refl _))); clear hn9 hF9)
          exact bodyPost_ret (v := .tuple #[.int .i64 0, sv StS.zero, .slice none 0 0, .bool false]) (results_tctt (a := 2) (p := 3) (c := 4) (d := 5) rfl _ _ w.heap.size _ _ (0, 0) _ rfl HF.out.1 Try.underlying32 rfl info_st _ _ _ rfl rfl rfl) rfl ⟨_, rfl, brd_nil _, HF.out.2⟩
      · obtain ⟨rfl, rfl, rfl, rfl⟩ := HRR.out.1 (fun h => c1 (HE.out.2.2.2.1 h).2.1)
        have k1 : (((N1 : Nat) : Int) != 82) = true := by rw [bne_iff_ne]; omega
        have k2 : (((N1 : Nat) : Int) == 82) = false := by rw [beq_eq_false_iff_ne]; omega
        clear c1
        go_wp2_with (refine wpList_store_rowF rfl 32 _ _ rfl w.heap.size #[.int .i64 0, .int .i64 0, .int .i64 0] rfl rfl 32 #[.int .i64 0, .int .i64 0, .int .i64 0] H1.out.1 info_st rfl (by simp [Value.oneCell']) ?_
                     intro W9 hn9 hF9
                     have HF := Lib.hid (And.intro hn9 (fr_below H1.out.2 hF9 (Nat.le_refl _))); clear hn9 hF9)
        exact bodyPost_ret (v := .tuple #[.int .i64 0, sv StS.zero, .slice none 0 0, .bool false]) (results_tctt (a := 2) (p := 3) (c := 4) (d := 5) rfl _ _ w.heap.size _ _ (0, 0) _ rfl HF.out.1 Try.underlying32 rfl info_st _ _ _ rfl rfl rfl) rfl ⟨_, rfl, brd_nil _, HF.out.2⟩
    · obtain ⟨rfl, rfl, rfl, rfl⟩ := HRR.out.1 (fun h => c0 (HE.out.2.2.2.1 h).1)
      have k1 : (((N0 : Nat) : Int) != 67) = true := by rw [bne_iff_ne]; omega
      have k2 : (((N0 : Nat) : Int) == 67) = false := by rw [beq_eq_false_iff_ne]; omega
      clear c0
      go_wp2_with (refine wpList_store_rowF rfl 32 _ _ rfl w.heap.size #[.int .i64 0, .int .i64 0, .int .i64 0] rfl rfl 32 #[.int .i64 0, .int .i64 0, .int .i64 0] H1.out.1 info_st rfl (by simp [Value.oneCell']) ?_
                   intro W9 hn9 hF9
                   have HF := Lib.hid (And.intro hn9 (fr_below H1.out.2 hF9 (Nat.le_refl _))); clear hn9 hF9)
      exact bodyPost_ret (v := .tuple #[.int .i64 0, sv StS.zero, .slice none 0 0, .bool false]) (results_tctt (a := 2) (p := 3) (c := 4) (d := 5) rfl _ _ w.heap.size _ _ (0, 0) _ rfl HF.out.1 Try.underlying32 rfl info_st _ _ _ rfl rfl rfl) rfl ⟨_, rfl, brd_nil _, HF.out.2⟩
end Go.Proofs.Ytjhhknkhgilecaa.Fm
