/- The walk over frame.Open. -/
import Derived.Test.YtjhhknkhgilecaaF5
import Derived.Test.YtjhhknkhgilecaaSl
import Derived.Test.YtjhhknkhgilecaaArr
import Derived.MapKept
namespace Go.Proofs.Ytjhhknkhgilecaa.Fm
open Go.RowKit Lt
set_option linter.unusedVariables false
set_option linter.unusedSimpArgs false
theorem results_tctt {P : Program} {fn : Func} {a p c d : Tmp} {ty : TypeId} (h : fn.results = #[.tmp a, .cell p ty, .tmp c, .tmp d]) (tmps : Array Value) (w : World) (g : Nat) (t0 : TypeId) (cs : Array Value) (fr : Nat × Nat) (ds : TypeDesc)
    (hp : tmps.getD p undef = .pointer (some ⟨g, 0, none⟩)) (hg : w.heap[g]? = some (.cells cs t0 fr))
    (hu : P.underlying ty = some ds) (hd : (match ds with | .struct _ | .array _ _ => true | _ => false) = true) (hi : (P.info? ty).map (·.size) = some cs.size) (va vc vd : Value) (ha : tmps.getD a undef = va) (hc : tmps.getD c undef = vc) (hdd : tmps.getD d undef = vd) :
    (results fn tmps).run P w = .ok (.tuple #[va, .agg cs, vc, vd]) w := by
  subst ha hc hdd
  have hp' : tmps[p]?.getD undef = .pointer (some ⟨g, 0, none⟩) := by simpa using hp
  simp [results, h, hp', asAddr, run_loadVar_row w g t0 ty cs fr ds hg hu hd hi]
theorem wp_store_rowF {P : Program} {o : Oper} {a : Act} {w : World} {K : Act → World → Prop} {Q : Exit → Act → World → Prop} (ty : TypeId) (x y : Operand) (ho : o.op = .store ty x y)
    (g : Nat) (cells : Array Value) (hx : a.eval x = .pointer (some ⟨g, 0, none⟩)) (hy : a.eval y = .agg cells)
    (t : TypeId) (old : Array Value) (hg : w.heap[g]? = some (.cells old t (0, 0))) (hi : (P.info? ty).map (·.size) = some cells.size)
    (hold : old.size = cells.size) (h1 : cells.all (·.oneCell') = true)
    (h : ∀ W, W.heap[g]? = some (.cells cells t (0, 0)) → Fr (fun k => k = g) w W → K (a.put o.dst undef) W) : Oper.wp P o a w K Q :=
  wp_store_row ty x y ho g cells hx hy t old hg hi hold h1 (h _ (by simp only [World.setRow, Array.getElem?_modify, hg]; simp)
    ⟨rfl, rfl, rfl, by simp [World.setRow], fun k _ hk => by simp only [World.setRow, Array.getElem?_modify]; rw [if_neg (fun e => hk e.symm)]⟩)
theorem info_st : (Try.prog.info? 32).map (·.size) = some 3 := by kernel_rfl
def oK (b : List UInt8) : Nat := if okR b then kOf b else 0
def oS (b : List UInt8) : StS := if okR b then sOf b else StS.zero
def oT (b : List UInt8) : List UInt8 := if okR b then tOf b else []
def oE (b : List UInt8) : Int := if okR b then 0 else 16
theorem o_yes {b : List UInt8} (h : okR b) : oK b = kOf b ∧ oS b = sOf b ∧ oT b = tOf b ∧ oE b = 0 := by unfold oK oS oT oE; simp [h]
theorem o_no {b : List UInt8} (h : ¬ okR b) : oK b = 0 ∧ oS b = StS.zero ∧ oT b = [] ∧ oE b = 16 := by unfold oK oS oT oE; simp [h]
theorem brd_fr9 {w w' : World} {g h n c : Nat} {l : List UInt8} (hr : BRd w (.slice (some ⟨h, 0, none⟩) n c) l) (hF : Fr (fun k => k = g) w w') (hne : ¬ h = g) : BRd w' (.slice (some ⟨h, 0, none⟩) n c) l := by
  obtain ⟨A, c', e, h1, h2, h3⟩ := hr
  injection e with e1 e2 e3
  subst e1
  exact ⟨_, c', by rw [e2, e3], h1, h2.fr hF (fun ad e => by cases e; exact hne), h3⟩
theorem in_len {b : List UInt8} (n : Nat) (h : b.length ≤ 140737488351232) : (inOk (b.drop n)).b.length ≤ 9223372036854775807 := by show (b.drop n).length ≤ _; rw [List.length_drop]; omega
theorem fr_below {w W W' : World} {g : Nat} (h : Below w.heap.size w W) (hF : Fr (fun k => k = g) W W') (hg : w.heap.size ≤ g) : Below w.heap.size w W' :=
  Fr.toBelow (Fr.trans (Fr.of_below h) hF (fun k hk h => h)) (fun k h => by omega) (Nat.le_refl _)
set_option maxHeartbeats 8000000 in
set_option maxRecDepth 100000 in
theorem open_no (v : Value) (b : List UInt8) (w : World) (hv : BRd w v b) (hl : b.length ≤ 140737488351232) (hs : snd b = false) :
    Calls Try.prog 51 #[v] w fun e w' => e = .returned (.tuple #[.int .i64 0, sv StS.zero, .slice none 0 0, .int .i64 16]) ∧ Below w.heap.size w w' := by
  have hz := alloc_at (w := w) (.cells #[.int .i64 0, .int .i64 0, .int .i64 0] 32) rfl
  have hb0 := below_alloc1 w (.cells #[.int .i64 0, .int .i64 0, .int .i64 0] 32)
  have hso := sound_ok v b _ (hv.below hb0) hl
  rw [hs] at hso
  have HZ := Lib.hid (And.intro hz (And.intro hb0 hso)); clear hz hb0 hso hv
  go_enter Try.func51, Try.ntmps51
  go_wp2_with (first
    | (go_at_call 96; (with_reducible refine HZ.out.2.2.mono ?_); rintro e w1 ⟨rfl, hb⟩; have H1 := Lib.hid (And.intro (block_up HZ.out.1 hb) (below_up HZ.out.2.1 hb)); clear hb)
    | (refine wpList_store_rowF rfl 32 _ _ rfl w.heap.size #[.int .i64 0, .int .i64 0, .int .i64 0] rfl rfl 32 #[.int .i64 0, .int .i64 0, .int .i64 0] H1.out.1 info_st rfl (by simp [Value.oneCell']) ?_
       intro W9 hn9 hF9
       have HF := Lib.hid (And.intro hn9 (fr_below H1.out.2 hF9 (Nat.le_refl _))); clear hn9 hF9))
  exact bodyPost_ret (v := .tuple #[.int .i64 0, sv StS.zero, .slice none 0 0, .int .i64 16]) (results_tctt (a := 2) (p := 3) (c := 4) (d := 5) rfl _ _ w.heap.size _ _ (0, 0) _ rfl HF.out.1 Try.underlying32 rfl info_st _ _ _ rfl rfl rfl) rfl ⟨rfl, HF.out.2⟩
set_option maxHeartbeats 8000000 in
set_option maxRecDepth 100000 in
theorem open_yes (v : Value) (b : List UInt8) (w : World) (hv : BRd w v b) (hl : b.length ≤ 140737488351232) (hs : snd b = true) :
    Calls Try.prog 51 #[v] w fun e w' => ∃ x, e = .returned (.tuple #[.int .i64 (oK b : Nat), sv (oS b), x, .int .i64 (oE b)]) ∧ BRd w' x (oT b) ∧ Below w.heap.size w w' := by
  obtain ⟨RK, hRK⟩ : ∃ x, oK b = x := ⟨_, rfl⟩
  obtain ⟨RS, hRS⟩ : ∃ x, oS b = x := ⟨_, rfl⟩
  obtain ⟨RT, hRT⟩ : ∃ x, oT b = x := ⟨_, rfl⟩
  obtain ⟨RE, hRE⟩ : ∃ x, oE b = x := ⟨_, rfl⟩
  rw [hRK, hRS, hRT, hRE]
  have HR := Lib.hid (And.intro hRK (And.intro hRS (And.intro hRT hRE))); clear hRK hRS hRT hRE
  obtain ⟨hbl, _⟩ := snd_l hs
  have hz := alloc_at (w := w) (.cells #[.int .i64 0, .int .i64 0, .int .i64 0] 32) rfl
  have hb0 := below_alloc1 w (.cells #[.int .i64 0, .int .i64 0, .int .i64 0] 32)
  have hso := sound_ok v b _ (hv.below hb0) hl
  have hs' := hs
  rw [hs] at hso
  have HV := Lib.hid (And.intro hv (And.intro hs' hbl))
  have HZ := Lib.hid (And.intro hz (And.intro hb0 hso)); clear hz hb0 hso hs hs' hbl
  obtain ⟨A, c, rfl, _, _, _⟩ := hv
  go_enter Try.func51, Try.ntmps51
  go_wp2_with fail
  (with_reducible refine HZ.out.2.2.mono ?_); rintro e w1 ⟨rfl, hb⟩
  have H1 := Lib.hid (And.intro (block_up HZ.out.1 hb) (below_up HZ.out.2.1 hb)); clear hb
  go_wp2_with fail
  (with_reducible refine (open_w _ b w1 (HV.out.1.below H1.out.2) (by omega)).mono ?_); rintro e w2 ⟨p, rfl, hI, hb⟩
  have hI : IW w1 w2 p (inOk b) := hI
  have H2 := Lib.hid (And.intro hI (block_up H1.out.1 hb)); clear hI hb
  go_wp2_with fail
  (with_reducible refine (H2.out.1.num 2 (by have := in_len (b := b) 0 hl; rwa [List.drop_zero] at this)).mono ?_); rintro e w3 ⟨rfl, hI, hK⟩
  have hg := gotn (b := b) (n := 2) (by have := HV.out.2.2; omega)
  rw [sz2, hg.1] at hI
  rw [sz2, hg.2]
  have H3 := Lib.hid (And.intro hI (hK.2 _ _ _ _ H2.out.2 (by decide))); clear hI hK hg
  obtain ⟨N0, e0⟩ : ∃ n, getB (b.take 2) = n := ⟨_, rfl⟩
  rw [e0]
  have E0 := Lib.hid e0; clear e0
  go_wp2_with fail
  (with_reducible refine (H3.out.1.num 1 (in_len 2 hl)).mono ?_); rintro e w4 ⟨rfl, hI, hK⟩
  have hg := gotn (b := b.drop 2) (n := 1) (by have := HV.out.2.2; rw [List.length_drop]; omega)
  rw [sz1, hg.1, List.drop_drop] at hI
  rw [sz1, hg.2, get_at (by have := HV.out.2.2; omega)]
  have H4 := Lib.hid (And.intro hI (hK.2 _ _ _ _ H3.out.2 (by decide))); clear hI hK hg
  have h1b := (b.getD 2 0).toNat_lt
  obtain ⟨N1, e1⟩ : ∃ n, (b.getD 2 0).toNat = n := ⟨_, rfl⟩
  rw [e1] at h1b ⊢
  have E1 := Lib.hid e1; clear e1
  go_wp2_with fail
  (with_reducible refine (H4.out.1.num 4 (in_len 3 hl)).mono ?_); rintro e w5 ⟨rfl, hI, hK⟩
  have hg := gotn (b := b.drop 3) (n := 4) (by have := HV.out.2.2; rw [List.length_drop]; omega)
  rw [sz4, hg.1, List.drop_drop] at hI
  rw [sz4, hg.2]
  have H5 := Lib.hid (And.intro hI (hK.2 _ _ _ _ H4.out.2 (by decide))); clear hI hK hg
  have hsb := sOf_bnd b
  obtain ⟨N2, e2⟩ : ∃ n, getB ((b.drop 3).take 4) = n := ⟨_, rfl⟩
  rw [e2] at hsb ⊢
  have E2 := Lib.hid e2; clear e2
  go_wp2_with fail
  (with_reducible refine (H5.out.1.num 4 (in_len 7 hl)).mono ?_); rintro e w6 ⟨rfl, hI, hK⟩
  have hg := gotn (b := b.drop 7) (n := 4) (by have := HV.out.2.2; rw [List.length_drop]; omega)
  rw [sz4, hg.1, List.drop_drop] at hI
  rw [sz4, hg.2]
  have H6 := Lib.hid (And.intro hI (hK.2 _ _ _ _ H5.out.2 (by decide))); clear hI hK hg
  obtain ⟨N3, e3⟩ : ∃ n, getB ((b.drop 7).take 4) = n := ⟨_, rfl⟩
  rw [e3] at hsb ⊢
  have E3 := Lib.hid e3; clear e3
  go_wp2_with fail
  (with_reducible refine (H6.out.1.num 2 (in_len 11 hl)).mono ?_); rintro e w7 ⟨rfl, hI, hK⟩
  have hg := gotn (b := b.drop 11) (n := 2) (by have := HV.out.2.2; rw [List.length_drop]; omega)
  rw [sz2, hg.1, List.drop_drop] at hI
  rw [sz2, hg.2]
  have H7 := Lib.hid (And.intro hI (hK.2 _ _ _ _ H6.out.2 (by decide))); clear hI hK hg
  obtain ⟨N4, e4⟩ : ∃ n, getB ((b.drop 11).take 2) = n := ⟨_, rfl⟩
  rw [e4] at hsb ⊢
  have E4 := Lib.hid e4; clear e4
  have hz8 := alloc_at (w := w7) (.cells #[.int .i64 (N2 : Nat), .int .i64 (N3 : Nat), .int .i64 (N4 : Nat)] 32) rfl
  have ha8 := below_alloc1 w7 (.cells #[.int .i64 (N2 : Nat), .int .i64 (N3 : Nat), .int .i64 (N4 : Nat)] 32)
  have H8 := Lib.hid (And.intro (H7.out.1.up ha8) (And.intro (block_up H7.out.2 ha8) hz8)); clear hz8 ha8
  go_wp2_with fail
  generalize (w7.alloc _) = w8 at *
  (with_reducible refine (H8.out.1.num 1 (in_len 13 hl)).mono ?_); rintro e w9 ⟨rfl, hI, hK⟩
  have hg := gotn (b := b.drop 13) (n := 1) (by have := HV.out.2.2; rw [List.length_drop]; omega)
  rw [sz1, hg.1, List.drop_drop] at hI
  rw [sz1, hg.2, get_at (by have := HV.out.2.2; omega)]
  have hzz := hK.2 _ _ _ _ H8.out.2.1 (by decide)
  have hs9 := hK.2 _ _ _ _ H8.out.2.2 (by decide)
  have H9 := Lib.hid (And.intro hI (And.intro hzz hs9)); clear hI hK hg hzz hs9
  have hnb := (b.getD 13 0).toNat_lt
  obtain ⟨N5, e5⟩ : ∃ n, (b.getD 13 0).toNat = n := ⟨_, rfl⟩
  rw [e5] at hnb ⊢
  have E5 := Lib.hid e5; clear e5
  go_wp2_with fail
  (with_reducible refine (H9.out.1.text (N5 : Nat) (by omega) (in_len 14 hl)).mono ?_); rintro e w10 ⟨rfl, hI, hK⟩
  rw [Int.toNat_natCast]
  obtain ⟨T, hT⟩ : ∃ T, (inOk (b.drop (13 + 1))).got N5 = T := ⟨_, rfl⟩
  have hTl := got_le (inOk (b.drop (13 + 1))) N5
  rw [hT] at hTl ⊢
  have hzz := hK.2 _ _ _ _ H9.out.2.1 (by decide)
  have hs10 := hK.2 _ _ _ _ H9.out.2.2 (by decide)
  have HLT := Lib.hid (Array.getElem?_eq_some_iff.1 hzz).1
  have hbT := below_bytes w10 5 (bstr T)
  have hrT := brd_bytes w10 5 (bstr T)
  rw [bstr_data] at hrT
  have hcv := Lib.run_convert_string_bytes (P := Try.prog) w10 9 24 5 (bstr T) Try.underlying9 Try.underlying24 Try.underlying5
  have H10 := Lib.hid (And.intro (block_up hzz hbT) (And.intro (block_up hs10 hbT) (And.intro (below_up (below_up H1.out.2 hI.bel) hbT) (And.intro hrT (And.intro hT hTl))))); clear hzz hs10 hI hK hbT hrT hT hTl
  generalize Lib.bytesWorld w10 5 (bstr T) = w11 at *
  obtain ⟨q0, q1, q2⟩ := cells3 H10.out.2.1
  have hfin : StS.fine ⟨(N2 : Nat), (N3 : Nat), (N4 : Nat)⟩ := by unfold StS.fine; simp only; omega
  have hse := fun (vt : Value) (h : BRd w11 vt T) => seal_ok (N1 : Nat) ⟨(N2 : Nat), (N3 : Nat), (N4 : Nat)⟩ vt T w11 h (by have := H10.out.2.2.2.2.2; omega) (by omega) hfin
  have hiff : (N0 = 21059 ∧ secE (N1 : Nat) ⟨(N2 : Nat), (N3 : Nat), (N4 : Nat)⟩ T.length = 0 ∧ secB (N1 : Nat) ⟨(N2 : Nat), (N3 : Nat), (N4 : Nat)⟩ T = b) ↔ okR b := by
    have := open_iff (b := b) (T := T) HV.out.2.1 (by rw [← H10.out.2.2.2.2.1]; unfold nOf; rw [E5.out])
    unfold kOf sOf at this
    rw [E0.out, E1.out, E2.out, E3.out, E4.out] at this
    exact this
  have htx : okR b → T = tOf b ∧ N1 = kOf b ∧ (⟨(N2 : Nat), (N3 : Nat), (N4 : Nat)⟩ : StS) = sOf b := fun h =>
    ⟨text_of h (by rw [← H10.out.2.2.2.2.1]; unfold nOf; rw [E5.out]), E1.out.symm, by unfold sOf; rw [E2.out, E3.out, E4.out]⟩
  obtain ⟨ES, hES⟩ : ∃ e, secE (N1 : Nat) ⟨(N2 : Nat), (N3 : Nat), (N4 : Nat)⟩ T.length = e := ⟨_, rfl⟩
  obtain ⟨SB, hSB⟩ : ∃ e, secB (N1 : Nat) ⟨(N2 : Nat), (N3 : Nat), (N4 : Nat)⟩ T = e := ⟨_, rfl⟩
  rw [hES, hSB] at hiff
  simp only [hES, hSB] at hse
  have HX := Lib.hid (And.intro hse (And.intro hiff htx)); clear hse hiff htx hfin hES hSB hsb
  go_wp2_with fail
  (with_reducible refine (HX.out.1 _ H10.out.2.2.2.1).mono ?_); rintro e w12 ⟨x, rfl, hx, hb⟩
  have hcb := conv_brd HV.out.1 (below_up H10.out.2.2.1 hb)
  have H12 := Lib.hid (And.intro hx (And.intro (block_up H10.out.1 hb) (And.intro (block_up H10.out.2.1 hb) (And.intro (below_up H10.out.2.2.1 hb) (H10.out.2.2.2.1.below hb))))); clear hx hb q0 q1 q2 hcv
  obtain ⟨sb, hsb⟩ : ∃ s, bstr b = s := ⟨_, rfl⟩
  rw [hsb] at hcb
  have HSB := Lib.hid hsb; clear hsb
  have hbadR : ¬ okR b → RK = 0 ∧ RS = StS.zero ∧ RT = [] ∧ RE = 16 := fun h => by
    obtain ⟨h1, h2, h3, h4⟩ := o_no h
    exact ⟨HR.out.1.symm.trans h1, HR.out.2.1.symm.trans h2, HR.out.2.2.1.symm.trans h3, HR.out.2.2.2.symm.trans h4⟩
  have hokR : okR b → RK = N1 ∧ RS = ⟨(N2 : Nat), (N3 : Nat), (N4 : Nat)⟩ ∧ RT = T ∧ RE = 0 := fun h => by
    obtain ⟨h1, h2, h3, h4⟩ := o_yes h
    obtain ⟨t1, t2, t3⟩ := HX.out.2.2 h
    exact ⟨HR.out.1.symm.trans (h1.trans t2.symm), HR.out.2.1.symm.trans (h2.trans t3.symm), HR.out.2.2.1.symm.trans (h3.trans t1.symm), HR.out.2.2.2.symm.trans h4⟩
  have HRR := Lib.hid (And.intro hbadR hokR); clear hbadR hokR
  have HOK := HX.out.2.1
  have HI := Lib.hid HOK; clear HOK
  by_cases c1 : N0 = 21059
  · subst c1
    by_cases c2 : ES = 0
    · subst c2
      have hx := H12.out.1
      rw [if_pos rfl] at hx
      have hcx := conv_brd hx (Below.refl _ _)
      obtain ⟨sx, hsx⟩ : ∃ s, bstr SB = s := ⟨_, rfl⟩
      rw [hsx] at hcx
      obtain ⟨Ax, cx, rfl, _, _, _⟩ := id hx
      by_cases c3 : SB = b
      · obtain ⟨rfl, rfl, rfl, rfl⟩ := HRR.out.2 (HI.out.1 ⟨rfl, rfl, c3⟩)
        have hss : sx = sb := by rw [← hsx, c3, HSB.out]
        subst hss
        clear hsx c3
        have hss1 : (sx == sx) = true := (MapKept.bytes_beq _ _).2 rfl
        go_upto_region 10 with (fail)
        obtain ⟨q0, q1, q2⟩ := cells3 H12.out.2.2.1
        have hne : ¬ w7.heap.size = w.heap.size := by
          intro e
          have h1 := H12.out.2.2.2.1
          have h2 := H2.out.1.bel.size
          have h3 := H7.out.1.bel.size
          have h4 := H1.out.2.size
          have h5 := (Array.getElem?_eq_some_iff.1 H1.out.1).1
          omega
        have HNE := Lib.hid hne; clear hne
        have hne2 : ¬ w10.heap.size = w.heap.size := by
          intro e
          have h1 := HLT.out
          omega
        have HNE2 := Lib.hid hne2; clear hne2
        refine wp_region_held_drew (S := fun W => W.cell? ⟨w7.heap.size, 0, none⟩ = some (.int .i64 (N2 : Nat)) ∧ W.cell? ⟨w7.heap.size, 1, none⟩ = some (.int .i64 (N3 : Nat)) ∧ W.cell? ⟨w7.heap.size, 2, none⟩ = some (.int .i64 (N4 : Nat))) (by kernel_rfl) (cells3 (block_up H12.out.2.2.1 below_drew1)) (fun hHeld0 => ?_)
        have H13 := Lib.hid (And.intro (block_up H12.out.2.1 below_drew1) (And.intro (block_up H12.out.2.2.1 below_drew1) (And.intro (below_up H12.out.2.2.2.1 below_drew1) (H12.out.2.2.2.2.below below_drew1))))
        generalize (World.drew w12) = w13 at *
        refine wpAnyH_take (i := 0) (v := ?_) rfl (by kernel_rfl) (by kernel_rfl) (by kernel_rfl) (fun _ _ _ h => h) (Or.inl ⟨by kernel_rfl, ?_⟩) (by assumption) ?_; rotate_left; (focus (intro w hSw; (try dsimp only at hSw); go_simp; (try with_reducible rfl); done)); (try simp only [Act.put, List.getElem_toArray, List.getElem_cons_succ, List.getElem_cons_zero, List.setIfInBounds_toArray, List.set_cons_zero, List.set_cons_succ])
        refine wpAnyH_take (i := 1) (v := ?_) rfl (by kernel_rfl) (by kernel_rfl) (by kernel_rfl) (fun _ _ _ h => h) (Or.inl ⟨by kernel_rfl, ?_⟩) (by assumption) ?_; rotate_left; (focus (intro w hSw; (try dsimp only at hSw); go_simp; (try with_reducible rfl); done)); (try simp only [Act.put, List.getElem_toArray, List.getElem_cons_succ, List.getElem_cons_zero, List.setIfInBounds_toArray, List.set_cons_zero, List.set_cons_succ])
        refine wpAnyH_take (i := 2) (v := ?_) rfl (by kernel_rfl) (by kernel_rfl) (by kernel_rfl) (fun _ _ _ h => h) (Or.inl ⟨by kernel_rfl, ?_⟩) (by assumption) ?_; rotate_left; (focus (intro w hSw; (try dsimp only at hSw); go_simp; (try with_reducible rfl); done)); (try simp only [Act.put, List.getElem_toArray, List.getElem_cons_succ, List.getElem_cons_zero, List.setIfInBounds_toArray, List.set_cons_zero, List.set_cons_succ])
        refine wpAnyH_take (i := 3) (v := ?_) rfl (by kernel_rfl) (by kernel_rfl) (by kernel_rfl) (fun _ _ _ h => h) (Or.inl ⟨by kernel_rfl, ?_⟩) (by assumption) ?_; rotate_left; (focus (intro w hSw; (try dsimp only at hSw); go_simp; (try with_reducible rfl); done)); (try simp only [Act.put, List.getElem_toArray, List.getElem_cons_succ, List.getElem_cons_zero, List.setIfInBounds_toArray, List.set_cons_zero, List.set_cons_succ])
        refine wpAnyH_ready (rs := [4]) (by kernel_rfl) (by simp) ?_
        refine AllReadyH.cons rfl (fun K hK => ?_) AllReadyH.nil
        (try simp only [List.getElem_toArray, List.getElem_cons_succ, List.getElem_cons_zero])
        rw [if_pos (by rfl)]
        refine wp_store_rowF 32 (.tmp 3) (.tmp 57) rfl w.heap.size #[.int .i64 (N2 : Nat), .int .i64 (N3 : Nat), .int .i64 (N4 : Nat)] rfl rfl 32 #[.int .i64 0, .int .i64 0, .int .i64 0] H13.out.1 info_st rfl (by simp [Value.oneCell']) ?_
        intro W9 hn9 hF9
        have hs9 := cells3 (blk_fr H13.out.2.1 hF9 HNE.out)
        have HF := Lib.hid (And.intro hn9 (fr_below H13.out.2.2.1 hF9 (Nat.le_refl _)))
        have hbr : BRd W9 (.slice (some ⟨w10.heap.size, 0, none⟩) (bstr RT).size (grownCap w10 (bstr RT).size 0 5)) RT := by
          have hh := H13.out.2.2.2
          exact brd_fr9 hh hF9 HNE2.out
        have HF2 := Lib.hid hbr; clear hbr hn9 hF9
        refine hK.out _ _ (hs9) (fun hHeld => ?_)
        clear hK K
        (try simp only [Act.put, List.getElem_toArray, List.getElem_cons_succ, List.getElem_cons_zero, List.setIfInBounds_toArray, List.set_cons_zero, List.set_cons_succ])
        refine wpAnyH_take (i := 5) (v := ?_) rfl (by kernel_rfl) (by kernel_rfl) (by kernel_rfl) (fun _ _ _ h => h) (Or.inl ⟨by kernel_rfl, ?_⟩) (by assumption) ?_; rotate_left; (focus (intro w hSw; (try dsimp only at hSw); go_simp; (try with_reducible rfl); done)); (try simp only [Act.put, List.getElem_toArray, List.getElem_cons_succ, List.getElem_cons_zero, List.setIfInBounds_toArray, List.set_cons_zero, List.set_cons_succ])
        refine wpAnyH_take (i := 6) (v := ?_) rfl (by kernel_rfl) (by kernel_rfl) (by kernel_rfl) (fun _ _ _ h => h) (Or.inl ⟨by kernel_rfl, ?_⟩) (by assumption) ?_; rotate_left; (focus (intro w hSw; (try dsimp only at hSw); go_simp; (try with_reducible rfl); done)); (try simp only [Act.put, List.getElem_toArray, List.getElem_cons_succ, List.getElem_cons_zero, List.setIfInBounds_toArray, List.set_cons_zero, List.set_cons_succ])
        refine wpAnyH_done (by kernel_rfl) ?_ _
        go_wp2
        exact bodyPost_ret (v := .tuple #[.int .i64 (RK : Nat), sv ⟨(N2 : Nat), (N3 : Nat), (N4 : Nat)⟩, .slice (some ⟨w10.heap.size, 0, none⟩) (bstr RT).size (grownCap w10 (bstr RT).size 0 5), .int .i64 0]) (results_tctt (a := 2) (p := 3) (c := 4) (d := 5) rfl _ _ w.heap.size _ _ (0, 0) _ rfl HF.out.1 Try.underlying32 rfl info_st _ _ _ rfl rfl rfl) rfl ⟨_, rfl, HF2.out, HF.out.2⟩
      · obtain ⟨rfl, rfl, rfl, rfl⟩ := HRR.out.1 (fun h => c3 (HI.out.2 h).2.2)
        have hne : ¬ sx = sb := fun e => c3 (bstr_inj (by rw [hsx, HSB.out, e]))
        clear hsx c3
        have hn1 : (sx == sb) = false := by rw [Bool.eq_false_iff]; intro h; exact hne ((MapKept.bytes_beq _ _).1 h)
        have hn2 : ¬ sx.toList = sb.toList := by
          intro h
          have h2 := beq_toListBytes sx sb
          rw [h, hn1] at h2
          simp at h2
        have hn3 : (sx.toList == sb.toList) = false := by rw [← beq_toListBytes]; exact hn1
        clear hne
        go_wp2_with (refine wpList_store_rowF rfl 32 _ _ rfl w.heap.size #[.int .i64 0, .int .i64 0, .int .i64 0] rfl rfl 32 #[.int .i64 0, .int .i64 0, .int .i64 0] H12.out.2.1 info_st rfl (by simp [Value.oneCell']) ?_
                     intro W9 hn9 hF9
                     have HF := Lib.hid (And.intro hn9 (fr_below H12.out.2.2.2.1 hF9 (Nat.le_refl _))); clear hn9 hF9)
        exact bodyPost_ret (v := .tuple #[.int .i64 0, sv StS.zero, .slice none 0 0, .int .i64 16]) (results_tctt (a := 2) (p := 3) (c := 4) (d := 5) rfl _ _ w.heap.size _ _ (0, 0) _ rfl HF.out.1 Try.underlying32 rfl info_st _ _ _ rfl rfl rfl) rfl ⟨_, rfl, brd_nil _, HF.out.2⟩
    · obtain ⟨rfl, rfl, rfl, rfl⟩ := HRR.out.1 (fun h => c2 (HI.out.2 h).2.1)
      have e1 : (ES != 0) = true := by simpa using c2
      have e2 : (ES == 0) = false := by simpa using c2
      clear c2
      go_wp2_with (refine wpList_store_rowF rfl 32 _ _ rfl w.heap.size #[.int .i64 0, .int .i64 0, .int .i64 0] rfl rfl 32 #[.int .i64 0, .int .i64 0, .int .i64 0] H12.out.2.1 info_st rfl (by simp [Value.oneCell']) ?_
                   intro W9 hn9 hF9
                   have HF := Lib.hid (And.intro hn9 (fr_below H12.out.2.2.2.1 hF9 (Nat.le_refl _))); clear hn9 hF9)
      exact bodyPost_ret (v := .tuple #[.int .i64 0, sv StS.zero, .slice none 0 0, .int .i64 16]) (results_tctt (a := 2) (p := 3) (c := 4) (d := 5) rfl _ _ w.heap.size _ _ (0, 0) _ rfl HF.out.1 Try.underlying32 rfl info_st _ _ _ rfl rfl rfl) rfl ⟨_, rfl, brd_nil _, HF.out.2⟩
  · obtain ⟨rfl, rfl, rfl, rfl⟩ := HRR.out.1 (fun h => c1 (HI.out.2 h).1)
    have e1 : (((N0 : Nat) : Int) != 21059) = true := by rw [bne_iff_ne]; omega
    have e2 : (((N0 : Nat) : Int) == 21059) = false := by rw [beq_eq_false_iff_ne]; omega
    clear c1
    go_wp2_with (refine wpList_store_rowF rfl 32 _ _ rfl w.heap.size #[.int .i64 0, .int .i64 0, .int .i64 0] rfl rfl 32 #[.int .i64 0, .int .i64 0, .int .i64 0] H12.out.2.1 info_st rfl (by simp [Value.oneCell']) ?_
                 intro W9 hn9 hF9
                 have HF := Lib.hid (And.intro hn9 (fr_below H12.out.2.2.2.1 hF9 (Nat.le_refl _))); clear hn9 hF9)
    exact bodyPost_ret (v := .tuple #[.int .i64 0, sv StS.zero, .slice none 0 0, .int .i64 16]) (results_tctt (a := 2) (p := 3) (c := 4) (d := 5) rfl _ _ w.heap.size _ _ (0, 0) _ rfl HF.out.1 Try.underlying32 rfl info_st _ _ _ rfl rfl rfl) rfl ⟨_, rfl, brd_nil _, HF.out.2⟩
theorem open_any (v : Value) (b : List UInt8) (w : World) (hv : BRd w v b) (hl : b.length ≤ 140737488351232) :
    Calls Try.prog 51 #[v] w fun e w' => ∃ x, e = .returned (.tuple #[.int .i64 (oK b : Nat), sv (oS b), x, .int .i64 (oE b)]) ∧ BRd w' x (oT b) ∧ Below w.heap.size w w' := by
  cases hs : snd b with
  | true => exact open_yes v b w hv hl hs
  | false =>
    obtain ⟨h1, h2, h3, h4⟩ := o_no (b := b) (fun h => by have := h.1; rw [hs] at this; cases this)
    rw [h1, h2, h3, h4]
    exact (open_no v b w hv hl hs).mono fun e w' ⟨he, hb⟩ => ⟨_, he, brd_nil _, hb⟩
end Go.Proofs.Ytjhhknkhgilecaa.Fm
