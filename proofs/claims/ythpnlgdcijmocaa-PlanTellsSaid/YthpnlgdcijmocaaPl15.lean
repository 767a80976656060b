/- The walk over PlanTells. -/
import Derived.Test.YthpnlgdcijmocaaPl14
namespace Go.Proofs.Ythpnlgdcijmocaa.Pl
open Go.RowKit Rg
set_option linter.unusedVariables false
set_option linter.unusedSimpArgs false
set_option maxHeartbeats 8000000 in
set_option maxRecDepth 100000 in
theorem ptells_walk (g : GeS) (p : PlcS) (vf : Value) (free : List Int) (vl : Value) (l : List EntS) (w : World) (hi : IRd w vf free) (hfl : free.length ≤ 17592186044416) (hv : ERd w vl l) (hl : l.length ≤ 140737488355328) :
    Calls Try.prog 4 #[gv g, plv p, vf, vl] w fun e w' => e = .returned (.bool true) ∧ Below w.heap.size w w' := by
  obtain ⟨wA, hwA⟩ : ∃ W, ((w.alloc (.cells #[.int .i64 g.seg, .int .i64 g.siz] 25)).alloc (.cells #[.int .i64 p.seg, .int .i64 p.off, .int .i64 p.next] 28)) = W := ⟨_, rfl⟩
  have s1 : (w.alloc (.cells #[.int .i64 g.seg, .int .i64 g.siz] 25)).heap.size = w.heap.size + 1 := by unfold World.alloc; simp
  have HG : Hid (wA.heap[w.heap.size]? = some (.cells #[.int .i64 g.seg, .int .i64 g.siz] 25 (0, 0))) := Lib.hid (by rw [← hwA]; exact alloc_old (alloc_at (w := w) _ rfl) _)
  have HP : Hid (wA.heap[w.heap.size + 1]? = some (.cells #[.int .i64 p.seg, .int .i64 p.off, .int .i64 p.next] 28 (0, 0))) := Lib.hid (by rw [← hwA]; exact alloc_at _ s1.symm)
  have HA : Hid (Below w.heap.size w wA) := Lib.hid (by rw [← hwA]; exact below_alloc (below_alloc1 w _) _)
  have HI := Lib.hid hi
  have HV0 := Lib.hid hv
  clear s1
  have HAl := fun W => alive_ok W
  obtain ⟨Af, cf, rfl, _, _⟩ := hi
  obtain ⟨Al, cl, rfl, hcl, _⟩ := hv
  go_enter Try.func4, Try.ntmps4
  go_wp2_with fail
  clear hwA
  (with_reducible refine (HAl _).mono ?_); rintro e w2 ⟨rfl, hb⟩
  have HG2 := Lib.hid (block_up HG.out hb); have HP2 := Lib.hid (block_up HP.out hb); have HA2 := Lib.hid (below_up HA.out hb)
  clear hb HAl HG HP HA
  go_upto_if 25 with (fail)
  obtain ⟨L, hL⟩ : ∃ L, l.take 200 = L := ⟨_, rfl⟩
  have HV : Hid (ERd w (.slice Al L.length cl) L ∧ L.length ≤ 200) := Lib.hid (by
    rw [← hL]
    by_cases h : 200 < l.length
    · rw [show (l.take 200).length = 200 by simp; omega]
      exact ⟨SRd.take HV0.out EntS.cells_len (by omega) cl (by omega), Nat.le_refl _⟩
    · rw [List.take_of_length_le (by omega)]
      exact ⟨HV0.out, by omega⟩)
  go_cut [3] from 26 to 27 (fun v3 wx => v3 = .slice Al L.length cl ∧ wx = w2)
  case first =>
    by_cases h : 200 < l.length
    · have d1 : decide (200 < l.length) = true := decide_eq_true h
      have d2 : decide ((l.length : Int) > 200) = true := decide_eq_true (by omega)
      have hc : 200 ≤ cl := by omega
      have e : L.length = 200 := by rw [← hL]; simp; omega
      go_wp2
      go_meet
      case rel => exact ⟨by rw [e], rfl⟩
    · have d1 : decide (200 < l.length) = false := decide_eq_false h
      have d2 : decide ((l.length : Int) > 200) = false := decide_eq_false (by omega)
      have e : L.length = l.length := by rw [← hL]; simp; omega
      go_wp2
      go_meet
      case rel => exact ⟨by rw [e], rfl⟩
  case rest =>
  obtain ⟨rfl, hw⟩ := hcut
  replace hw := hw.symm; subst hw
  clear hL HV0 hl hcl
  obtain ⟨g0, g1⟩ := cells2p HG2.out
  obtain ⟨p0, p1, p2⟩ := cells3p HP2.out
  have hL200 := HV.out.2
  have HPt := Lib.hid (parts_ok g p (.slice Af free.length cf) free (.slice Al L.length cl) L w2 (HI.out.below HA2.out) hfl (HV.out.1.below HA2.out) (by omega))
  go_wp2_with fail
  clear g0 g1 p0 p1 p2
  (with_reducible refine HPt.out.mono ?_); rintro e w3 ⟨hE, hb⟩
  have HG3 := Lib.hid (block_up HG2.out hb); have HP3 := Lib.hid (block_up HP2.out hb); have HA3 := Lib.hid (below_up HA2.out hb)
  clear hb HPt HG2 HP2 HA2
  obtain ⟨E, q, Ao, no, co, Ar, nr, cr, rfl⟩ := partsE_shape hE
  have HE := Lib.hid hE
  clear hE
  have hbq := below_alloc1 w3 (.cells #[.int .i64 q.seg, .int .i64 q.off, .int .i64 q.next] 28)
  have HQ4 := Lib.hid (alloc_at (w := w3) (.cells #[.int .i64 q.seg, .int .i64 q.off, .int .i64 q.next] 28) rfl)
  have HG4 := Lib.hid (block_up HG3.out hbq); have HP4 := Lib.hid (block_up HP3.out hbq); have HA4 := Lib.hid (below_up HA3.out hbq)
  have HB34 := Lib.hid hbq
  clear hbq HG3 HP3
  go_upto_region 6 with (fail)
  generalize hbqe : w3.heap.size = bq at *
  generalize World.alloc w3 _ = w4 at *
  have HBqe := Lib.hid hbqe
  clear hbqe
  go_wp2_with fail
  go_loopw [13, 14] (fun vw vi W' => ∃ k : Nat, vi = .int .i64 k ∧ k ≤ L.length ∧ vw = .int .i64 (if (L.take k).any EntS.odd = true then 12 else 0) ∧ W' = w4) (fun _ vi _ => L.length - (intOf vi).toNat)
  case atStart => exact ⟨0, rfl, Nat.zero_le _, by simp, rfl⟩
  case round =>
  obtain ⟨k, rfl, hk, hv13, hw⟩ := hrel
  replace hw := hw.symm; subst hw
  obtain ⟨c, hc⟩ : ∃ c : Int, (if (L.take k).any EntS.odd = true then (12 : Int) else 0) = c := ⟨_, rfl⟩
  rw [hc] at hv13
  subst hv13
  have HC := Lib.hid hc
  clear hc
  by_cases hkl : k < L.length
  · have d : decide (k < L.length) = true := decide_eq_true hkl
    have di : decide ((k : Int) < L.length) = true := decide_eq_true (by omega)
    have bk : (k : Int) < L.length := by omega
    obtain ⟨gl, ol, rfl, _, hcl⟩ := (HV.out.1.below HA4.out).get EntS.cells_len (by decide) hkl
    have c0 := hcl 0 (by decide)
    have c1 := hcl 1 (by decide)
    have hs := any_take_succ EntS.odd L k hkl
    clear hcl
    generalize L[k] = x at *
    simp only [Nat.add_zero, EntS.cells, List.getElem?_cons_zero, List.getElem?_cons_succ] at c0 c1
    rw [odd_or x] at hs
    have HS := Lib.hid hs
    clear hs
    rcases (show x.kind < 1 ∨ (¬ x.kind < 1 ∧ 2 < x.kind) ∨ (¬ x.kind < 1 ∧ ¬ 2 < x.kind ∧ x.id < 1) ∨ (¬ x.kind < 1 ∧ ¬ 2 < x.kind ∧ ¬ x.id < 1 ∧ 255 < x.id) ∨ (¬ x.kind < 1 ∧ ¬ 2 < x.kind ∧ ¬ x.id < 1 ∧ ¬ 255 < x.id) by omega) with j1 | ⟨j1, j2⟩ | ⟨j1, j2, j3⟩ | ⟨j1, j2, j3, j4⟩ | ⟨j1, j2, j3, j4⟩
    · go_wp2
      exact ⟨⟨k + 1, by go_num, by omega, by rw [HS.out, decide_eq_true (by omega)]; simp, trivial⟩, by simp [intOf]; omega⟩
    · go_wp2
      exact ⟨⟨k + 1, by go_num, by omega, by rw [HS.out, decide_eq_true (by omega)]; simp, trivial⟩, by simp [intOf]; omega⟩
    · go_wp2
      exact ⟨⟨k + 1, by go_num, by omega, by rw [HS.out, decide_eq_true (by omega)]; simp, trivial⟩, by simp [intOf]; omega⟩
    · go_wp2
      exact ⟨⟨k + 1, by go_num, by omega, by rw [HS.out, decide_eq_true (by omega)]; simp, trivial⟩, by simp [intOf]; omega⟩
    · go_wp2
      exact ⟨⟨k + 1, by go_num, by omega, by rw [HS.out, decide_eq_false (by omega), Bool.or_false, HC.out], trivial⟩, by simp [intOf]; omega⟩
  · obtain rfl : k = L.length := by omega
    have d : decide (L.length < L.length) = false := decide_eq_false (by omega)
    have di : decide ((L.length : Int) < L.length) = false := decide_eq_false (by omega)
    have hc := HC.out
    rw [List.take_length] at hc
    have HC1 := Lib.hid hc
    clear hc HC
    have HOd := Lib.hid (lodd_ok g p (.slice Af free.length cf) free w4 (HI.out.below HA4.out) hfl)
    obtain ⟨g0, g1⟩ := cells2p HG4.out
    obtain ⟨p0, p1, p2⟩ := cells3p HP4.out
    go_wp2_with fail
    clear g0 g1 p0 p1 p2
    (with_reducible refine HOd.out.mono ?_); rintro e w5 ⟨rfl, hb⟩
    have HG5 := Lib.hid (block_up HG4.out hb); have HP5 := Lib.hid (block_up HP4.out hb); have HA5 := Lib.hid (below_up HA4.out hb); have HQ5 := Lib.hid (block_up HQ4.out hb); have HB35 := Lib.hid (below_up (HBqe.out.symm ▸ HB34.out) hb)
    clear hb HOd HG4 HP4 HA4 HQ4 HB34
    obtain ⟨q0, q1, q2⟩ := cells3p HQ5.out
    by_cases hOB : oddB g p free = true
    · rw [hOB]
      rcases HE.out with ⟨E', e, ⟨_, rfl⟩ | ⟨h1, _⟩ | ⟨h1, _⟩⟩ | ⟨h1, _⟩
      · simp only [Ending.returned.injEq, Value.tuple.injEq] at e
        simp at e
        obtain ⟨qs, qo, qn⟩ := q
        simp only [PlcS.zero] at e
        obtain ⟨⟨rfl, rfl, rfl⟩, ⟨rfl, rfl, rfl⟩, ⟨rfl, rfl, rfl⟩, rfl⟩ := e
        obtain ⟨g0, g1⟩ := cells2p HG5.out
        obtain ⟨p0, p1, p2⟩ := cells3p HP5.out
        have HRm := Lib.hid (room_ok g p (.slice Af free.length cf) free w5 (HI.out.below HA5.out) hfl)
        have hr0 : roomL g p free = 0 := by unfold roomL; rw [if_pos hOB]
        rw [hr0] at HRm
        clear hOB hr0
        go_wp2_with fail
        (with_reducible refine HRm.out.mono ?_); rintro e w6 ⟨rfl, hb⟩
        have HA6 := Lib.hid (below_up HA5.out hb)
        clear hb
        go_wp2
        go_ret
        exact ⟨rfl, HA6.out⟩
      · rw [hOB] at h1; cases h1
      · rw [hOB] at h1; cases h1
      · rw [hOB] at h1; cases h1
    replace hOB : oddB g p free = false := by cases hh : oddB g p free; rfl; exact absurd hh hOB
    rw [hOB]
    by_cases hAny : L.any EntS.odd = true
    · have hc := HC1.out
      rw [if_pos hAny] at hc
      subst hc
      rcases HE.out with ⟨E', e, ⟨h1, _⟩ | ⟨_, h1, rfl⟩ | ⟨_, h1, _⟩⟩ | ⟨_, h1, _⟩
      · rw [hOB] at h1; cases h1
      · simp only [Ending.returned.injEq, Value.tuple.injEq] at e
        simp at e
        obtain ⟨qs, qo, qn⟩ := q
        simp only [PlcS.zero] at e
        obtain ⟨⟨rfl, rfl, rfl⟩, ⟨rfl, rfl, rfl⟩, ⟨rfl, rfl, rfl⟩, rfl⟩ := e
        clear hOB
        go_wp2
        go_ret
        exact ⟨rfl, HA5.out⟩
      · rw [hAny] at h1; cases h1
      · rw [hAny] at h1; cases h1
    replace hAny : L.any EntS.odd = false := by cases hh : L.any EntS.odd; rfl; exact absurd hh hAny
    have hc := HC1.out
    rw [hAny, if_neg (by decide)] at hc
    subst hc
    obtain ⟨hck, o1, o2, _⟩ := oddB_f hOB
    obtain ⟨_, _, o4, o3⟩ := GeS.chk_zero hck
    clear hck
    obtain ⟨R, hR⟩ : ∃ R, allL g L.length p free L = R := ⟨_, rfl⟩
    -- what the parts are
    have HM : Hid ((E = 10 ∧ R = none ∧ no = 0 ∧ nr = 0) ∨ (E = 0 ∧ ∃ (ps : List PartS) (fr : List Int), R = some (ps.map PartS.d, q, fr) ∧ no = ps.length ∧ nr = fr.length ∧ SRd 6 PartS.cells w3 (.slice Ao no co) ps ∧ (∀ x ∈ ps, ERd w3 x.v x.es) ∧ ps.length < 9223372036854775807)) := Lib.hid (by
      rcases HE.out with ⟨E', e, ⟨h1, _⟩ | ⟨_, h1, rfl⟩ | ⟨_, _, h1, rfl⟩⟩ | ⟨_, _, ds, p', f', vf, vo, ps, h1, e, hi', hO, hds, hes⟩
      · rw [hOB] at h1; cases h1
      · rw [hAny] at h1; cases h1
      · simp only [Ending.returned.injEq, Value.tuple.injEq] at e
        simp at e
        obtain ⟨⟨rfl, rfl, rfl⟩, _, ⟨rfl, rfl, rfl⟩, rfl⟩ := e
        exact .inl ⟨rfl, hR.symm.trans h1, rfl, rfl⟩
      · obtain ⟨A1, c1, rfl, _⟩ := id hi'
        obtain ⟨A2, c2, rfl, hn2, hm2, _⟩ := own_rd hO
        have hbd : ps.length < 9223372036854775807 := by
          have h2 := allL_len _ _ _ _ _ _ _ _ h1
          rw [← hds, List.length_map] at h2
          omega
        simp only [Ending.returned.injEq, Value.tuple.injEq] at e
        simp at e
        obtain ⟨⟨rfl, rfl, rfl⟩, ⟨z1, z2, z3⟩, ⟨rfl, rfl, rfl⟩, rfl⟩ := e
        obtain rfl : q = p' := by cases q; cases p'; simp only at z1 z2 z3; subst z1 z2 z3; rfl
        subst hds
        exact .inr ⟨rfl, ps, f', hR.symm.trans h1, rfl, rfl, srd_own PartS.cells_len (by decide) hO, fun x hx => srd_own EntS.cells_len (by decide) (hes x hx), hbd⟩)
    have HOd : Hid (∀ x ∈ L, EntS.odd x = false) := Lib.hid (fun x hx => by simpa using List.any_eq_false.1 hAny x hx)
    clear HE hAny hOB HC1 q0 q1 q2
    obtain ⟨p0, p1, p2⟩ := cells3p HP5.out
    have hbt := below_alloc1 w5 (.cells #[.int .i64 p.seg, .int .i64 p.off, .int .i64 p.next] 28)
    have HT6 := Lib.hid (alloc_at (w := w5) (.cells #[.int .i64 p.seg, .int .i64 p.off, .int .i64 p.next] 28) rfl)
    have HB56 := Lib.hid hbt
    clear hbt
    go_upto_region 17 with (fail)
    clear p0 p1 p2
    generalize hbte : w5.heap.size = bt at *
    generalize World.alloc w5 _ = w6 at *
    have HBte := Lib.hid hbte
    clear hbte
    have HR0 := Lib.hid hR
    clear hR
    go_wp2_with fail
    go_loopw [16, 17, 18] (fun vn vf vi W' => ∃ (m i K : Nat) (Af' : Option Addr) (f : List Int) (cf' : Nat) (at_ : PlcS), vn = .int .i64 m ∧ vf = .slice Af' f.length cf' ∧ vi = .int .i64 i ∧ i ≤ L.length ∧ m ≤ no ∧ IRd w5 (.slice Af' f.length cf') f ∧ f.length ≤ free.length ∧ 0 ≤ at_.off ∧ at_.off ≤ g.siz ∧ L.length - i ≤ K ∧ allL g K at_ f (L.drop i) = RemE R m ∧ W'.heap[bt]? = some (.cells #[.int .i64 at_.seg, .int .i64 at_.off, .int .i64 at_.next] 28 (0, 0)) ∧ Below bt w5 W') (fun _ _ vi _ => L.length - (intOf vi).toNat)
    case atStart => exact ⟨0, 0, L.length, Af, free, cf, p, rfl, rfl, rfl, Nat.zero_le _, Nat.zero_le _, HI.out.below HA5.out, Nat.le_refl _, o1, o2, Nat.le_refl _, by rw [List.drop_zero, HR0.out]; exact rem_zero R, HT6.out, HB56.out⟩
    case round =>
    obtain ⟨m, i, K, Af', f, cf', at_, rfl, rfl, rfl, hiL, hm, hIf, hfl', a1, a2, hK, hall, hT, hB⟩ := hrel
    have HIf := Lib.hid hIf
    have HAll := Lib.hid (And.intro hK hall)
    have HT := Lib.hid hT
    have HB := Lib.hid hB
    have HBw : Hid (Below w5.heap.size w5 wr) := Lib.hid (HBte.out.symm ▸ hB)
    have HGr := Lib.hid (block_up HG5.out HBw.out)
    clear hIf hK hall hT hB
    by_cases hlt : i < L.length
    · have d : decide (i < L.length) = true := decide_eq_true hlt
      have di : decide ((i : Int) < L.length) = true := decide_eq_true (by omega)
      obtain ⟨g0, g1⟩ := cells2p HGr.out
      obtain ⟨t0, t1, t2⟩ := cells3p HT.out
      have ks : IntKind.i64.wrap (g.siz - at_.off) = g.siz - at_.off := by rw [IntWalk.i64_in _ (by omega)]
      go_upto_if 118 with (fail)
      clear g0 g1 t0 t1 t2
      go_cut [17] (fun v17 wx => ∃ (at1 : PlcS) (f1 : List Int) (A1 : Option Addr) (c1 : Nat), v17 = .slice A1 f1.length c1 ∧ onL g at_ f = some (at1, f1) ∧ IRd w5 (.slice A1 f1.length c1) f1 ∧ wx.heap[bt]? = some (.cells #[.int .i64 at1.seg, .int .i64 at1.off, .int .i64 at1.next] 28 (0, 0)) ∧ Below bt w5 wx)
      case first =>
        by_cases h2 : g.siz - at_.off < 2
        · have d2 : decide (g.siz - at_.off < 2) = true := decide_eq_true h2
          cases f with
          | nil =>
            have hon : onL g at_ [] = none := by unfold onL; rw [if_neg (by omega)]
            have hRn := round_none hlt HAll.out.2 HAll.out.1 hon
            rcases HM.out with ⟨rfl, _, rfl, rfl⟩ | ⟨_, ps, fr, h1, _⟩
            · go_wp2
              go_ret
              exact ⟨rfl, below_up HA5.out HBw.out⟩
            · rw [hRn] at h1; cases h1
          | cons a t =>
            have e0 : (((t.length + 1 : Nat) : Int) == 0) = false := by rw [beq_eq_false_iff_ne]; omega
            have hon : onL g at_ (a :: t) = some (⟨at_.next, 0, a⟩, t) := by unfold onL; rw [if_neg (by omega)]
            have HOn := Lib.hid hon
            obtain ⟨gf, of', rfl, hca, hrest⟩ := ird_rest HIf.out
            have b1 : (1 : Int) ≤ (t.length : Int) + 1 := by omega
            have b2 : (1 : Int) ≤ ((t.length + 1 : Nat) : Int) := by omega
            obtain ⟨A5, hA5⟩ : ∃ A5, (if cf' = 1 then some (⟨gf, of', none⟩ : Addr) else some ⟨gf, of' + 1, none⟩) = A5 := ⟨_, rfl⟩
            rw [hA5] at hrest
            have HRest := Lib.hid hrest
            have HCa := Lib.hid (cell_up hca HBw.out)
            simp only [List.length_cons]
            clear hca hrest hon
            go_upto_region 22 with (fail)
            have HD := Lib.hid (below_drew1 (w := wr))
            have HTd := Lib.hid (block_up HT.out HD.out)
            have HBd : Hid (Below bt w5 wr.drew) := Lib.hid HB.out.drew
            obtain ⟨t0, t1, t2⟩ := cells3p HTd.out
            have f0 := free_block HTd.out 0
            have f1 := free_block HTd.out 1
            have f2 := free_block HTd.out 2
            refine beginS (S := fun W' => W'.cell? ⟨bt, 2, none⟩ = some (.int .i64 at_.next) ∧ W'.cell? ⟨gf, of', none⟩ = some (.int .i64 a)) [8] (by kernel_rfl) ⟨t2, cell_up HCa.out HD.out⟩ (fun hHeld0 => ?_)
            generalize (World.drew wr) = Wd at *
            refine takeF (i := 0) (v := ?_) rfl (by kernel_rfl) (fun _ _ _ h => h) (Or.inl ⟨by kernel_rfl, ?_⟩) (by assumption) ?_; rotate_left; (focus (intro w _; go_simp; (try with_reducible rfl); done)); (try simp only [Act.put, List.getElem_toArray, List.getElem_cons_succ, List.getElem_cons_zero, List.setIfInBounds_toArray, List.set_cons_zero, List.set_cons_succ])
            refine takeH (i := 1) (v := ?_) rfl (by kernel_rfl) (fun _ _ _ h => h) (Or.inl ⟨by kernel_rfl, ?_⟩) (by assumption) ?_; rotate_left; (focus (intro w hSw; (try dsimp only at hSw); go_simp; (try with_reducible rfl); done)); (try simp only [Act.put, List.getElem_toArray, List.getElem_cons_succ, List.getElem_cons_zero, List.setIfInBounds_toArray, List.set_cons_zero, List.set_cons_succ])
            refine takeF (i := 2) (v := ?_) rfl (by kernel_rfl) (fun _ _ _ h => h) (Or.inl ⟨by kernel_rfl, ?_⟩) (by assumption) ?_; rotate_left; (focus (intro w _; go_simp; (try with_reducible rfl); done)); (try simp only [Act.put, List.getElem_toArray, List.getElem_cons_succ, List.getElem_cons_zero, List.setIfInBounds_toArray, List.set_cons_zero, List.set_cons_succ])
            refine takeF (i := 3) (v := ?_) rfl (by kernel_rfl) (fun _ _ _ h => h) (Or.inl ⟨by kernel_rfl, ?_⟩) (by assumption) ?_; rotate_left; (focus (intro w _; go_simp; (try with_reducible rfl); done)); (try simp only [Act.put, List.getElem_toArray, List.getElem_cons_succ, List.getElem_cons_zero, List.setIfInBounds_toArray, List.set_cons_zero, List.set_cons_succ])
            refine takeH (i := 4) (v := ?_) rfl (by kernel_rfl) (fun _ _ _ h => h) (Or.inl ⟨by kernel_rfl, ?_⟩) (by assumption) ?_; rotate_left; (focus (intro w hSw; (try dsimp only at hSw); go_simp; (try with_reducible rfl); done)); (try simp only [Act.put, List.getElem_toArray, List.getElem_cons_succ, List.getElem_cons_zero, List.setIfInBounds_toArray, List.set_cons_zero, List.set_cons_succ])
            refine takeF (i := 5) (v := ?_) rfl (by kernel_rfl) (fun _ _ _ h => h) (Or.inl ⟨by kernel_rfl, ?_⟩) (by assumption) ?_; rotate_left; (focus (intro w _; go_simp; (try with_reducible rfl); done)); (try simp only [Act.put, List.getElem_toArray, List.getElem_cons_succ, List.getElem_cons_zero, List.setIfInBounds_toArray, List.set_cons_zero, List.set_cons_succ])
            refine takeF (i := 6) (v := ?_) rfl (by kernel_rfl) (fun _ _ _ h => h) (Or.inl ⟨by kernel_rfl, ?_⟩) (by assumption) ?_; rotate_left; (focus (intro w _; go_simp; (try with_reducible rfl); done)); (try simp only [Act.put, List.getElem_toArray, List.getElem_cons_succ, List.getElem_cons_zero, List.setIfInBounds_toArray, List.set_cons_zero, List.set_cons_succ])
            refine takeF (i := 7) (v := ?_) rfl (by kernel_rfl) (fun _ _ _ h => h) (Or.inl ⟨by kernel_rfl, ?_⟩) (by assumption) ?_; rotate_left; (focus (intro w _; go_simp; (try with_reducible rfl); done)); (try simp only [Act.put, List.getElem_toArray, List.getElem_cons_succ, List.getElem_cons_zero, List.setIfInBounds_toArray, List.set_cons_zero, List.set_cons_succ])
            clear hHeld0
            refine readyS (rs := [8]) (by kernel_rfl) (by simp) ?_
            refine ReadyS.consP rfl (by kernel_rfl) (fun K hK => ?_) ReadyS.nil
            (try simp only [List.getElem_toArray, List.getElem_cons_succ, List.getElem_cons_zero])
            go_simp
            have HX3 := Lib.hid (blk_set (blk_set (blk_set HTd.out 0 (.int .i64 at_.next)) 1 (.int .i64 0)) 2 (.int .i64 a))
            have HB3 := Lib.hid (((HBd.out.setCell (p := ⟨bt, 0, none⟩) (Nat.le_refl _) (.int .i64 at_.next)).setCell (p := ⟨bt, 1, none⟩) (Nat.le_refl _) (.int .i64 0)).setCell (p := ⟨bt, 2, none⟩) (Nat.le_refl _) (.int .i64 a))
            refine hK.out _ _ ?_
            clear hK K
            (try simp only [Act.put, List.getElem_toArray, List.getElem_cons_succ, List.getElem_cons_zero, List.setIfInBounds_toArray, List.set_cons_zero, List.set_cons_succ])
            clear t0 t1 t2 f0 f1 f2
            refine takeP (i := 9) (v := ?_) rfl (by kernel_rfl) (fun _ _ _ h => h) (Or.inl ⟨by kernel_rfl, ?_⟩) ?_; rotate_left; (focus (intro w _; go_simp; (try with_reducible rfl); done)); (try simp only [Act.put, List.getElem_toArray, List.getElem_cons_succ, List.getElem_cons_zero, List.setIfInBounds_toArray, List.set_cons_zero, List.set_cons_succ])
            refine doneS (by kernel_rfl) ?_ _
            go_wp2
            go_meet
            case rel => exact ⟨_, _, _, _, rfl, HOn.out, HRest.out, HX3.out, HB3.out⟩
        · have d2 : decide (g.siz - at_.off < 2) = false := decide_eq_false h2
          have hon : onL g at_ f = some (at_, f) := by unfold onL; rw [if_pos (by omega)]
          have HOn := Lib.hid hon
          clear hon
          go_wp2
          go_meet
          case rel => exact ⟨_, _, _, _, rfl, HOn.out, HIf.out, HT.out, HB.out⟩
      case rest =>
      obtain ⟨at1, f1, A1, c1, rfl, hon, hi1, hT1, hB1⟩ := hcut
      obtain ⟨r1, r2, r3⟩ := onL_room hon a1 o4
      have HOn := Lib.hid hon
      have HI1 := Lib.hid hi1
      have HT1 := Lib.hid hT1
      have HB1 := Lib.hid hB1
      have HBw1 : Hid (Below w5.heap.size w5 wc) := Lib.hid (HBte.out.symm ▸ hB1)
      clear hon hi1 hT1 hB1 HT HB HBw HIf HGr
      obtain ⟨r, hr⟩ : ∃ r, g.siz - at1.off = r := ⟨_, rfl⟩
      rw [hr] at r2
      have kr : IntKind.i64.wrap r = r := by rw [IntWalk.i64_in _ (by omega)]
      have kr1 : IntKind.i64.wrap (r - 1) = r - 1 := by rw [IntWalk.i64_in _ (by omega)]
      go_upto_region 23 with (fail)
      have HBd : Hid (Below bt w5 wc.drew) := Lib.hid HB1.out.drew
      have HBwd : Hid (Below w5.heap.size w5 wc.drew) := Lib.hid HBw1.out.drew
      have HGd := Lib.hid (block_up HG5.out HBwd.out)
      have HTd := Lib.hid (block_up HT1.out (below_drew1 (w := wc)))
      refine beginS (S := fun W' => W'.cell? ⟨w.heap.size, 1, none⟩ = some (.int .i64 g.siz) ∧ W'.cell? ⟨bt, 1, none⟩ = some (.int .i64 at1.off)) [] (by kernel_rfl) ⟨(cells2p HGd.out).2, (cells3p HTd.out).2.1⟩ (fun hHeld0 => ?_)
      generalize (World.drew wc) = Wd at *
      refine takeF (i := 0) (v := ?_) rfl (by kernel_rfl) (fun _ _ _ h => h) (Or.inl ⟨by kernel_rfl, ?_⟩) (by assumption) ?_; rotate_left; (focus (intro w _; go_simp; (try with_reducible rfl); done)); (try simp only [Act.put, List.getElem_toArray, List.getElem_cons_succ, List.getElem_cons_zero, List.setIfInBounds_toArray, List.set_cons_zero, List.set_cons_succ])
      refine takeF (i := 1) (v := ?_) rfl (by kernel_rfl) (fun _ _ _ h => h) (Or.inl ⟨by kernel_rfl, ?_⟩) (by assumption) ?_; rotate_left; (focus (intro w _; go_simp; (try with_reducible rfl); done)); (try simp only [Act.put, List.getElem_toArray, List.getElem_cons_succ, List.getElem_cons_zero, List.setIfInBounds_toArray, List.set_cons_zero, List.set_cons_succ])
      refine takeH (i := 2) (v := ?_) rfl (by kernel_rfl) (fun _ _ _ h => h) (Or.inl ⟨by kernel_rfl, ?_⟩) (by assumption) ?_; rotate_left; (focus (intro w hSw; (try dsimp only at hSw); go_simp; (try with_reducible rfl); done)); (try simp only [Act.put, List.getElem_toArray, List.getElem_cons_succ, List.getElem_cons_zero, List.setIfInBounds_toArray, List.set_cons_zero, List.set_cons_succ])
      refine takeF (i := 3) (v := ?_) rfl (by kernel_rfl) (fun _ _ _ h => h) (Or.inl ⟨by kernel_rfl, ?_⟩) (by assumption) ?_; rotate_left; (focus (intro w _; go_simp; (try with_reducible rfl); done)); (try simp only [Act.put, List.getElem_toArray, List.getElem_cons_succ, List.getElem_cons_zero, List.setIfInBounds_toArray, List.set_cons_zero, List.set_cons_succ])
      refine takeH (i := 4) (v := ?_) rfl (by kernel_rfl) (fun _ _ _ h => h) (Or.inl ⟨by kernel_rfl, ?_⟩) (by assumption) ?_; rotate_left; (focus (intro w hSw; (try dsimp only at hSw); go_simp; (try with_reducible rfl); done)); (try simp only [Act.put, List.getElem_toArray, List.getElem_cons_succ, List.getElem_cons_zero, List.setIfInBounds_toArray, List.set_cons_zero, List.set_cons_succ])
      refine takeF (i := 5) (v := ?_) rfl (by kernel_rfl) (fun _ _ _ h => h) (Or.inl ⟨by kernel_rfl, ?_⟩) (by assumption) ?_; rotate_left; (focus (intro w _; go_simp; (try with_reducible rfl); done)); (try simp only [Act.put, List.getElem_toArray, List.getElem_cons_succ, List.getElem_cons_zero, List.setIfInBounds_toArray, List.set_cons_zero, List.set_cons_succ])
      refine takeF (i := 6) (v := ?_) rfl (by kernel_rfl) (fun _ _ _ h => h) (Or.inl ⟨by kernel_rfl, ?_⟩) (by assumption) ?_; rotate_left; (focus (intro w _; go_simp; (try with_reducible rfl); done)); (try simp only [Act.put, List.getElem_toArray, List.getElem_cons_succ, List.getElem_cons_zero, List.setIfInBounds_toArray, List.set_cons_zero, List.set_cons_succ])
      refine takeF (i := 7) (v := ?_) rfl (by kernel_rfl) (fun _ _ _ h => h) (Or.inl ⟨by kernel_rfl, ?_⟩) (by assumption) ?_; rotate_left; (focus (intro w _; go_simp; (try with_reducible rfl); done)); (try simp only [Act.put, List.getElem_toArray, List.getElem_cons_succ, List.getElem_cons_zero, List.setIfInBounds_toArray, List.set_cons_zero, List.set_cons_succ])
      refine takeF (i := 8) (v := ?_) rfl (by kernel_rfl) (fun _ _ _ h => h) (Or.inl ⟨by kernel_rfl, ?_⟩) (by assumption) ?_; rotate_left; (focus (intro w _; go_simp; (try with_reducible rfl); done)); (try simp only [Act.put, List.getElem_toArray, List.getElem_cons_succ, List.getElem_cons_zero, List.setIfInBounds_toArray, List.set_cons_zero, List.set_cons_succ])
      clear hHeld0 HT1 HB1 HBw1
      refine doneS (by kernel_rfl) ?_ _
      obtain ⟨T, hT⟩ : ∃ T, takeL r 0 1 (L.drop i) = T := ⟨_, rfl⟩
      have HTk := Lib.hid hT
      clear hT
      go_wp2_with fail
      go_loopw [19, 20] (fun vk vl W' => ∃ (n : Nat) (left : Int), vk = .int .i64 ((i + n : Nat) : Int) ∧ vl = .int .i64 left ∧ i + n ≤ L.length ∧ n ≤ 64 ∧ 0 ≤ left ∧ left ≤ r - 1 ∧ takeL r n (r - left) (L.drop (i + n)) = T ∧ W' = Wd) (fun vk _ _ => L.length - (intOf vk).toNat)
      case atStart => exact ⟨0, r - 1, rfl, rfl, by omega, by omega, by omega, by omega, by rw [Nat.add_zero, show r - (r - 1) = 1 by omega]; exact HTk.out, rfl⟩
      case round =>
      obtain ⟨n, left, rfl, rfl, hn1, hn2, hl0, hl1, hTn, hw⟩ := hrel
      replace hw := hw.symm; subst hw
      have HTn := Lib.hid hTn
      clear hTn
      have ki : IntKind.i64.wrap (((i + n : Nat) : Int) - (i : Int)) = (n : Int) := by rw [IntWalk.i64_in _ (by omega)]; omega
      have kp : IntKind.i64.wrap (((i + n : Nat) : Int) + 1) = ((i + n + 1 : Nat) : Int) := by rw [IntWalk.i64_in _ (by omega)]; omega
      obtain ⟨j, hj⟩ : ∃ j, i + n = j := ⟨_, rfl⟩
      rw [hj] at ki kp hn1 HTn
      simp only [hj]
      go_upto_region 24 with (fail)
      -- does it go on
      have hgo : ∃ c : Bool, (c = true → ∃ hk : j < L.length, n < 64 ∧ (L[j].kind = 2 ∨ (L[j].kind = 1 ∧ 0 < left))) ∧ (c = false → T = (n, r - left)) ∧ ((j = L.length ∧ c = false) ∨ (j < L.length ∧ n = 64 ∧ c = false) ∨ ∃ hk : j < L.length, n < 64 ∧ ((L[j].kind = 2 ∧ c = true) ∨ (L[j].kind = 1 ∧ 0 < left ∧ c = true) ∨ (L[j].kind = 1 ∧ ¬ 0 < left ∧ c = false))) := by
        by_cases c1 : j < L.length
        · by_cases c2 : n = 64
          · exact ⟨false, nofun, fun _ => HTn.out.symm.trans (takeL_stop c1 (.inl c2)), .inr (.inl ⟨c1, c2, rfl⟩)⟩
          · obtain ⟨k12, _, _⟩ := EntS.odd_false (HOd.out _ (List.getElem_mem c1))
            rcases k12 with k1 | k2
            · by_cases c3 : 0 < left
              · exact ⟨true, fun _ => ⟨c1, by omega, .inr ⟨k1, c3⟩⟩, nofun, .inr (.inr ⟨c1, by omega, .inr (.inl ⟨k1, c3, rfl⟩)⟩)⟩
              · refine ⟨false, nofun, fun _ => HTn.out.symm.trans (takeL_stop c1 (.inr ?_)), .inr (.inr ⟨c1, by omega, .inr (.inr ⟨k1, c3, rfl⟩)⟩)⟩
                unfold needL
                rw [if_pos k1]
                omega
            · exact ⟨true, fun _ => ⟨c1, by omega, .inl k2⟩, nofun, .inr (.inr ⟨c1, by omega, .inl ⟨k2, rfl⟩⟩)⟩
        · obtain rfl : j = L.length := by omega
          exact ⟨false, nofun, fun _ => HTn.out.symm.trans takeL_end, .inl ⟨rfl, rfl⟩⟩
      obtain ⟨c, hyes, hno, hcs⟩ := hgo
      have HYes := Lib.hid hyes
      have HNo := Lib.hid hno
      clear hyes hno
      go_cut [168] (fun v168 wx => v168 = .bool c ∧ wx = Wd)
      case first =>
        rcases hcs with ⟨rfl, rfl⟩ | ⟨c1, rfl, rfl⟩ | ⟨c1, c2, hcs⟩
        · have d1 : decide (L.length < L.length) = false := decide_eq_false (by omega)
          have d2 : decide ((L.length : Int) < L.length) = false := decide_eq_false (by omega)
          go_wp2
          go_meet
          case rel => exact ⟨rfl, rfl⟩
        · have d1 : decide (j < L.length) = true := decide_eq_true c1
          have d2 : decide ((j : Int) < L.length) = true := decide_eq_true (by omega)
          go_wp2
          go_meet
          case rel => exact ⟨rfl, rfl⟩
        · have d1 : decide (j < L.length) = true := decide_eq_true c1
          have d2 : decide ((j : Int) < L.length) = true := decide_eq_true (by omega)
          have d3 : decide (n < 64) = true := decide_eq_true c2
          have d4 : decide ((n : Int) < 64) = true := decide_eq_true (by omega)
          have bj : (j : Int) < L.length := by omega
          obtain ⟨gl, ol, rfl, _, hcl⟩ := ((HV.out.1.below HA5.out).below HBwd.out).get EntS.cells_len (by decide) c1
          have c0 := hcl 0 (by decide)
          clear hcl
          generalize L[j] = x at *
          simp only [Nat.add_zero, EntS.cells, List.getElem?_cons_zero, List.getElem?_cons_succ] at c0
          have hnn : (0 : Int) ≤ n := by omega
          rcases hcs with ⟨h2, rfl⟩ | ⟨h1, h2, rfl⟩ | ⟨h1, h2, rfl⟩
          · rw [h2] at c0
            go_wp2
            go_meet
            case rel => exact ⟨rfl, rfl⟩
          · rw [h1] at c0
            have d5 : decide (left > 0) = true := decide_eq_true h2
            have d6 : decide (0 < left) = true := decide_eq_true h2
            go_wp2
            go_meet
            case rel => exact ⟨rfl, rfl⟩
          · rw [h1] at c0
            have d5 : decide (left > 0) = false := decide_eq_false h2
            have d6 : decide (0 < left) = false := decide_eq_false h2
            go_wp2
            go_meet
            case rel => exact ⟨rfl, rfl⟩
      case rest =>
      obtain ⟨rfl, hw⟩ := hcut
      replace hw := hw.symm; subst hw
      clear hcs
      cases c with
      | true =>
        obtain ⟨c1, c2, h12⟩ := HYes.out rfl
        obtain ⟨gl, ol, rfl, _, hcl⟩ := ((HV.out.1.below HA5.out).below HBwd.out).get EntS.cells_len (by decide) c1
        have c0 := hcl 0 (by decide)
        clear hcl
        have hst : ¬ (n = 64 ∨ r - (r - left) < needL L[j]) → _ := @takeL_go r n (r - left) L j c1
        have HSt := Lib.hid hst
        clear hst
        have bj : (j : Int) < L.length := by omega
        generalize L[j] = x at *
        simp only [Nat.add_zero, EntS.cells, List.getElem?_cons_zero, List.getElem?_cons_succ] at c0
        rcases h12 with k2 | ⟨k1, c3⟩
        · have hnd : needL x = 0 := by unfold needL; rw [if_neg (by omega)]
          rw [hnd] at HSt
          rw [k2] at c0
          have HN := Lib.hid (HTn.out.symm.trans (HSt.out (by omega)))
          clear HSt HYes HNo hnd
          go_wp2
          refine ⟨⟨n + 1, left, by rw [← hj]; rfl, rfl, by omega, by omega, by omega, by omega, ?_, trivial⟩, by simp [intOf]; omega⟩
          rw [show i + (n + 1) = j + 1 by omega]
          have := HN.out
          rw [Int.add_zero] at this
          exact this.symm
        · have hnd : needL x = 1 := by unfold needL; rw [if_pos k1]
          rw [hnd] at HSt
          rw [k1] at c0
          have HN := Lib.hid (HTn.out.symm.trans (HSt.out (by omega)))
          have kl : IntKind.i64.wrap (left - 1) = left - 1 := by rw [IntWalk.i64_in _ (by omega)]
          clear HSt HYes HNo hnd
          go_wp2
          refine ⟨⟨n + 1, left - 1, by rw [← hj]; rfl, rfl, by omega, by omega, by omega, by omega, ?_, trivial⟩, by simp [intOf]; omega⟩
          rw [show i + (n + 1) = j + 1 by omega]
          have := HN.out
          rw [show r - left + 1 = r - (left - 1) by omega] at this
          exact this.symm
      | false =>
        have hT := HTk.out.trans (HNo.out rfl)
        have hn1' : 1 ≤ n := by
          have h1 := hT
          rw [List.drop_eq_getElem_cons hlt] at h1
          have h2 := takeL_pos r r2 L[i] (L.drop (i + 1))
          rw [h1] at h2
          exact h2
        have hra := round_all hlt HAll.out.1 HAll.out.2 HOn.out (n := n) (s := r - left) (by rw [hr]; exact hT) hn1' (by omega)
        rw [hj, show at1.off + (r - left) = g.siz - left by omega] at hra
        have HRa := Lib.hid hra
        clear hra hT HNo HYes HTn HTk
        have hij : i < j := by omega
        have ko : IntKind.i64.wrap (g.siz - left) = g.siz - left := by rw [IntWalk.i64_in _ (by omega)]
        rcases HM.out with ⟨rfl, rfl, rfl, rfl⟩ | ⟨rfl, ps, fr, rfl, rfl, rfl, hps, hes, hbd⟩
        · have HGd1 := (cells2p HGd.out).2
          obtain ⟨t0, t1, t2⟩ := cells3p HTd.out
          have fz := free_block HTd.out 1
          obtain ⟨z1, z2⟩ := HRa.out.1 m rfl
          have HZ := Lib.hid (And.intro z1 z2)
          clear z1 z2
          go_wp2
          exact ⟨⟨m, j, K - 1, A1, f1, c1, ⟨at1.seg, g.siz - left, at1.next⟩, rfl, rfl, rfl, hn1, hm, HI1.out, by omega, by show 0 ≤ g.siz - left; omega, by show g.siz - left ≤ g.siz; omega, HZ.out.1, HZ.out.2, blk_set HTd.out 1 _, HBd.out.setCell (p := ⟨bt, 1, none⟩) (Nat.le_refl _) _⟩, by simp [intOf]; omega⟩
        · obtain ⟨z0, z1, z2⟩ := HRa.out.2 _ _ _ rfl
          rw [List.getElem?_map] at z0
          obtain ⟨x, hx, hxd⟩ := Option.map_eq_some_iff.1 z0
          obtain ⟨hmp, hxm⟩ := List.getElem?_eq_some_iff.1 hx
          have HZ := Lib.hid (And.intro z1 z2)
          obtain ⟨go, oo, rfl, _, hcx⟩ := ((hps.below HB35.out).below HBwd.out).get PartS.cells_len (by decide) hmp
          rw [hxm] at hcx
          have hex := ((hes x (List.mem_of_getElem? hx)).below HB35.out).below HBwd.out
          obtain ⟨gl, ol, rfl, _, _⟩ := ((HV.out.1.below HA5.out).below HBwd.out).get EntS.cells_len (by decide) hlt
          have hLc := ((HV.out.1.below HA5.out).below HBwd.out).len.2
          have hXd : Hid (decide ((⟨x.p, x.last, x.es⟩ : PartD) = ⟨at1, decide (j = L.length), (L.drop i).take n⟩) = true) := Lib.hid (decide_eq_true hxd)
          have hel : x.es.length ≤ 1000000 := by
            have := congrArg (fun y : PartD => y.es.length) hxd
            simp only [PartS.d, List.length_take, List.length_drop] at this
            omega
          have hls : ((L.drop i).take n).length = j - i := by simp; omega
          have HLs : Hid (ERd Wd (.slice (some ⟨gl, ol + i * 2, none⟩) (j - i) (cl - i)) ((L.drop i).take n)) := Lib.hid (by
            have h1 := SRd.drop ((HV.out.1.below HA5.out).below HBwd.out) EntS.cells_len (k := i) (by omega) (cl - i) (by omega)
            have h2 := SRd.take h1 EntS.cells_len (k := n) (by rw [List.length_drop]; omega) (cl - i) (by omega)
            rw [show j - i = n by omega]
            simpa [add_plain] using h2)
          have c0 := hcx 0 (by decide)
          have c1 := hcx 1 (by decide)
          have c2 := hcx 2 (by decide)
          have c3 := hcx 3 (by decide)
          have c4 := hcx 4 (by decide)
          have c5 := hcx 5 (by decide)
          simp only [Nat.add_zero, PartS.cells, List.getElem?_cons_zero, List.getElem?_cons_succ] at c0 c1 c2 c3 c4 c5
          have HC := Lib.hid (And.intro c0 (And.intro c1 (And.intro c2 (And.intro c3 (And.intro c4 c5)))))
          have HEx := Lib.hid hex
          clear c0 c1 c2 c3 c4 c5 hcx hex hps hes z0 z1 z2 hx hxm hxd
          obtain ⟨xp, xl, xv, xes⟩ := x
          have hEx : ERd Wd xv xes := HEx.out
          clear HEx
          have HEx := Lib.hid hEx
          obtain ⟨Ax, cx, rfl, _, _⟩ := hEx
          simp only at HC hXd hel
          obtain ⟨bl, hbl⟩ : ∃ b, decide (j = L.length) = b := ⟨_, rfl⟩
          rw [hbl] at hXd
          have kb : ((j : Int) == (L.length : Int)) = bl := by
            rw [← hbl, Bool.eq_iff_iff, beq_iff_eq, decide_eq_true_iff]; omega
          have dm : decide ((m : Int) ≥ ps.length) = false := decide_eq_false (by omega)
          have dm2 : decide ((ps.length : Int) ≤ m) = false := decide_eq_false (by omega)
          have dm3 : decide (ps.length ≤ m) = false := decide_eq_false (by omega)
          clear hbl
          have sb1 : j ≤ cl := by omega
          have sb2 : i ≤ j := by omega
          have sb3 : ¬ cl = i := by omega
          go_upto_region 31 with (fail)
          have HDd := Lib.hid (below_drew1 (w := Wd))
          have HTe := Lib.hid (block_up HTd.out HDd.out)
          have HGe := Lib.hid (block_up HGd.out HDd.out)
          have HBe : Hid (Below bt w5 Wd.drew) := Lib.hid HBd.out.drew
          have HExe := Lib.hid (HEx.out.below HDd.out)
          have HLse := Lib.hid (HLs.out.below HDd.out)
          have HCe : Hid ((Wd.drew.cell? ⟨go, oo + m * 6, none⟩ = some (.int .i64 xp.seg) ∧ Wd.drew.cell? ⟨go, oo + m * 6 + 1, none⟩ = some (.int .i64 xp.off) ∧ Wd.drew.cell? ⟨go, oo + m * 6 + 2, none⟩ = some (.int .i64 xp.next) ∧ Wd.drew.cell? ⟨go, oo + m * 6 + 3, none⟩ = some (.int .i64 xp.next) ∧ Wd.drew.cell? ⟨go, oo + m * 6 + 4, none⟩ = some (.bool xl) ∧ Wd.drew.cell? ⟨go, oo + m * 6 + 5, none⟩ = some (.slice Ax xes.length cx)) ∧ Wd.drew.cell? ⟨bt, 0, none⟩ = some (.int .i64 at1.seg) ∧ Wd.drew.cell? ⟨bt, 1, none⟩ = some (.int .i64 at1.off) ∧ Wd.drew.cell? ⟨bt, 2, none⟩ = some (.int .i64 at1.next)) :=
            Lib.hid ⟨⟨cell_up HC.out.1 HDd.out, cell_up HC.out.2.1 HDd.out, cell_up HC.out.2.2.1 HDd.out, cell_up HC.out.2.2.2.1 HDd.out, cell_up HC.out.2.2.2.2.1 HDd.out, cell_up HC.out.2.2.2.2.2 HDd.out⟩, cells3p HTe.out⟩
          refine beginS (S := fun W' => (W'.cell? ⟨go, oo + m * 6, none⟩ = some (.int .i64 xp.seg) ∧ W'.cell? ⟨go, oo + m * 6 + 1, none⟩ = some (.int .i64 xp.off) ∧ W'.cell? ⟨go, oo + m * 6 + 2, none⟩ = some (.int .i64 xp.next) ∧ W'.cell? ⟨go, oo + m * 6 + 3, none⟩ = some (.int .i64 xp.next) ∧ W'.cell? ⟨go, oo + m * 6 + 4, none⟩ = some (.bool xl) ∧ W'.cell? ⟨go, oo + m * 6 + 5, none⟩ = some (.slice Ax xes.length cx)) ∧ W'.cell? ⟨bt, 0, none⟩ = some (.int .i64 at1.seg) ∧ W'.cell? ⟨bt, 1, none⟩ = some (.int .i64 at1.off) ∧ W'.cell? ⟨bt, 2, none⟩ = some (.int .i64 at1.next)) [18] (by kernel_rfl) HCe.out (fun hHeld0 => ?_)
          clear HTd HGd HBd HEx HLs HC HDd HBwd
          generalize (World.drew Wd) = We at *
          refine takeF (i := 0) (v := ?_) rfl (by kernel_rfl) (fun _ _ _ h => h) (Or.inl ⟨by kernel_rfl, ?_⟩) (by assumption) ?_; rotate_left; (focus (intro w _; go_simp; (try with_reducible rfl); done)); (try simp only [Act.put, List.getElem_toArray, List.getElem_cons_succ, List.getElem_cons_zero, List.setIfInBounds_toArray, List.set_cons_zero, List.set_cons_succ])
          refine takeF (i := 1) (v := ?_) rfl (by kernel_rfl) (fun _ _ _ h => h) (Or.inl ⟨by kernel_rfl, ?_⟩) (by assumption) ?_; rotate_left; (focus (intro w _; go_simp; (try with_reducible rfl); done)); (try simp only [Act.put, List.getElem_toArray, List.getElem_cons_succ, List.getElem_cons_zero, List.setIfInBounds_toArray, List.set_cons_zero, List.set_cons_succ])
          refine takeF (i := 2) (v := ?_) rfl (by kernel_rfl) (fun _ _ _ h => h) (Or.inl ⟨by kernel_rfl, ?_⟩) (by assumption) ?_; rotate_left; (focus (intro w _; go_simp; (try with_reducible rfl); done)); (try simp only [Act.put, List.getElem_toArray, List.getElem_cons_succ, List.getElem_cons_zero, List.setIfInBounds_toArray, List.set_cons_zero, List.set_cons_succ])
          refine takeF (i := 3) (v := ?_) rfl (by kernel_rfl) (fun _ _ _ h => h) (Or.inl ⟨by kernel_rfl, ?_⟩) (by assumption) ?_; rotate_left; (focus (intro w _; go_simp; (try with_reducible rfl); done)); (try simp only [Act.put, List.getElem_toArray, List.getElem_cons_succ, List.getElem_cons_zero, List.setIfInBounds_toArray, List.set_cons_zero, List.set_cons_succ])
          refine takeF (i := 4) (v := ?_) rfl (by kernel_rfl) (fun _ _ _ h => h) (Or.inl ⟨by kernel_rfl, ?_⟩) (by assumption) ?_; rotate_left; (focus (intro w _; go_simp; (try with_reducible rfl); done)); (try simp only [Act.put, List.getElem_toArray, List.getElem_cons_succ, List.getElem_cons_zero, List.setIfInBounds_toArray, List.set_cons_zero, List.set_cons_succ])
          refine takeF (i := 5) (v := ?_) rfl (by kernel_rfl) (fun _ _ _ h => h) (Or.inl ⟨by kernel_rfl, ?_⟩) (by assumption) ?_; rotate_left; (focus (intro w _; go_simp; (try with_reducible rfl); done)); (try simp only [Act.put, List.getElem_toArray, List.getElem_cons_succ, List.getElem_cons_zero, List.setIfInBounds_toArray, List.set_cons_zero, List.set_cons_succ])
          refine takeF (i := 6) (v := ?_) rfl (by kernel_rfl) (fun _ _ _ h => h) (Or.inl ⟨by kernel_rfl, ?_⟩) (by assumption) ?_; rotate_left; (focus (intro w _; go_simp; (try with_reducible rfl); done)); (try simp only [Act.put, List.getElem_toArray, List.getElem_cons_succ, List.getElem_cons_zero, List.setIfInBounds_toArray, List.set_cons_zero, List.set_cons_succ])
          refine takeF (i := 7) (v := ?_) rfl (by kernel_rfl) (fun _ _ _ h => h) (Or.inl ⟨by kernel_rfl, ?_⟩) (by assumption) ?_; rotate_left; (focus (intro w _; go_simp; (try with_reducible rfl); done)); (try simp only [Act.put, List.getElem_toArray, List.getElem_cons_succ, List.getElem_cons_zero, List.setIfInBounds_toArray, List.set_cons_zero, List.set_cons_succ])
          refine takeH (i := 8) (v := ?_) rfl (by kernel_rfl) (fun _ _ _ h => h) (Or.inl ⟨by kernel_rfl, ?_⟩) (by assumption) ?_; rotate_left; (focus (intro w hSw; (try dsimp only at hSw); go_simp; (try with_reducible rfl); done)); (try simp only [Act.put, List.getElem_toArray, List.getElem_cons_succ, List.getElem_cons_zero, List.setIfInBounds_toArray, List.set_cons_zero, List.set_cons_succ])
          refine takeH (i := 9) (v := ?_) rfl (by kernel_rfl) (fun _ _ _ h => h) (Or.inl ⟨by kernel_rfl, ?_⟩) (by assumption) ?_; rotate_left; (focus (intro w hSw; (try dsimp only at hSw); go_simp; (try with_reducible rfl); done)); (try simp only [Act.put, List.getElem_toArray, List.getElem_cons_succ, List.getElem_cons_zero, List.setIfInBounds_toArray, List.set_cons_zero, List.set_cons_succ])
          refine takeF (i := 10) (v := ?_) rfl (by kernel_rfl) (fun _ _ _ h => h) (Or.inl ⟨by kernel_rfl, ?_⟩) (by assumption) ?_; rotate_left; (focus (intro w _; go_simp; (try with_reducible rfl); done)); (try simp only [Act.put, List.getElem_toArray, List.getElem_cons_succ, List.getElem_cons_zero, List.setIfInBounds_toArray, List.set_cons_zero, List.set_cons_succ])
          refine takeF (i := 11) (v := ?_) rfl (by kernel_rfl) (fun _ _ _ h => h) (Or.inl ⟨by kernel_rfl, ?_⟩) (by assumption) ?_; rotate_left; (focus (intro w _; go_simp; (try with_reducible rfl); done)); (try simp only [Act.put, List.getElem_toArray, List.getElem_cons_succ, List.getElem_cons_zero, List.setIfInBounds_toArray, List.set_cons_zero, List.set_cons_succ])
          refine takeF (i := 12) (v := ?_) rfl (by kernel_rfl) (fun _ _ _ h => h) (Or.inl ⟨by kernel_rfl, ?_⟩) (by assumption) ?_; rotate_left; (focus (intro w _; go_simp; (try with_reducible rfl); done)); (try simp only [Act.put, List.getElem_toArray, List.getElem_cons_succ, List.getElem_cons_zero, List.setIfInBounds_toArray, List.set_cons_zero, List.set_cons_succ])
          refine takeF (i := 13) (v := ?_) rfl (by kernel_rfl) (fun _ _ _ h => h) (Or.inl ⟨by kernel_rfl, ?_⟩) (by assumption) ?_; rotate_left; (focus (intro w _; go_simp; (try with_reducible rfl); done)); (try simp only [Act.put, List.getElem_toArray, List.getElem_cons_succ, List.getElem_cons_zero, List.setIfInBounds_toArray, List.set_cons_zero, List.set_cons_succ])
          refine takeF (i := 14) (v := ?_) rfl (by kernel_rfl) (fun _ _ _ h => h) (Or.inl ⟨by kernel_rfl, ?_⟩) (by assumption) ?_; rotate_left; (focus (intro w _; go_simp; (try with_reducible rfl); done)); (try simp only [Act.put, List.getElem_toArray, List.getElem_cons_succ, List.getElem_cons_zero, List.setIfInBounds_toArray, List.set_cons_zero, List.set_cons_succ])
          refine takeF (i := 15) (v := ?_) rfl (by kernel_rfl) (fun _ _ _ h => h) (Or.inl ⟨by kernel_rfl, ?_⟩) (by assumption) ?_; rotate_left; (focus (intro w _; go_simp; (try with_reducible rfl); done)); (try simp only [Act.put, List.getElem_toArray, List.getElem_cons_succ, List.getElem_cons_zero, List.setIfInBounds_toArray, List.set_cons_zero, List.set_cons_succ])
          refine takeF (i := 16) (v := ?_) rfl (by kernel_rfl) (fun _ _ _ h => h) (Or.inl ⟨by kernel_rfl, ?_⟩) (by assumption) ?_; rotate_left; (focus (intro w _; go_simp; (try with_reducible rfl); done)); (try simp only [Act.put, List.getElem_toArray, List.getElem_cons_succ, List.getElem_cons_zero, List.setIfInBounds_toArray, List.set_cons_zero, List.set_cons_succ])
          refine takeF (i := 17) (v := ?_) rfl (by kernel_rfl) (fun _ _ _ h => h) (Or.inl ⟨by kernel_rfl, ?_⟩) (by assumption) ?_; rotate_left; (focus (intro w _; go_simp; (try with_reducible rfl); done)); (try simp only [Act.put, List.getElem_toArray, List.getElem_cons_succ, List.getElem_cons_zero, List.setIfInBounds_toArray, List.set_cons_zero, List.set_cons_succ])
          clear hHeld0
          refine readyS (rs := [18]) (by kernel_rfl) (by simp) ?_
          refine ReadyS.consP rfl (by kernel_rfl) (fun K hK => ?_) ReadyS.nil
          (try simp only [List.getElem_toArray, List.getElem_cons_succ, List.getElem_cons_zero])
          go_simp
          (with_reducible refine (is_ok xp xl (.slice Ax xes.length cx) xes at1 (.slice (some ⟨gl, ol + i * 2, none⟩) (j - i) (cl - i)) ((L.drop i).take n) bl We HExe.out HLse.out (by rw [hls]; omega) hel).mono ?_); rintro e W7 ⟨rfl, hb7⟩
          have HT7 := Lib.hid (block_up HTe.out hb7)
          have HG7 := Lib.hid (block_up HGe.out hb7)
          have HB7 : Hid (Below bt w5 W7) := Lib.hid (HBe.out.trans (hb7.mono (by rw [← HBte.out]; exact HBe.out.size)))
          rw [hXd.out]
          clear hb7 HTe HGe HBe HExe HLse HCe
          refine hK.out _ _ ?_
          clear hK K
          (try simp only [Act.put, List.getElem_toArray, List.getElem_cons_succ, List.getElem_cons_zero, List.setIfInBounds_toArray, List.set_cons_zero, List.set_cons_succ])
          refine takeP (i := 19) (v := ?_) rfl (by kernel_rfl) (fun _ _ _ h => h) (Or.inl ⟨by kernel_rfl, ?_⟩) ?_; rotate_left; (focus (intro w _; go_simp; (try with_reducible rfl); done)); (try simp only [Act.put, List.getElem_toArray, List.getElem_cons_succ, List.getElem_cons_zero, List.setIfInBounds_toArray, List.set_cons_zero, List.set_cons_succ])
          refine takeP (i := 20) (v := ?_) rfl (by kernel_rfl) (fun _ _ _ h => h) (Or.inl ⟨by kernel_rfl, ?_⟩) ?_; rotate_left; (focus (intro w _; go_simp; (try with_reducible rfl); done)); (try simp only [Act.put, List.getElem_toArray, List.getElem_cons_succ, List.getElem_cons_zero, List.setIfInBounds_toArray, List.set_cons_zero, List.set_cons_succ])
          refine doneS (by kernel_rfl) ?_ _
          have g1 := (cells2p HG7.out).2
          obtain ⟨t0, t1, t2⟩ := cells3p HT7.out
          have fz := free_block HT7.out 1
          have km : IntKind.i64.wrap ((m : Int) + 1) = ((m + 1 : Nat) : Int) := by rw [IntWalk.i64_in _ (by omega)]; omega
          go_wp2
          exact ⟨⟨m + 1, j, K - 1, A1, f1, c1, ⟨at1.seg, g.siz - left, at1.next⟩, rfl, rfl, rfl, hn1, hmp, HI1.out, by omega, by show 0 ≤ g.siz - left; omega, by show g.siz - left ≤ g.siz; omega, HZ.out.1, HZ.out.2, blk_set HT7.out 1 _, HB7.out.setCell (p := ⟨bt, 1, none⟩) (Nat.le_refl _) _⟩, by simp [intOf]; omega⟩
    · obtain rfl : i = L.length := by omega
      have d : decide (L.length < L.length) = false := decide_eq_false (by omega)
      have di : decide ((L.length : Int) < L.length) = false := decide_eq_false (by omega)
      obtain ⟨ds, hds, hdm⟩ := round_end HAll.out.2
      rcases HM.out with ⟨_, h1, _⟩ | ⟨rfl, ps, fr, h1, rfl, rfl, _⟩
      · rw [hds] at h1; cases h1
      · rw [hds] at h1
        simp only [Option.some.injEq, Prod.mk.injEq] at h1
        obtain ⟨rfl, rfl, rfl⟩ := h1
        obtain rfl : m = ps.length := by rw [List.length_map] at hdm; omega
        obtain ⟨t0, t1, t2⟩ := cells3p HT.out
        obtain ⟨q0, q1, q2⟩ := cells3p (block_up HQ5.out HBw.out)
        go_wp2
        go_ret
        exact ⟨rfl, below_up HA5.out HBw.out⟩
end Go.Proofs.Ythpnlgdcijmocaa.Pl
