/- The walk over code.Put. -/
import Derived.Test.YtkjapmafipnmpaaC2
namespace Go.Proofs.Ytkjapmafipnmpaa.Cd
open Go.RowKit Lt
set_option linter.unusedVariables false
set_option linter.unusedSimpArgs false
theorem StepS.fine.below {s : StepS} {w w' : World} (h : s.fine w) (hb : Below w.heap.size w w') : s.fine w' := by
  obtain ⟨h1, h2, h3, h4, h5, h6⟩ := h
  exact ⟨h1, h2, h3, h4, h5.below hb, h6⟩
set_option maxHeartbeats 4000000 in
set_option maxRecDepth 100000 in
theorem cput_ok (v : Value) (l : List StepS) (w : World) (hv : SRd 8 StepS.cells w v l) (hf : ∀ s ∈ l, s.fine w) (hl : l.length ≤ 140737488355328) :
    Calls Try.prog 23 #[v] w fun e w' => ∃ x, e = .returned (.tuple #[x, .int .i64 (putE l)]) ∧ BRd w' x (if putE l = 0 then octs l else []) ∧ Below w.heap.size w w' := by
  obtain ⟨ER, hER⟩ : ∃ e, putE l = e := ⟨_, rfl⟩
  obtain ⟨BR, hBR⟩ : ∃ b, (if ER = 0 then octs l else []) = b := ⟨_, rfl⟩
  rw [hER, hBR]
  unfold putE at hER
  have HV := Lib.hid (And.intro hv (And.intro hf (And.intro hER hBR))); clear hf hER hBR
  obtain ⟨A, c, rfl, _, _⟩ := hv
  by_cases hn : 256 < l.length
  · have d : decide ((256 : Int) < l.length) = true := decide_eq_true (by omega)
    have he := HV.out.2.2.1
    rw [if_pos hn] at he
    subst he
    have hb := HV.out.2.2.2
    rw [if_neg (by decide)] at hb
    subst hb
    go_enter Try.func23, Try.ntmps23
    go_wp2
    go_ret2
    exact ⟨_, rfl, brd_nil _, Below.refl _ _⟩
  have d : decide ((256 : Int) < l.length) = false := decide_eq_false (by omega)
  go_enter Try.func23, Try.ntmps23
  go_wp2_with fail
  (with_reducible refine (new_w 65536 _).mono ?_); rintro e w1 ⟨rfl, hO, hb⟩
  have H1 := Lib.hid (And.intro hO hb); clear hO hb
  go_wp2_with fail
  go_loopw [16] (fun vi W => ∃ k : Nat, k ≤ l.length ∧ vi = .int .i64 k ∧ fe (l.take k) = 0 ∧ Below w1.heap.size w1 W) (fun vi _ => l.length - (intOf vi).toNat)
  case atStart => exact ⟨0, by omega, rfl, rfl, Below.refl _ _⟩
  obtain ⟨k, hk, rfl, hfe, hbel⟩ := hrel
  have HR := Lib.hid (And.intro hfe (And.intro hbel (below_up H1.out.2 hbel))); clear hfe hbel
  by_cases hlt : k < l.length
  · have dk : decide ((k : Int) < l.length) = true := decide_eq_true (by omega)
    obtain ⟨g, o, rfl, _, hcc⟩ := HV.out.1.get StepS.cells_len (by decide) hlt
    have c0 := cell_up (hcc 0 (by decide)) HR.out.2.2
    have c1 := cell_up (hcc 1 (by decide)) HR.out.2.2
    have c2 := cell_up (hcc 2 (by decide)) HR.out.2.2
    have c3 := cell_up (hcc 3 (by decide)) HR.out.2.2
    have c4 := cell_up (hcc 4 (by decide)) HR.out.2.2
    have c5 := cell_up (hcc 5 (by decide)) HR.out.2.2
    have c6 := cell_up (hcc 6 (by decide)) HR.out.2.2
    have c7 := cell_up (hcc 7 (by decide)) HR.out.2.2
    have hxf := HV.out.2.1 _ (List.getElem_mem hlt)
    have hs1 := fe_succ l k hlt
    have hs2 := fe_stop l k hlt HR.out.1
    rw [HR.out.1, if_neg (by decide)] at hs1
    clear hcc
    generalize l[k] = x at *
    simp only [Nat.add_zero, StepS.cells, List.getElem?_cons_zero, List.getElem?_cons_succ] at c0 c1 c2 c3 c4 c5 c6 c7
    obtain ⟨Ax, cx, hxv, _, _⟩ := id hxf.2.2.2.2.1
    rw [hxv] at c7
    have hz := alloc_at (w := wr) (.cells #[.int .i64 x.kind, .int .i64 x.a, .int .u32 (x.x : Nat), .int .u32 (x.y : Nat), .int .u32 (x.x1 : Nat), .int .u32 (x.y1 : Nat), .string x.d, .slice Ax x.f.length cx] 45) rfl
    have ha := below_alloc1 wr (.cells #[.int .i64 x.kind, .int .i64 x.a, .int .u32 (x.x : Nat), .int .u32 (x.y : Nat), .int .u32 (x.x1 : Nat), .int .u32 (x.y1 : Nat), .string x.d, .slice Ax x.f.length cx] 45)
    have hck := chk_ok x _ (hxf.below (below_up HR.out.2.2 ha))
    unfold cv at hck
    rw [hxv] at hck
    obtain ⟨E, hE⟩ : ∃ e, x.chk = e := ⟨_, rfl⟩
    rw [hE] at hck hs1 hs2
    have HX := Lib.hid (And.intro hck (And.intro ha (And.intro hs1 hs2))); clear hck ha hs1 hs2 hxf hxv hE hz
    by_cases hE0 : E = 0
    · subst hE0
      go_wp2_with (go_at_call 22; (with_reducible refine HX.out.1.mono ?_); rintro e w2 ⟨rfl, hb⟩; have H2 := Lib.hid (below_up HR.out.2.1 (below_up HX.out.2.1 hb)); clear hb)
      exact ⟨⟨k + 1, by omega, by simp, HX.out.2.2.1, H2.out⟩, by simp [intOf]; omega⟩
    · have e1 : (E != 0) = true := by simpa using hE0
      have hr := HV.out.2.2.1
      rw [if_neg hn, HX.out.2.2.2 hE0, if_pos hE0] at hr
      subst hr
      have hbr := HV.out.2.2.2
      rw [if_neg hE0] at hbr
      subst hbr
      clear hE0
      go_wp2_with (go_at_call 22; (with_reducible refine HX.out.1.mono ?_); rintro e w2 ⟨rfl, hb⟩; have H2 := Lib.hid (below_up HR.out.2.2 (below_up HX.out.2.1 hb)); clear hb)
      go_ret2
      exact ⟨_, rfl, brd_nil _, H2.out⟩
  · have hkl : k = l.length := by omega
    subst hkl
    have dk : decide ((l.length : Int) < l.length) = false := decide_eq_false (by omega)
    have hfe := HR.out.1
    rw [List.take_length] at hfe
    have hO := H1.out.1.up HR.out.2.1
    have hdone := putL_done l hfe (fun x hx => (HV.out.2.1 x hx).2.2.1)
    have hr := HV.out.2.2.1
    rw [if_neg hn, hfe, if_neg (by decide)] at hr
    have HF := Lib.hid (And.intro hdone hr)
    have H2 := Lib.hid hO; clear hO hdone hr hfe
    go_wp2_with fail
    go_loopw [28] (fun vi W => ∃ k : Nat, k ≤ l.length ∧ vi = .int .i64 k ∧ OW w W w.heap.size (putL (outNew 65536) (l.take k))) (fun vi _ => l.length - (intOf vi).toNat)
    case atStart => exact ⟨0, by omega, rfl, H2.out⟩
    obtain ⟨k, hk, rfl, hO⟩ := hrel
    have HR2 := Lib.hid hO; clear hO
    by_cases hlt : k < l.length
    · have dk : decide ((k : Int) < l.length) = true := decide_eq_true (by omega)
      obtain ⟨g, o, rfl, _, hcc⟩ := HV.out.1.get StepS.cells_len (by decide) hlt
      have c0 := cell_up (hcc 0 (by decide)) HR2.out.bel
      have c1 := cell_up (hcc 1 (by decide)) HR2.out.bel
      have c2 := cell_up (hcc 2 (by decide)) HR2.out.bel
      have c3 := cell_up (hcc 3 (by decide)) HR2.out.bel
      have c4 := cell_up (hcc 4 (by decide)) HR2.out.bel
      have c5 := cell_up (hcc 5 (by decide)) HR2.out.bel
      have c6 := cell_up (hcc 6 (by decide)) HR2.out.bel
      have c7 := cell_up (hcc 7 (by decide)) HR2.out.bel
      have hxf := HV.out.2.1 _ (List.getElem_mem hlt)
      have hs := putL_succ (outNew 65536) l k hlt
      clear hcc
      generalize l[k] = x at *
      simp only [Nat.add_zero, StepS.cells, List.getElem?_cons_zero, List.getElem?_cons_succ] at c0 c1 c2 c3 c4 c5 c6 c7
      obtain ⟨Ax, cx, hxv, _, _⟩ := id hxf.2.2.2.2.1
      rw [hxv] at c7
      have ha := below_alloc1 wr (.cells #[.int .i64 x.kind, .int .i64 x.a, .int .u32 (x.x : Nat), .int .u32 (x.y : Nat), .int .u32 (x.x1 : Nat), .int .u32 (x.y1 : Nat), .string x.d, .slice Ax x.f.length cx] 45)
      have hpt := put_ok (HR2.out.up ha) x hxf
      unfold cv at hpt
      rw [hxv, ← hs] at hpt
      have HX := Lib.hid hpt; clear hpt hs hxf hxv ha
      go_wp2_with (go_at_call 65; (with_reducible refine HX.out.mono ?_); rintro e w2 ⟨rfl, hO, hK⟩; have H3 := Lib.hid hO; clear hO hK)
      exact ⟨⟨k + 1, by omega, by simp, H3.out⟩, by simp [intOf]; omega⟩
    · have hkl : k = l.length := by omega
      subst hkl
      have hO := HR2.out
      rw [List.take_length] at hO
      have H4 := Lib.hid hO; clear hO
      by_cases hfull : 65536 < (octs l).length
      · have hr := HF.out.2
        rw [if_pos hfull] at hr
        subst hr
        have hbr := HV.out.2.2.2
        rw [if_neg (by decide)] at hbr
        subst hbr
        have hd := HF.out.1
        rw [if_pos hfull] at hd
        have HD := Lib.hid hd; clear hd hfull
        go_wp2_with (go_at_call 27; (with_reducible refine (H4.out.done HD.out.1).mono ?_); rintro e w4 ⟨x, b, rfl, hbb, hx, hb⟩; rw [HD.out.2] at hbb ⊢; rw [if_neg (by decide)] at hbb; subst hbb; have H5 := Lib.hid (And.intro hx (below_up H4.out.bel hb)); clear hx hb)
        go_ret2
        exact ⟨_, rfl, H5.out.1, H5.out.2⟩
      · have hr := HF.out.2
        rw [if_neg hfull] at hr
        subst hr
        have hbr := HV.out.2.2.2
        rw [if_pos rfl] at hbr
        have hd := HF.out.1
        rw [if_neg hfull] at hd
        have HD := Lib.hid (And.intro hd hbr); clear hd hfull hbr
        go_wp2_with (go_at_call 27; (with_reducible refine (H4.out.done HD.out.1.1).mono ?_); rintro e w4 ⟨x, b, rfl, hbb, hx, hb⟩; rw [HD.out.1.2] at hbb ⊢; have H5 := Lib.hid (And.intro hx (And.intro (below_up H4.out.bel hb) hbb)); clear hx hb hbb)
        go_ret2
        exact ⟨_, rfl, by have h1 := H5.out.1; have h2 : b = octs l := H5.out.2.2; rw [h2, HD.out.2] at h1; exact h1, H5.out.2.1⟩
end Go.Proofs.Ytkjapmafipnmpaa.Cd
