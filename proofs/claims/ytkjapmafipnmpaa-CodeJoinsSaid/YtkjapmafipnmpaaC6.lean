/- The walk over croftlaw30.CodeJoins. -/
import Derived.Test.YtkjapmafipnmpaaC5
namespace Go.Proofs.Ytkjapmafipnmpaa.Cd
open Go.RowKit Lt
set_option linter.unusedVariables false
set_option linter.unusedSimpArgs false
theorem info_step : (Try.prog.info? 45).map (fun i => (i.zero, i.size, i.bytes)) = some (some (.agg #[.int .i64 0, .int .i64 0, .int .u32 0, .int .u32 0, .int .u32 0, .int .u32 0, .string ⟨#[]⟩, .slice none 0 0]), 8, 72) := by kernel_rfl
theorem step_one {w : World} {l : List StepS} (hf : ∀ s ∈ l, s.fine w) : ∀ u ∈ l.flatMap StepS.cells, u.oneCell' = true := by
  intro u hu
  obtain ⟨s, hs, h⟩ := List.mem_flatMap.1 hu
  obtain ⟨A, c, hv, _, _⟩ := (hf s hs).2.2.2.2.1
  unfold StepS.cells at h
  rw [hv] at h
  simp only [List.mem_cons, List.not_mem_nil, or_false] at h
  rcases h with rfl | rfl | rfl | rfl | rfl | rfl | rfl | rfl <;> rfl
theorem bstr_append (a b : List UInt8) : bstr (a ++ b) = bstr a ++ bstr b := by
  unfold bstr
  apply ByteArray.ext
  rw [ByteArray.data_append]
  simp
theorem srd_rd {w : World} {A : Option Addr} {c : Nat} {l : List StepS} (h : SRd 8 StepS.cells w (.slice A l.length c) l) : Rd w A (l.flatMap StepS.cells) := by
  obtain ⟨A', c', e, _, h2⟩ := h
  injection e with e1 e2 e3
  subst e1
  exact h2
set_option maxHeartbeats 8000000 in
set_option maxRecDepth 100000 in
theorem joins_walk (va : Value) (la : List StepS) (vb : Value) (lb : List StepS) (w : World) (hva : SRd 8 StepS.cells w va la) (hvb : SRd 8 StepS.cells w vb lb) (hfa : ∀ s ∈ la, s.fine w) (hfb : ∀ s ∈ lb, s.fine w) :
    Calls Try.prog 5 #[va, vb] w fun e w' => e = .returned (.bool true) ∧ Below w.heap.size w w' := by
  have HV := Lib.hid (And.intro hva (And.intro hvb (And.intro hfa hfb))); clear hfa hfb
  obtain ⟨Aa, ca, rfl, _, _⟩ := hva
  obtain ⟨Ab, cb, rfl, _, _⟩ := hvb
  go_enter Try.func5, Try.ntmps5
  go_wp2_with fail
  refine (alive_ok _).mono ?_; rintro e w1 ⟨rfl, hb⟩
  have H1 := Lib.hid hb; clear hb
  by_cases ha : 30 < la.length
  · have d1 : decide ((30 : Int) < la.length) = true := decide_eq_true (by omega)
    go_wp2
    go_ret
    exact ⟨rfl, H1.out⟩
  have d1 : decide ((30 : Int) < la.length) = false := decide_eq_false (by omega)
  by_cases hb : 30 < lb.length
  · have d2 : decide ((30 : Int) < lb.length) = true := decide_eq_true (by omega)
    go_wp2
    go_ret
    exact ⟨rfl, H1.out⟩
  have d2 : decide ((30 : Int) < lb.length) = false := decide_eq_false (by omega)
  have HN := Lib.hid (And.intro (show la.length ≤ 30 by omega) (show lb.length ≤ 30 by omega)); clear ha hb
  have hpa := fun (W : World) (hb : Below w.heap.size w W) => cput_ok _ la W (HV.out.1.below hb) (fun s hs => (HV.out.2.2.1 s hs).below hb) (by have := HN.out.1; omega)
  have hpb := fun (W : World) (hb : Below w.heap.size w W) => cput_ok _ lb W (HV.out.2.1.below hb) (fun s hs => (HV.out.2.2.2 s hs).below hb) (by have := HN.out.2; omega)
  have hpz := fun (W : World) (v : Value) (hb : Below w.heap.size w W) (hv : SRd 8 StepS.cells W v (la ++ lb)) => cput_ok v (la ++ lb) W hv (fun s hs => by
    rcases List.mem_append.1 hs with h | h
    · exact (HV.out.2.2.1 s h).below hb
    · exact (HV.out.2.2.2 s h).below hb) (by rw [List.length_append]; have := HN.out; omega)
  have hj1 := joins_bad HN.out.1 HN.out.2
  have hj2 := joins_ok HN.out.1 HN.out.2
  have hz1 := putE_zero (l := la) (by have := HN.out.1; omega)
  have hz2 := putE_zero (l := lb) (by have := HN.out.2; omega)
  have hoct := octs_append la lb
  obtain ⟨EA, hEA⟩ : ∃ e, putE la = e := ⟨_, rfl⟩
  obtain ⟨EB, hEB⟩ : ∃ e, putE lb = e := ⟨_, rfl⟩
  obtain ⟨EZ, hEZ⟩ : ∃ e, putE (la ++ lb) = e := ⟨_, rfl⟩
  obtain ⟨OA, hOA⟩ : ∃ e, octs la = e := ⟨_, rfl⟩
  obtain ⟨OB, hOB⟩ : ∃ e, octs lb = e := ⟨_, rfl⟩
  simp only [hEA, hOA] at hpa hz1
  simp only [hEB, hOB] at hpb hz2
  rw [hOA, hOB] at hoct
  simp only [hEZ, hoct] at hpz
  simp only [hEA, hEB, hEZ] at hj1
  simp only [hEA, hEB, hEZ, hOA, hOB] at hj2
  obtain ⟨BA, hBA⟩ : ∃ b, (if EA = 0 then OA else []) = b := ⟨_, rfl⟩
  obtain ⟨BB, hBB⟩ : ∃ b, (if EB = 0 then OB else []) = b := ⟨_, rfl⟩
  obtain ⟨BZ, hBZ⟩ : ∃ b, (if EZ = 0 then OA ++ OB else []) = b := ⟨_, rfl⟩
  simp only [hBA] at hpa
  simp only [hBB] at hpb
  simp only [hBZ] at hpz
  have HB := Lib.hid (And.intro hBA (And.intro hBB hBZ)); clear hBA hBB hBZ
  have HC := Lib.hid (And.intro hpa (And.intro hpb hpz))
  have HJ := Lib.hid (And.intro hj1 (And.intro hj2 (And.intro hz1 hz2)))
  clear hpa hpb hpz hj1 hj2 hz1 hz2 hoct hEA hEB hEZ hOA hOB
  go_wp2_with fail
  (with_reducible refine (HC.out.1 _ H1.out).mono ?_); rintro e w2 ⟨x, rfl, hx, hb⟩
  obtain ⟨Ax, cx, rfl, _, _, _⟩ := id hx
  have H2 := Lib.hid (And.intro hx (below_up H1.out hb)); clear hx hb
  go_wp2_with fail
  (with_reducible refine (HC.out.2.1 _ H2.out.2).mono ?_); rintro e w3 ⟨y, rfl, hy, hb⟩
  obtain ⟨Ay, cy, rfl, _, _, _⟩ := id hy
  have H3 := Lib.hid (And.intro (H2.out.1.below hb) (And.intro hy (below_up H2.out.2 hb))); clear hy hb
  go_wp2_with (first
    | (at_builtin; refine wpList_app rfl _ _ 39 rfl w3.heap.size 45 _ 8 72 Try.underlying39 info_step rfl (by decide) (by decide) (.slice (some ⟨w3.heap.size, 0, none⟩) 0 0) 0 [] rfl Aa la.length ca (la.flatMap StepS.cells) rfl (own_zero w3 45 8) (flat_len StepS.cells_len la) ((srd_rd HV.out.1).below (below_up H3.out.2.2 (below_alloc1 _ _))) (step_one HV.out.2.2.1) (by have := HN.out.1; omega) (below_alloc1 _ _).size ?_
       intro A1 c1 w4 hown hgrow hat
       simp only [Nat.zero_add, List.nil_append] at hown
       have hb3 := below_grown (below_alloc1 w3 (.cells #[] 45)) hgrow (fun k e => by cases e; exact Nat.le_refl _)
       have H4 := Lib.hid (And.intro hown (And.intro hb3 (below_up H3.out.2.2 hb3))); clear hown hb3 hgrow hat
       skip)
    | (at_builtin; refine wpList_app rfl _ _ 39 rfl w3.heap.size 45 _ 8 72 Try.underlying39 info_step rfl (by decide) (by decide) (.slice A1 la.length c1) la.length (la.flatMap StepS.cells) (by first | rfl | simp) Ab lb.length cb (lb.flatMap StepS.cells) rfl H4.out.1 (flat_len StepS.cells_len lb) ((srd_rd HV.out.2.1).below H4.out.2.2) (step_one HV.out.2.2.2) (by have := HN.out; omega) H4.out.2.1.size ?_
       intro A2 c2 w5 hown hgrow hat
       rw [← List.flatMap_append] at hown
       have hb5 := below_grown H4.out.2.1 hgrow (fun k e => own_base H4.out.1 k e)
       have hsr := srd_own StepS.cells_len (by decide) hown
       have H5 := Lib.hid (And.intro hsr (And.intro (H3.out.1.below hb5) (And.intro (H3.out.2.1.below hb5) (below_up H3.out.2.2 hb5)))); clear hown hb5 hsr hgrow hat
       skip))
  (with_reducible refine (HC.out.2.2 _ _ H5.out.2.2.2 H5.out.1).mono ?_); rintro e w6 ⟨z, rfl, hz, hb⟩
  have H6 := Lib.hid (And.intro hz (And.intro (H5.out.2.1.below hb) (And.intro (H5.out.2.2.1.below hb) (below_up H5.out.2.2.2 hb)))); clear hz hb
  by_cases h0 : EA = 0 ∧ EB = 0
  · obtain ⟨rfl, rfl⟩ := h0
    obtain rfl : OA = BA := by have := HB.out.1; rwa [if_pos rfl] at this
    obtain rfl : OB = BB := by have := HB.out.2.1; rwa [if_pos rfl] at this
    have hxx := H6.out.2.1
    have hyy := H6.out.2.2.1
    have hzz := H6.out.1
    have hz1 := (HJ.out.2.2.1 rfl).2
    have hz2 := (HJ.out.2.2.2 rfl).2
    have he := HJ.out.2.1 rfl rfl
    by_cases hf : 65536 < OA.length + OB.length
    · rw [if_pos hf] at he
      subst he
      obtain rfl : [] = BZ := by have := HB.out.2.2; rwa [if_neg (by decide)] at this
      obtain ⟨Az, cz, rfl, _, _, _⟩ := hzz
      have df : decide ((65536 : Int) < (OA.length : Int) + OB.length) = true := decide_eq_true (by omega)
      clear hxx hyy hf
      go_wp2
      go_ret
      exact ⟨ret_bool (by first | rfl | simp), H6.out.2.2.2⟩
    · rw [if_neg hf] at he
      subst he
      obtain rfl : OA ++ OB = BZ := by have := HB.out.2.2; rwa [if_pos rfl] at this
      obtain ⟨Az, cz, rfl, _, _, _⟩ := id hzz
      have df : decide ((65536 : Int) < (OA.length : Int) + OB.length) = false := decide_eq_false (by omega)
      have c1 := conv_rd (P := Try.prog) hxx 40 5 9 Try.underlying40 Try.underlying5 Try.underlying9
      have c2 := conv_rd (P := Try.prog) hyy 40 5 9 Try.underlying40 Try.underlying5 Try.underlying9
      have c3 := conv_rd (P := Try.prog) hzz 40 5 9 Try.underlying40 Try.underlying5 Try.underlying9
      rw [List.length_append, bstr_append] at c3
      have hs1 : ¬ 9223372036854775807 < (bstr OA).size + (bstr OB).size := by rw [bstr_size, bstr_size]; omega
      generalize bstr OA = sA at *
      generalize bstr OB = sB at *
      have HF := Lib.hid hf
      clear hxx hyy hzz hf
      go_wp2
      go_ret
      exact ⟨ret_bool (by first | rfl | simp), H6.out.2.2.2⟩
  · have hne : EZ ≠ 0 := HJ.out.1 (by by_cases h : EA = 0; exact .inr (fun h2 => h0 ⟨h, h2⟩); exact .inl h)
    have hzz := H6.out.1
    obtain rfl : [] = BZ := by have := HB.out.2.2; rwa [if_neg hne] at this
    obtain ⟨Az, cz, rfl, _, _, _⟩ := hzz
    have k1 : (EZ != 0) = true := by rw [bne_iff_ne]; exact hne
    by_cases h : EA = 0
    · subst h
      have k2 : (EB != 0) = true := by rw [bne_iff_ne]; exact fun h2 => h0 ⟨rfl, h2⟩
      clear h0 hne
      go_wp2
      go_ret
      exact ⟨ret_bool (by first | rfl | simp), H6.out.2.2.2⟩
    · have k2 : (EA != 0) = true := by rw [bne_iff_ne]; exact h
      clear h0 hne h
      go_wp2
      go_ret
      exact ⟨ret_bool (by first | rfl | simp), H6.out.2.2.2⟩
end Go.Proofs.Ytkjapmafipnmpaa.Cd
