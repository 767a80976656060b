/- The walk over code.put. -/
import Derived.Test.YtkjapmafipnmpaaC1
import Derived.Test.YtkjapmafipnmpaaArr
namespace Go.Proofs.Ytkjapmafipnmpaa.Cd
open Go.RowKit Lt
set_option linter.unusedVariables false
set_option linter.unusedSimpArgs false
theorem putF_succ (s : OutS) (l : List Int) (k : Nat) (h : k < l.length) : putF s (l.take (k + 1)) = (putF s (l.take k)).num l[k] 2 := by
  unfold putF; rw [List.take_succ_eq_append_getElem h, List.foldl_append]; rfl
/-- The five numbers, one by one. -/
def nums (x : StepS) : List Int := [x.a, (x.x : Nat), (x.y : Nat), (x.x1 : Nat), (x.y1 : Nat)]
def putN (s : OutS) (l : List Int) : OutS := l.foldl (fun s n => s.num n 4) s
theorem putN_succ (s : OutS) (l : List Int) (k : Nat) (h : k < l.length) : putN s (l.take (k + 1)) = (putN s (l.take k)).num l[k] 4 := by
  unfold putN; rw [List.take_succ_eq_append_getElem h, List.foldl_append]; rfl
set_option maxHeartbeats 4000000 in
set_option maxRecDepth 100000 in
theorem put_ok {w0 W : World} {q : Nat} {s : OutS} (h : OW w0 W q s) (x : StepS) (hf : x.fine w0) :
    Calls Try.prog 65 #[.pointer (some ⟨q, 0, none⟩), cv x] W fun e w' => e = .returned (.tuple #[]) ∧ OW w0 w' q (putC s x) ∧ KeepO W w' := by
  obtain ⟨⟨f1, f2⟩, ⟨f3, f4⟩, ⟨f5, f6, f7, f8⟩, f9, hv, hfn, hfl⟩ := hf
  obtain ⟨kind, a, x, y, x1, y1, d, fv, f⟩ := x
  simp only at f1 f2 f3 f4 f5 f6 f7 f8 f9 hv hfn hfl
  have HV := Lib.hid (And.intro hv hfn); clear hfn
  obtain ⟨A, cap, rfl, _, _⟩ := hv
  have hO := h.up (below_alloc1 W (.cells #[.int .i64 kind, .int .i64 a, .int .u32 (x : Nat), .int .u32 (y : Nat), .int .u32 (x1 : Nat), .int .u32 (y1 : Nat), .string d, .slice A f.length cap] 45))
  have hg := alloc_at (w := W) (.cells #[.int .i64 kind, .int .i64 a, .int .u32 (x : Nat), .int .u32 (y : Nat), .int .u32 (x1 : Nat), .int .u32 (y1 : Nat), .string d, .slice A f.length cap] 45) rfl
  have hKK := KeepO.of_below (below_alloc1 W (.cells #[.int .i64 kind, .int .i64 a, .int .u32 (x : Nat), .int .u32 (y : Nat), .int .u32 (x1 : Nat), .int .u32 (y1 : Nat), .string d, .slice A f.length cap] 45))
  have H0 := Lib.hid (And.intro hO (And.intro hg hKK)); clear h hO hg hKK
  obtain ⟨q0, q1, q2, q3, q4, q5, q6, q7⟩ := cells8 H0.out.2.1
  go_enter Try.func65, Try.ntmps65
  go_wp2_with fail
  generalize (W.alloc _) = W0 at *
  (with_reducible refine (H0.out.1.num kind 1 (by omega) (by omega) (by decide) (by decide)).mono ?_); rintro e w1 ⟨rfl, hO, hK⟩
  have H1 := Lib.hid (And.intro hO (And.intro (hK.2 _ _ _ _ H0.out.2.1 (by decide) (by decide)) (H0.out.2.2.trans hK))); clear hO hK q0 q1 q2 q3 q4 q5 q6 q7
  obtain ⟨q0, q1, q2, q3, q4, q5, q6, q7⟩ := cells8 H1.out.2.1
  have kx : IntKind.i64.wrap (x : Int) = x := by rw [IntKind.wrap_i64]; omega
  have ky : IntKind.i64.wrap (y : Int) = y := by rw [IntKind.wrap_i64]; omega
  have kx1 : IntKind.i64.wrap (x1 : Int) = x1 := by rw [IntKind.wrap_i64]; omega
  have ky1 : IntKind.i64.wrap (y1 : Int) = y1 := by rw [IntKind.wrap_i64]; omega
  go_wp2_with fail
  have hp0 : OW w0 w1 q (putN (s.num kind 1) ((nums ⟨kind, a, x, y, x1, y1, d, .slice A f.length cap, f⟩).take 0)) := H1.out.1
  obtain ⟨NS, hNS⟩ : ∃ l, nums ⟨kind, a, x, y, x1, y1, d, .slice A f.length cap, f⟩ = l := ⟨_, rfl⟩
  rw [hNS] at hp0
  have hbd : ∀ n ∈ NS, -9223372036854775808 ≤ n ∧ n ≤ 9223372036854775807 := by
    rw [← hNS]; unfold nums; intro n hn; simp at hn; omega
  have hidx : ∀ (k : Nat) (hk : k < NS.length) (W : World), (Instr.index 139 (.agg #[.int .i64 a, .int .i64 (x : Nat), .int .i64 (y : Nat), .int .i64 (x1 : Nat), .int .i64 (y1 : Nat)]) (.int .i64 k)).run Try.prog W = .ok (.int .i64 NS[k]) W := by
    subst hNS
    intro k hk W
    exact run_index_row Try.underlying139 (by kernel_rfl) (by kernel_rfl) (by kernel_rfl) ((nums ⟨kind, a, x, y, x1, y1, d, .slice A f.length cap, f⟩).map (Value.int .i64)) .i64 k _ hk (by rw [List.getElem?_map, List.getElem?_eq_getElem hk]; rfl) W
  have hlen : NS.length = 5 := by rw [← hNS]; rfl
  have hput : putC s ⟨kind, a, x, y, x1, y1, d, .slice A f.length cap, f⟩ = putF ((((putN (s.num kind 1) NS).num (d.size : Nat) 1).put d.data.toList).num (f.length : Nat) 1) f := by rw [← hNS]; rfl
  have HPUT := Lib.hid hput
  have HN := Lib.hid (And.intro hp0 (And.intro hbd (And.intro hidx hlen))); clear hp0 hbd hidx hlen hNS hput
  go_loopw [27] (fun vi V => ∃ k : Nat, k ≤ 5 ∧ vi = .int .i64 k ∧ OW w0 V q (putN (s.num kind 1) (NS.take k)) ∧ V.heap[W.heap.size]? = some (.cells #[.int .i64 kind, .int .i64 a, .int .u32 (x : Nat), .int .u32 (y : Nat), .int .u32 (x1 : Nat), .int .u32 (y1 : Nat), .string d, .slice A f.length cap] 45 (0, 0)) ∧ KeepO W V) (fun vi _ => 5 - (intOf vi).toNat)
  case atStart => exact ⟨0, by omega, rfl, HN.out.1, H1.out.2.1, H1.out.2.2⟩
  clear q0 q1 q2 q3 q4 q5 q6 q7
  obtain ⟨k, hk, rfl, hO, hg, hKK⟩ := hrel
  have HR := Lib.hid (And.intro hO (And.intro hg hKK)); clear hO hg hKK
  by_cases hlt : k < 5
  · have dk : decide ((k : Int) < 5) = true := decide_eq_true (by omega)
    have hkl : k < NS.length := by rw [HN.out.2.2.2]; exact hlt
    have hix := HN.out.2.2.1 k hkl
    have hs := putN_succ (s.num kind 1) NS k hkl
    have hbk := HN.out.2.1 _ (List.getElem_mem hkl)
    generalize NS[k] = n at *
    obtain ⟨n1, n2⟩ := hbk
    have HS := Lib.hid hs; clear hs
    go_wp2_with (go_at_call 66; (with_reducible refine (HR.out.1.num n 4 n1 n2 (by decide) (by decide)).mono ?_); rintro e w3 ⟨rfl, hO, hK⟩; have H3 := Lib.hid (And.intro hO (And.intro (hK.2 _ _ _ _ HR.out.2.1 (by decide) (by decide)) (HR.out.2.2.trans hK))); clear hO hK)
    exact ⟨⟨k + 1, by omega, by simp, by rw [HS.out]; exact H3.out.1, H3.out.2.1, H3.out.2.2⟩, by simp [intOf]; omega⟩
  · have hk5 : k = 5 := by omega
    subst hk5
    have dk : decide ((5 : Int) < 5) = false := by decide
    have hO := HR.out.1
    rw [List.take_of_length_le (by rw [HN.out.2.2.2]; exact Nat.le_refl _)] at hO
    have H2 := Lib.hid (And.intro hO HR.out.2); clear hO
    obtain ⟨q0, q1, q2, q3, q4, q5, q6, q7⟩ := cells8 H2.out.2.1
    go_wp2_with fail
    (with_reducible refine (H2.out.1.num (d.size : Nat) 1 (by omega) (by omega) (by decide) (by decide)).mono ?_); rintro e w3 ⟨rfl, hO, hK⟩
    have H3 := Lib.hid (And.intro hO (And.intro (hK.2 _ _ _ _ H2.out.2.1 (by decide) (by decide)) (H2.out.2.2.trans hK))); clear hO hK q0 q1 q2 q3 q4 q5 q6 q7
    obtain ⟨q0, q1, q2, q3, q4, q5, q6, q7⟩ := cells8 H3.out.2.1
    go_wp2_with fail
    (with_reducible refine (H3.out.1.text d (by omega)).mono ?_); rintro e w4 ⟨rfl, hO, hK⟩
    have H4 := Lib.hid (And.intro hO (And.intro (hK.2 _ _ _ _ H3.out.2.1 (by decide) (by decide)) (H3.out.2.2.trans hK))); clear hO hK q0 q1 q2 q3 q4 q5 q6 q7
    obtain ⟨q0, q1, q2, q3, q4, q5, q6, q7⟩ := cells8 H4.out.2.1
    go_wp2_with fail
    (with_reducible refine (H4.out.1.num (f.length : Nat) 1 (by omega) (by omega) (by decide) (by decide)).mono ?_); rintro e w5 ⟨rfl, hO, hK⟩
    have H5 := Lib.hid (And.intro hO (And.intro (hK.2 _ _ _ _ H4.out.2.1 (by decide) (by decide)) (H4.out.2.2.trans hK))); clear hO hK q0 q1 q2 q3 q4 q5 q6 q7
    obtain ⟨q0, q1, q2, q3, q4, q5, q6, q7⟩ := cells8 H5.out.2.1
    obtain ⟨S5, hS5⟩ : ∃ S5, ((((putN (s.num kind 1) NS).num (d.size : Nat) 1).put d.data.toList).num (f.length : Nat) 1) = S5 := ⟨_, rfl⟩
    rw [hS5] at H5
    have HS5 := Lib.hid hS5; clear hS5
    go_wp2_with fail
    go_loopw [51] (fun vi V => ∃ k : Nat, k ≤ f.length ∧ vi = .int .i64 k ∧ OW w0 V q (putF S5 (f.take k)) ∧ KeepO W V) (fun vi _ => f.length - (intOf vi).toNat)
    case atStart => exact ⟨0, by omega, rfl, H5.out.1, H5.out.2.2⟩
    clear q0 q1 q2 q3 q4 q5 q6 q7
    obtain ⟨k, hk, rfl, hO, hKK⟩ := hrel
    have HR2 := Lib.hid (And.intro hO hKK); clear hO hKK
    by_cases hlt : k < f.length
    · have dk : decide ((k : Int) < f.length) = true := decide_eq_true (by omega)
      obtain ⟨ad, rfl, hc⟩ := HV.out.1.get hlt
      have hc := cell_up hc HR2.out.1.bel
      have hs := putF_succ S5 f k hlt
      have hbk := HV.out.2 _ (List.getElem_mem hlt)
      generalize f[k] = n at *
      obtain ⟨n1, n2⟩ := hbk
      have HS := Lib.hid hs; clear hs
      go_wp2_with (go_at_call 66; (with_reducible refine (HR2.out.1.num n 2 n1 n2 (by decide) (by decide)).mono ?_); rintro e w6 ⟨rfl, hO, hK⟩; have H6 := Lib.hid (And.intro hO (HR2.out.2.trans hK)); clear hO hK)
      exact ⟨⟨k + 1, by omega, by simp, by rw [HS.out]; exact H6.out.1, H6.out.2⟩, by simp [intOf]; omega⟩
    · have hkl : k = f.length := by omega
      subst hkl
      have dk : decide ((f.length : Int) < f.length) = false := decide_eq_false (by omega)
      have hO := HR2.out.1
      rw [List.take_length] at hO
      have H6 := Lib.hid hO; clear hO
      go_wp2
      go_end0
      exact ⟨rfl, by rw [HPUT.out, HS5.out]; exact H6.out, HR2.out.2⟩
end Go.Proofs.Ytkjapmafipnmpaa.Cd
