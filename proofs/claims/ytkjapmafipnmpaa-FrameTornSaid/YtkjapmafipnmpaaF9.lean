/- The walks over frame.Is and croftlaw09.alive. -/
import Derived.Test.YtkjapmafipnmpaaF6
import Derived.Test.YtkjapmafipnmpaaF8
import Derived.Lib.SlBytesConst
namespace Go.Proofs.Ytkjapmafipnmpaa.Fm
open Go.RowKit Lt
set_option linter.unusedVariables false
set_option linter.unusedSimpArgs false
theorem eqlS (x y : StS) (w : World) : (binOp .eql 84 (sv x) (sv y)).run Try.prog w = .ok (.bool (x.ep == y.ep && (x.sq == y.sq && x.pos == y.pos))) w := by
  refine eql_of (eqs_of Try.underlying84 (by kernel_rfl) ?_)
  refine eqf_cons (by rfl) (by go_simp; rfl) (by go_simp; rfl) (by go_simp) ?_
  refine eqf_cons (by rfl) (by go_simp; rfl) (by go_simp; rfl) (by go_simp) ?_
  exact eqf_last (by rfl) (by go_simp; rfl) (by go_simp; rfl) (by go_simp)
theorem eqS_dec (x y : StS) : (x.ep == y.ep && (x.sq == y.sq && x.pos == y.pos)) = decide (x = y) := by
  rw [Bool.eq_iff_iff]
  obtain ⟨a, b, c⟩ := x
  obtain ⟨d, e, f⟩ := y
  simp
theorem eqlS_d (x y : StS) (w : World) : (binOp .eql 84 (sv x) (sv y)).run Try.prog w = .ok (.bool (decide (x = y))) w := by rw [eqlS, eqS_dec]
/-- Is it of that kind and stamp? -/
def isB (b : List UInt8) (k : Int) (s : StS) : Bool := decide (okR b ∧ (kOf b : Int) = k ∧ sOf b = s)
set_option maxHeartbeats 4000000 in
set_option maxRecDepth 100000 in
theorem is_ok (v : Value) (b : List UInt8) (k : Int) (s : StS) (w : World) (hv : BRd w v b) (hl : b.length ≤ 140737488351232) :
    Calls Try.prog 51 #[v, .int .i64 k, sv s] w fun e w' => e = .returned (.bool (isB b k s)) ∧ Below w.heap.size w w' := by
  have hg := alloc_at (w := w) (.cells #[.int .i64 s.ep, .int .i64 s.sq, .int .i64 s.pos] 84) rfl
  have hb0 := below_alloc1 w (.cells #[.int .i64 s.ep, .int .i64 s.sq, .int .i64 s.pos] 84)
  have hop := open_any v b _ (hv.below hb0) hl
  have HG := Lib.hid (And.intro hg (And.intro hb0 hop)); clear hg hb0 hop hv
  obtain ⟨R, hR⟩ : ∃ r, isB b k s = r := ⟨_, rfl⟩
  rw [hR]
  have HR := Lib.hid hR; clear hR
  by_cases ho : okR b
  · obtain ⟨h1, h2, h3, h4⟩ := o_yes ho
    rw [h1, h2, h3, h4] at HG
    have HO := Lib.hid ho; clear ho h1 h2 h3 h4
    by_cases hk : (kOf b : Int) = k
    · have e1 : (((kOf b : Nat) : Int) == k) = true := by simpa using hk
      have hRs : decide (sOf b = s) = R := by rw [← HR.out]; unfold isB; rw [decide_eq_decide]; exact ⟨fun h => ⟨HO.out, hk, h⟩, fun h => h.2.2⟩
      have he := fun (W : World) => eqlS_d (sOf b) s W
      simp only [hRs] at he
      have HK := Lib.hid (And.intro hk hRs); clear hk hRs
      go_enter Try.func51, Try.ntmps51
      go_wp2_with fail
      (with_reducible refine HG.out.2.2.mono ?_); rintro e w1 ⟨x, rfl, hx, hb⟩
      have hz := alloc_at (w := w1) (.cells #[.int .i64 (sOf b).ep, .int .i64 (sOf b).sq, .int .i64 (sOf b).pos] 84) rfl
      have hba := below_up hb (below_alloc1 w1 (.cells #[.int .i64 (sOf b).ep, .int .i64 (sOf b).sq, .int .i64 (sOf b).pos] 84))
      obtain ⟨p0, p1, p2⟩ := cells3 (block_up HG.out.1 hba)
      obtain ⟨q0, q1, q2⟩ := cells3 hz
      have H1 := Lib.hid (below_up HG.out.2.1 hba); clear hz hba hb hx
      go_upto_region 2 with (fail)
      generalize (w1.alloc _) = w2 at *
      go_wp2
      go_ret
      exact ⟨rfl, H1.out⟩
    · have e1 : (((kOf b : Nat) : Int) == k) = false := by simpa using hk
      have hRs : R = false := by rw [← HR.out]; unfold isB; exact decide_eq_false fun h => hk h.2.1
      subst hRs
      clear hk
      go_enter Try.func51, Try.ntmps51
      go_wp2_with (go_at_call 47; (with_reducible refine HG.out.2.2.mono ?_); rintro e w1 ⟨x, rfl, hx, hb⟩; have H1 := Lib.hid (below_up HG.out.2.1 hb); clear hb hx)
      go_ret
      exact ⟨rfl, below_alloc H1.out _⟩
  · obtain ⟨h1, h2, h3, h4⟩ := o_no ho
    rw [h1, h2, h3, h4] at HG
    have hRs : R = false := by rw [← HR.out]; unfold isB; exact decide_eq_false fun h => ho h.1
    subst hRs
    clear ho h1 h2 h3 h4
    go_enter Try.func51, Try.ntmps51
    go_wp2_with (go_at_call 47; (with_reducible refine HG.out.2.2.mono ?_); rintro e w1 ⟨x, rfl, hx, hb⟩; have H1 := Lib.hid (below_up HG.out.2.1 hb); clear hb hx)
    go_ret
    exact ⟨rfl, below_alloc H1.out _⟩
theorem brd_lit {w : World} {g n : Nat} {f : Nat × Nat} {l : List UInt8} {cs : Array Value} (hg : w.heap[g]? = some (.cells cs 5 f)) (hc : cs.toList = bv l) (hn : l.length = n) (c : Nat) (hnc : n ≤ c) : BRd w (.slice (some ⟨g, 0, none⟩) n c) l := by
  subst hn
  have h := rd_block hg 0 cs.size (by omega)
  rw [List.drop_zero, show cs.toList.take cs.size = cs.toList from List.take_of_length_le (by simp), hc] at h
  exact ⟨_, c, rfl, hnc, h, fun ad e _ => by cases e; rfl⟩
theorem fine3 (a b c : Nat) (h1 : a ≤ 100) (h2 : b ≤ 100) (h3 : c ≤ 100) : StS.fine ⟨(a : Int), (b : Int), (c : Int)⟩ := by unfold StS.fine; simp only; omega
theorem make239 (W : World) : (Instr.makeSlice 40 (.int .i64 239) (.int .i64 239)).run Try.prog W = .ok (.slice (some ⟨W.heap.size, 0, none⟩) 239 239) (W.alloc (.cells (madeCells #[.int .u8 0] 239) 5)) := by kernel_rfl
set_option maxHeartbeats 4000000 in
set_option maxRecDepth 100000 in
theorem alive_ok (w : World) : Calls Try.prog 44 #[] w fun e w' => e = .returned (.bool true) ∧ Below w.heap.size w w' := by
  have hbad1 : ¬ bad 3 ⟨1, 0, 0⟩ := by decide
  have hbad2 : ¬ bad 0 ⟨0, 0, 0⟩ := by decide
  have hback := sec_back (t := [120]) hbad1 (by decide)
  have hsnd := sec_snd (k := 3) (s := ⟨1, 0, 0⟩) (t := [120]) (by decide)
  have hsl := secB_len 3 ⟨1, 0, 0⟩ [120] (by decide)
  have his : isB (secB 3 ⟨1, 0, 0⟩ [120]) 3 ⟨1, 0, 0⟩ = true := decide_eq_true ⟨hback.1, hback.2.1, hback.2.2.1⟩
  have he1 : secE 3 ⟨1, 0, 0⟩ 1 = 0 := by decide
  have he2 : secE 0 ⟨0, 0, 0⟩ 239 = 5 := by decide
  generalize hSB : secB 3 ⟨1, 0, 0⟩ [120] = SB at *
  have HSB := Lib.hid hSB; clear hSB hback hbad1 hbad2
  have HS := Lib.hid (And.intro hsnd (And.intro hsl (And.intro his (And.intro he1 he2)))); clear hsnd hsl his he1 he2
  have hmk := make239
  have kc := fun (W : World) (C : Array Value) (n c : Nat) => Lib.run_convert_bytes_const (P := Try.prog) W 40 5 C n c Try.underlying40 Try.underlying5
  go_enter Try.func44, Try.ntmps44
  go_wp2_with fail
  have hx0 : BRd (w.alloc (.cells #[.int .u8 120] 5 (1, 2))) (.slice (some ⟨w.heap.size, 0, none⟩) 1 1) [120] := brd_lit (cs := #[.int .u8 120]) (l := [120]) (alloc_at (w := w) (.cells #[.int .u8 120] 5 (1, 2)) rfl) rfl rfl 1 (by decide)
  have hb0 := below_alloc1 w (.cells #[.int .u8 120] 5 (1, 2))
  have H0 := Lib.hid (And.intro hx0 hb0); clear hx0 hb0
  generalize (w.alloc _) = w0 at *
  refine (seal_ok 3 ⟨1, 0, 0⟩ _ [120] _ H0.out.1 (by decide) (by decide) (fine3 1 0 0 (by decide) (by decide) (by decide))).mono ?_; rintro e w1 ⟨x, rfl, hx, hb⟩
  rw [show secE 3 ⟨1, 0, 0⟩ ([120] : List UInt8).length = 0 from HS.out.2.2.2.1, if_pos rfl, HSB.out] at hx
  rw [show secE 3 ⟨1, 0, 0⟩ ([120] : List UInt8).length = 0 from HS.out.2.2.2.1]
  have H1 := Lib.hid (And.intro hx (below_up H0.out.2 hb)); clear hx hb
  have hx0 : BRd (w1.alloc (.cells (madeCells #[.int .u8 0] 239) 5)) (.slice (some ⟨w1.heap.size, 0, none⟩) 239 239) (List.replicate 239 0) := brd_lit (alloc_at (w := w1) _ rfl) (made_u8 239) (by simp) 239 (by decide)
  have hb1 := below_up H1.out.2 (below_alloc1 w1 (.cells (madeCells #[.int .u8 0] 239) 5))
  have hbx := H1.out.1.below (below_alloc1 w1 (.cells (madeCells #[.int .u8 0] 239) 5))
  have H2 := Lib.hid (And.intro hx0 (And.intro hb1 hbx)); clear hx0 hb1 hbx
  go_wp2_with fail
  generalize (w1.alloc _) = w2 at *
  refine (seal_ok 0 ⟨0, 0, 0⟩ _ (List.replicate 239 0) _ H2.out.1 (by simp) (by decide) (fine3 0 0 0 (by decide) (by decide) (by decide))).mono ?_; rintro e w3 ⟨y, rfl, hy, hb⟩
  rw [show secE 0 ⟨0, 0, 0⟩ (List.replicate 239 (0 : UInt8)).length = 5 from by rw [List.length_replicate]; exact HS.out.2.2.2.2]
  have H3 := Lib.hid (And.intro (H2.out.2.2.below hb) (below_up H2.out.2.1 hb)); clear hb hy
  go_wp2_with fail
  have hso := sound_ok _ _ _ H3.out.1 (by have := HS.out.2.1; omega)
  rw [HS.out.1] at hso
  (with_reducible refine hso.mono ?_); rintro e w4 ⟨rfl, hb⟩
  have hiss := is_ok _ _ 3 ⟨1, 0, 0⟩ w4 (H3.out.1.below hb) (by have := HS.out.2.1; omega)
  rw [HS.out.2.2.1] at hiss
  have H4 := Lib.hid (And.intro hiss (below_up H3.out.2 hb)); clear hb hiss hso
  go_wp2_with fail
  refine H4.out.1.mono ?_; rintro e w5 ⟨rfl, hb⟩
  have H5 := Lib.hid (below_up H4.out.2 hb); clear hb
  go_wp2
  go_ret
  exact ⟨rfl, H5.out⟩
end Go.Proofs.Ytkjapmafipnmpaa.Fm
