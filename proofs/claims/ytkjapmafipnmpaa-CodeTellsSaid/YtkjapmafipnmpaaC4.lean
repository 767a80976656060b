/- The walk over croftlaw30.octets. (Printed by gen/octets_region.py.) -/
import Derived.Test.YtkjapmafipnmpaaC3
import Derived.Test.YtkjapmafipnmpaaRef01
import Derived.Deep.DeepCutAuto
import Derived.Deep.CutBlock
import Derived.Deep.RegionHeld3
import Derived.Lib.ConvBytes
namespace Go.Proofs.Ytkjapmafipnmpaa.Cd
open Go.RowKit Lt
set_option linter.unusedVariables false
set_option linter.unusedSimpArgs false
theorem rnum2 (N : Nat) (w : World) (hN : N ≤ 9223372036854775807) : Calls Try.prog 62 #[.int .i64 N, .int .i64 2] w fun e w' => ∃ v, e = .returned v ∧ Below w.heap.size w w' ∧ BRd w' v (numB 2 N) :=
  (refnum_pos N 2 w hN (by decide)).mono fun e w' ⟨x, h1, h2, h3⟩ => ⟨x, h1, h2, brd_own h3⟩
theorem rnum4 (N : Nat) (w : World) (hN : N ≤ 9223372036854775807) : Calls Try.prog 62 #[.int .i64 N, .int .i64 4] w fun e w' => ∃ v, e = .returned v ∧ Below w.heap.size w w' ∧ BRd w' v (numB 4 N) :=
  (refnum_pos N 4 w hN (by decide)).mono fun e w' ⟨x, h1, h2, h3⟩ => ⟨x, h1, h2, brd_own h3⟩
theorem rcat (u v : Value) (a b : List UInt8) (w : World) (hu : BRd w u a) (hv : BRd w v b) (hl : a.length + b.length ≤ 140737488351232) :
    Calls Try.prog 61 #[u, v] w fun e w' => ∃ x, e = .returned x ∧ Below w.heap.size w w' ∧ w'.ownsRow w.heap.size 5 1 x (a ++ b).length (bv (a ++ b)) :=
  (cat_ok u v a b w hu hv (by omega)).mono fun e w' ⟨x, h1, h2, h3⟩ => ⟨x, h1, h2, by rw [List.length_append]; exact h3⟩
theorem wrapK (K : Nat) (h : K < 256) : IntKind.u8.wrap (K : Int) = (K : Int) := by rw [IntKind.wrap_u8]; omega
theorem brd_new1 (w : World) (K : Nat) (h : K < 256) : BRd (w.alloc (.cells #[.int .u8 (IntKind.u8.wrap (K : Int))] 5)) (.slice (some ⟨w.heap.size, 0, none⟩) 1 1) [UInt8.ofNat K] :=
  ⟨_, 1, rfl, Nat.le_refl _, rd_new _ _ _ _ (by rw [wrapK K h]; unfold bv; simp; omega), fun ad e _ => by cases e; rfl⟩
theorem rd_lit1 {W : World} {g K : Nat} {f : Nat × Nat} (h : W.heap[g]? = some (.cells #[.int .u8 (IntKind.u8.wrap (K : Int))] 5 f)) (hK : K < 256) : Rd W (some ⟨g, 0, none⟩) (bv [UInt8.ofNat K]) := by
  have := rd_block h 0 1 (Nat.le_refl _)
  rwa [show (List.drop 0 (#[Value.int .u8 (IntKind.u8.wrap (K : Int))] : Array Value).toList).take 1 = bv [UInt8.ofNat K] from by rw [wrapK K hK]; unfold bv; simp; omega] at this
theorem brd_grownG {w w1 : World} {g n c : Nat} {l : List UInt8} {r : Option Nat} (hr : BRd w (.slice (some ⟨g, 0, none⟩) n c) l) (hg : w.grownBy w1 r) (hne : ∀ k, r = some k → k < g) : BRd w1 (.slice (some ⟨g, 0, none⟩) n c) l := by
  obtain ⟨A, c', e, h1, h2, h3⟩ := hr
  injection e with e1 e2 e3
  subst e1
  refine ⟨_, c', by rw [e2, e3], h1, h2.fr (S := fun k => r = some k) ⟨hg.os, hg.tape, hg.output, hg.size, fun k hk hn => hg.block k hk (fun e => hn e.symm)⟩ (fun ad e => ?_), h3⟩
  cases e
  intro h
  have := hne g h
  omega
theorem blen (d : ByteArray) : d.data.toList.length = d.size := by rw [Array.length_toList]; rfl
theorem odd_get {f : List Int} (h : f.any oddF = false) (k : Nat) (hk : k < f.length) : 0 ≤ f[k] ∧ f[k] ≤ 65535 := by
  have := List.any_eq_false.1 h f[k] (List.getElem_mem hk)
  simp [oddF] at this
  omega
/-- The head of a step's octets. -/
def o1 (K A : Nat) : List UInt8 := [UInt8.ofNat K] ++ numB 4 A
def o2 (L : List UInt8) (l : List Nat) : List UInt8 := l.foldl (fun b n => b ++ numB 4 n) L
def o3 (L : List UInt8) (l : List Int) : List UInt8 := l.foldl (fun b n => b ++ numB 2 n.toNat) L
theorem o2_succ (L : List UInt8) (l : List Nat) (k : Nat) (h : k < l.length) : o2 L (l.take (k + 1)) = o2 L (l.take k) ++ numB 4 l[k] := by unfold o2; rw [List.take_succ_eq_append_getElem h, List.foldl_append]; rfl
theorem o3_succ (L : List UInt8) (l : List Int) (k : Nat) (h : k < l.length) : o3 L (l.take (k + 1)) = o3 L (l.take k) ++ numB 2 l[k].toNat := by unfold o3; rw [List.take_succ_eq_append_getElem h, List.foldl_append]; rfl
theorem o2_len : ∀ (l : List Nat) (L : List UInt8), (o2 L l).length = L.length + 4 * l.length
  | [], L => by simp [o2]
  | n :: l, L => by
    have := o2_len l (L ++ numB 4 n)
    unfold o2 at this ⊢
    rw [List.foldl_cons, this, List.length_append, numB_length, List.length_cons]; omega
theorem o3_len : ∀ (l : List Int) (L : List UInt8), (o3 L l).length = L.length + 2 * l.length
  | [], L => by simp [o3]
  | n :: l, L => by
    have := o3_len l (L ++ numB 2 n.toNat)
    unfold o3 at this ⊢
    rw [List.foldl_cons, this, List.length_append, numB_length, List.length_cons]; omega
theorem o3_eq : ∀ (l : List Int) (L : List UInt8), o3 L l = L ++ (l.map fun n => numB 2 n.toNat).flatten
  | [], L => by simp [o3]
  | n :: l, L => by
    have := o3_eq l (L ++ numB 2 n.toNat)
    unfold o3 at this ⊢
    rw [List.foldl_cons, this, List.map_cons, List.flatten_cons, List.append_assoc]
theorem oct_eq (K A X Y X1 Y1 : Nat) (d : ByteArray) (fv : Value) (f : List Int) (hK : K < 256) (hd : d.size < 256) (hf : f.length < 256) :
    o3 ((o2 (o1 K A) [X, Y, X1, Y1] ++ [UInt8.ofNat d.size] ++ d.data.toList) ++ [UInt8.ofNat f.length]) f = oct ⟨(K : Nat), (A : Nat), X, Y, X1, Y1, d, fv, f⟩ := by
  rw [o3_eq]
  unfold oct ch o2 o1
  simp only [Int.toNat_natCast, List.foldl_cons, List.foldl_nil, List.flatten_append, List.flatten_cons, List.flatten_nil, List.append_nil, List.append_assoc, numB_one, Nat.mod_eq_of_lt hK, Nat.mod_eq_of_lt hd, Nat.mod_eq_of_lt hf]
set_option maxHeartbeats 8000000 in
set_option maxRecDepth 100000 in
theorem octets_ok (s : StepS) (w : World) (hf : s.fine w) (hc : s.chk = 0) :
    Calls Try.prog 21 #[cv s] w fun e w' => ∃ v, e = .returned v ∧ BRd w' v (oct s) ∧ Below w.heap.size w w' := by
  obtain ⟨⟨hk1, hk2⟩, ⟨ha1, ha2⟩, hodd, hds, hfl⟩ := StepS.chk_zero hc
  obtain ⟨_, _, ⟨hx, hy, hx1, hy1⟩, _, hv, _, _⟩ := hf
  obtain ⟨kind, a, X, Y, X1, Y1, d, fv, f⟩ := s
  simp only at hk1 hk2 ha1 ha2 hodd hds hfl hx hy hx1 hy1 hv
  obtain ⟨KK, rfl⟩ := Int.eq_ofNat_of_zero_le (by omega : 0 ≤ kind)
  obtain ⟨AA, rfl⟩ := Int.eq_ofNat_of_zero_le (by omega : 0 ≤ a)
  have HOE := Lib.hid (oct_eq KK AA X Y X1 Y1 d fv f (by omega) (by omega) (by omega))
  have hKK : KK < 256 := by omega
  have hAA : AA ≤ 9223372036854775807 := by omega
  replace hds : d.size < 256 := by omega
  have HV := Lib.hid (And.intro hv hodd); clear hodd hc
  obtain ⟨Af, cf, rfl, _, _⟩ := hv
  have hg := alloc_at (w := w) (.cells #[.int .i64 KK, .int .i64 AA, .int .u32 (X : Nat), .int .u32 (Y : Nat), .int .u32 (X1 : Nat), .int .u32 (Y1 : Nat), .string d, .slice Af f.length cf] 45) rfl
  have hb0 := below_alloc1 w (.cells #[.int .i64 KK, .int .i64 AA, .int .u32 (X : Nat), .int .u32 (Y : Nat), .int .u32 (X1 : Nat), .int .u32 (Y1 : Nat), .string d, .slice Af f.length cf] 45)
  have HG := Lib.hid (And.intro hg hb0); clear hg hb0
  go_enter Try.func21, Try.ntmps21
  go_upto_region 1 with (fail)
  generalize (w.alloc _) = w0 at *
  have HCC := Lib.hid (fun (W : World) (hb : Below w0.heap.size w0 W) => cells8 (block_up HG.out.1 hb))
  go_cut [3] (fun v3 wx => wx.ownsRow w0.heap.size 5 1 v3 (o1 KK AA).length (bv (o1 KK AA)) ∧ Below w0.heap.size w0 wx)
  case first =>
    have HQ := Lib.hid (fun (W : World) (hb : Below w0.heap.size w0 W) => And.intro (HCC.out W hb).1 (HCC.out W hb).2.1)
    refine wp_region_held_drew (S := fun W => (W.cell? ⟨w.heap.size, 0, none⟩ = some (.int .i64 KK) ∧ W.cell? ⟨w.heap.size, 1, none⟩ = some (.int .i64 AA)) ∧ Below w0.heap.size w0 W) (by kernel_rfl) ⟨HQ.out _ below_drew1, below_drew1⟩ (fun hHeld0 => ?_)
    have Hb := Lib.hid (below_drew1 (w := w0))
    generalize (World.drew w0) = Wc at *
    refine wpAnyH_take (i := 0) (v := ?_) rfl (by kernel_rfl) (by kernel_rfl) (by kernel_rfl) (fun _ _ _ h => h) (Or.inl ⟨by kernel_rfl, ?_⟩) (by assumption) ?_; rotate_left; (focus (intro w hSw; (try dsimp only at hSw); go_simp; (try with_reducible rfl); done)); (try simp only [Act.put, List.getElem_toArray, List.getElem_cons_succ, List.getElem_cons_zero, List.setIfInBounds_toArray, List.set_cons_zero, List.set_cons_succ])
    refine wpAnyH_take (i := 1) (v := ?_) rfl (by kernel_rfl) (by kernel_rfl) (by kernel_rfl) (fun _ _ _ h => h) (Or.inl ⟨by kernel_rfl, ?_⟩) (by assumption) ?_; rotate_left; (focus (intro w hSw; (try dsimp only at hSw); go_simp; (try with_reducible rfl); done)); (try simp only [Act.put, List.getElem_toArray, List.getElem_cons_succ, List.getElem_cons_zero, List.setIfInBounds_toArray, List.set_cons_zero, List.set_cons_succ])
    refine wpAnyH_take (i := 2) (v := ?_) rfl (by kernel_rfl) (by kernel_rfl) (by kernel_rfl) (fun _ _ _ h => h) (Or.inl ⟨by kernel_rfl, ?_⟩) (by assumption) ?_; rotate_left; (focus (intro w hSw; (try dsimp only at hSw); go_simp; (try with_reducible rfl); done)); (try simp only [Act.put, List.getElem_toArray, List.getElem_cons_succ, List.getElem_cons_zero, List.setIfInBounds_toArray, List.set_cons_zero, List.set_cons_succ])
    refine wpAnyH_take (i := 4) (v := ?_) rfl (by kernel_rfl) (by kernel_rfl) (by kernel_rfl) (fun _ _ _ h => h) (Or.inl ⟨by kernel_rfl, ?_⟩) (by assumption) ?_; rotate_left; (focus (intro w hSw; (try dsimp only at hSw); go_simp; (try with_reducible rfl); done)); (try simp only [Act.put, List.getElem_toArray, List.getElem_cons_succ, List.getElem_cons_zero, List.setIfInBounds_toArray, List.set_cons_zero, List.set_cons_succ])
    refine wpAnyH_take (i := 5) (v := ?_) rfl (by kernel_rfl) (by kernel_rfl) (by kernel_rfl) (fun _ _ _ h => h) (Or.inl ⟨by kernel_rfl, ?_⟩) (by assumption) ?_; rotate_left; (focus (intro w hSw; (try dsimp only at hSw); go_simp; (try with_reducible rfl); done)); (try simp only [Act.put, List.getElem_toArray, List.getElem_cons_succ, List.getElem_cons_zero, List.setIfInBounds_toArray, List.set_cons_zero, List.set_cons_succ])
    refine wpAnyH_ready (rs := [3, 6]) (by kernel_rfl) (by simp) ?_
    refine AllReadyH.cons rfl (fun K hK => ?_) (AllReadyH.cons rfl (fun K hK => ?_) AllReadyH.nil)
    · go_simp
      have Hq' := Lib.hid (brd_new1 Wc KK hKK)
      have Hb' := Lib.hid (below_alloc Hb.out (.cells #[.int .u8 (IntKind.u8.wrap (KK : Int))] 5))
      refine hK.out _ _ (⟨HQ.out _ Hb'.out, Hb'.out⟩) (fun hHeld => ?_)
      clear hK K hHeld0
      have hHeld0 := hHeld; clear hHeld
      clear Hb
      have Hq := Hq'; have Hb := Hb'; clear Hq' Hb'
      generalize (World.alloc Wc _) = Wd at *
      obtain ⟨Wc, rfl⟩ : ∃ W, W = Wd := ⟨_, rfl⟩
      (try simp only [Act.put, List.getElem_toArray, List.getElem_cons_succ, List.getElem_cons_zero, List.setIfInBounds_toArray, List.set_cons_zero, List.set_cons_succ])
      refine wpAnyH_ready (rs := [6]) (by kernel_rfl) (by simp) ?_
      refine AllReadyH.cons rfl (fun K hK => ?_) AllReadyH.nil
      go_simp
      (with_reducible refine (rnum4 AA _ hAA).mono ?_); rintro e Wd ⟨v1, rfl, hb, hv1⟩
      have Hn := Lib.hid hv1
      have Hb' := Lib.hid (below_up Hb.out hb)
      have Hq' := Lib.hid (Hq.out.below hb)
      clear hb hv1
      refine hK.out _ _ (⟨HQ.out _ Hb'.out, Hb'.out⟩) (fun hHeld => ?_)
      clear hK K hHeld0
      have hHeld0 := hHeld; clear hHeld
      clear Hb Hq
      have Hb := Hb'; clear Hb'
      have Hq := Hq'; clear Hq'
      obtain ⟨Wc, rfl⟩ : ∃ W, W = Wd := ⟨_, rfl⟩
      (try simp only [Act.put, List.getElem_toArray, List.getElem_cons_succ, List.getElem_cons_zero, List.setIfInBounds_toArray, List.set_cons_zero, List.set_cons_succ])
      refine wpAnyH_ready (rs := [7]) (by kernel_rfl) (by simp) ?_
      refine AllReadyH.cons rfl (fun K hK => ?_) AllReadyH.nil
      go_simp
      (with_reducible refine (rcat _ _ _ _ _ Hq.out Hn.out (by simp [numB_length])).mono ?_); rintro e Wd ⟨xx1, rfl, hb, hx⟩
      have Hx := Lib.hid (own_lower hx Hb.out.size)
      have Hb' := Lib.hid (below_up Hb.out hb)
      clear hb hx
      refine hK.out _ _ (⟨HQ.out _ Hb'.out, Hb'.out⟩) (fun hHeld => ?_)
      clear hK K hHeld0
      have hHeld0 := hHeld; clear hHeld
      clear Hb Hq Hn
      have Hb := Hb'; clear Hb'
      (try simp only [Act.put, List.getElem_toArray, List.getElem_cons_succ, List.getElem_cons_zero, List.setIfInBounds_toArray, List.set_cons_zero, List.set_cons_succ])
      refine wpAnyH_take (i := 8) (v := ?_) rfl (by kernel_rfl) (by kernel_rfl) (by kernel_rfl) (fun _ _ _ h => h) (Or.inl ⟨by kernel_rfl, ?_⟩) (by assumption) ?_; rotate_left; (focus (intro w hSw; (try dsimp only at hSw); go_simp; (try with_reducible rfl); done)); (try simp only [Act.put, List.getElem_toArray, List.getElem_cons_succ, List.getElem_cons_zero, List.setIfInBounds_toArray, List.set_cons_zero, List.set_cons_succ])
      refine wpAnyH_done (by kernel_rfl) ?_ _
      go_wp2
      go_meet
      case rel => exact ⟨Hx.out, Hb.out⟩
    · go_simp
      (with_reducible refine (rnum4 AA _ hAA).mono ?_); rintro e Wd ⟨v1, rfl, hb, hv1⟩
      have Hn := Lib.hid hv1
      have Hb' := Lib.hid (below_up Hb.out hb)
      clear hb hv1
      refine hK.out _ _ (⟨HQ.out _ Hb'.out, Hb'.out⟩) (fun hHeld => ?_)
      clear hK K hHeld0
      have hHeld0 := hHeld; clear hHeld
      clear Hb
      have Hb := Hb'; clear Hb'
      obtain ⟨Wc, rfl⟩ : ∃ W, W = Wd := ⟨_, rfl⟩
      (try simp only [Act.put, List.getElem_toArray, List.getElem_cons_succ, List.getElem_cons_zero, List.setIfInBounds_toArray, List.set_cons_zero, List.set_cons_succ])
      refine wpAnyH_ready (rs := [3]) (by kernel_rfl) (by simp) ?_
      refine AllReadyH.cons rfl (fun K hK => ?_) AllReadyH.nil
      go_simp
      have Hq' := Lib.hid (brd_new1 Wc KK hKK)
      have Hb' := Lib.hid (below_alloc Hb.out (.cells #[.int .u8 (IntKind.u8.wrap (KK : Int))] 5))
      have Hn' := Lib.hid (Hn.out.below (below_alloc1 Wc (.cells #[.int .u8 (IntKind.u8.wrap (KK : Int))] 5)))
      refine hK.out _ _ (⟨HQ.out _ Hb'.out, Hb'.out⟩) (fun hHeld => ?_)
      clear hK K hHeld0
      have hHeld0 := hHeld; clear hHeld
      clear Hb Hn
      have Hq := Hq'; have Hb := Hb'; clear Hq' Hb'
      have Hn := Hn'; clear Hn'
      generalize (World.alloc Wc _) = Wd at *
      obtain ⟨Wc, rfl⟩ : ∃ W, W = Wd := ⟨_, rfl⟩
      (try simp only [Act.put, List.getElem_toArray, List.getElem_cons_succ, List.getElem_cons_zero, List.setIfInBounds_toArray, List.set_cons_zero, List.set_cons_succ])
      refine wpAnyH_ready (rs := [7]) (by kernel_rfl) (by simp) ?_
      refine AllReadyH.cons rfl (fun K hK => ?_) AllReadyH.nil
      go_simp
      (with_reducible refine (rcat _ _ _ _ _ Hq.out Hn.out (by simp [numB_length])).mono ?_); rintro e Wd ⟨xx1, rfl, hb, hx⟩
      have Hx := Lib.hid (own_lower hx Hb.out.size)
      have Hb' := Lib.hid (below_up Hb.out hb)
      clear hb hx
      refine hK.out _ _ (⟨HQ.out _ Hb'.out, Hb'.out⟩) (fun hHeld => ?_)
      clear hK K hHeld0
      have hHeld0 := hHeld; clear hHeld
      clear Hb Hq Hn
      have Hb := Hb'; clear Hb'
      (try simp only [Act.put, List.getElem_toArray, List.getElem_cons_succ, List.getElem_cons_zero, List.setIfInBounds_toArray, List.set_cons_zero, List.set_cons_succ])
      refine wpAnyH_take (i := 8) (v := ?_) rfl (by kernel_rfl) (by kernel_rfl) (by kernel_rfl) (fun _ _ _ h => h) (Or.inl ⟨by kernel_rfl, ?_⟩) (by assumption) ?_; rotate_left; (focus (intro w hSw; (try dsimp only at hSw); go_simp; (try with_reducible rfl); done)); (try simp only [Act.put, List.getElem_toArray, List.getElem_cons_succ, List.getElem_cons_zero, List.setIfInBounds_toArray, List.set_cons_zero, List.set_cons_succ])
      refine wpAnyH_done (by kernel_rfl) ?_ _
      go_wp2
      go_meet
      case rel => exact ⟨Hx.out, Hb.out⟩
  case rest =>
  obtain ⟨hown, hbel⟩ := hcut
  obtain ⟨A3, c3, rfl, _⟩ := own_rd hown
  have hl4 : ∀ n ∈ [X, Y, X1, Y1], n < 4294967296 := by
    intro n hn
    simp only [List.mem_cons, List.not_mem_nil, or_false] at hn
    rcases hn with rfl | rfl | rfl | rfl <;> assumption
  have hL4 : ([X, Y, X1, Y1] : List Nat).length = 4 := rfl
  obtain ⟨_, _, q2, q3, q4, q5, _, _⟩ := HCC.out _ hbel
  have hrd4 := rd_new wc #[.int .u32 (X : Nat), .int .u32 (Y : Nat), .int .u32 (X1 : Nat), .int .u32 (Y1 : Nat)] 42 (([X, Y, X1, Y1] : List Nat).map fun n => Value.int .u32 (n : Nat)) rfl
  have hb4 := below_alloc1 wc (.cells #[.int .u32 (X : Nat), .int .u32 (Y : Nat), .int .u32 (X1 : Nat), .int .u32 (Y1 : Nat)] 42)
  have hoct : o2 (o1 KK AA) [X, Y, X1, Y1] = o2 (o1 KK AA) [X, Y, X1, Y1] := rfl
  have H1 := Lib.hid (And.intro (own_below hown hb4) (And.intro (below_up hbel hb4) (And.intro hrd4 (And.intro hl4 hL4)))); clear hown hbel hb4 hrd4 hl4 hL4 hoct
  go_upto_region 3 with (fail)
  generalize (wc.alloc _) = wd at *
  generalize hL : ([X, Y, X1, Y1] : List Nat) = L4 at *
  clear hL hx hy hx1 hy1
  clear q2 q3 q4 q5
  have hlen4 := H1.out.2.2.2.2
  go_wp2_with fail
  go_loopw [3, 5] (fun v3 vi W => ∃ k : Nat, k ≤ 4 ∧ vi = .int .i64 k ∧ W.ownsRow w0.heap.size 5 1 v3 (o2 (o1 KK AA) (L4.take k)).length (bv (o2 (o1 KK AA) (L4.take k))) ∧ Below wd.heap.size wd W) (fun _ vi _ => 4 - (intOf vi).toNat)
  case atStart => exact ⟨0, by omega, rfl, H1.out.1, Below.refl _ _⟩
  obtain ⟨k, hk, rfl, hown, hbel⟩ := hrel
  obtain ⟨A4, c4, rfl, _⟩ := own_rd hown
  have HR := Lib.hid (And.intro hown hbel); clear hown hbel
  by_cases hlt : k < 4
  · have dk : decide ((k : Int) < 4) = true := decide_eq_true (by omega)
    have hkl : k < L4.length := by omega
    obtain ⟨ad, e, hcell⟩ := (H1.out.2.2.1.below HR.out.2).at_ (i := k) (by rw [List.length_map]; exact hkl)
    cases e
    rw [add_plain, Nat.zero_add, List.getElem_map] at hcell
    have hNb := H1.out.2.2.2.1 _ (List.getElem_mem hkl)
    have hs := o2_succ (o1 KK AA) L4 k hkl
    have hln := o2_len (L4.take k) (o1 KK AA)
    generalize L4[k] = N at *
    have HS := Lib.hid (And.intro hs hln); clear hs hln
    have bk : (k : Int) < 4 := by omega
    go_wp2_with fail
    (with_reducible refine (rnum4 N _ (by omega)).mono ?_); rintro e w2 ⟨v2, rfl, hb, hv2⟩
    have H2 := Lib.hid (And.intro ((brd_own HR.out.1).below hb) (And.intro hv2 (below_up HR.out.2 hb))); clear hb hv2
    go_wp2_with fail
    (with_reducible refine (rcat _ _ _ _ _ H2.out.1 H2.out.2.1 (by rw [HS.out.2, List.length_take, numB_length]; unfold o1; simp [numB_length]; omega)).mono ?_); rintro e w3 ⟨v3, rfl, hb, hx⟩
    have hx := own_lower hx (below_up H1.out.2.1 H2.out.2.2).size
    rw [← HS.out.1] at hx
    have H3 := Lib.hid (And.intro hx (below_up H2.out.2.2 hb)); clear hx hb
    go_wp2
    exact ⟨⟨k + 1, by omega, by simp, H3.out.1, H3.out.2⟩, by simp [intOf]; omega⟩
  have hk4 : k = 4 := by omega
  subst hk4
  have dk : decide ((4 : Int) < 4) = false := by decide
  have hown := HR.out.1
  have hbel := below_up H1.out.2.1 HR.out.2
  have hLL : (o2 (o1 KK AA) L4).length = 21 := by rw [o2_len, hlen4]; unfold o1; simp [numB_length]
  have htk : L4.take 4 = L4 := by rw [← hlen4, List.take_length]
  obtain ⟨L3, hL3⟩ : ∃ l, o2 (o1 KK AA) L4 = l := ⟨_, rfl⟩
  rw [htk, hL3] at hown ⊢
  rw [hL3] at hLL
  have HLL := Lib.hid hLL; clear hLL
  have H4 := Lib.hid (And.intro hown (And.intro hbel hL3)); clear hown hbel hL3 hlen4 htk
  go_upto_region 7 with (fail)
  go_cut [3] (fun v3 wx => wx.ownsRow w0.heap.size 5 1 v3 (L3 ++ [UInt8.ofNat d.size] ++ d.data.toList).length (bv (L3 ++ [UInt8.ofNat d.size] ++ d.data.toList)) ∧ Below w0.heap.size w0 wx)
  case first =>
    have HQ := Lib.hid (fun (W : World) (hb : Below w0.heap.size w0 W) => (HCC.out W hb).2.2.2.2.2.2.1)
    refine wp_region_held_drew (S := fun W => W.cell? ⟨w.heap.size, 6, none⟩ = some (.string d) ∧ Below w0.heap.size w0 W) (by kernel_rfl) ⟨HQ.out _ (below_up H4.out.2.1 below_drew1), below_up H4.out.2.1 below_drew1⟩ (fun hHeld0 => ?_)
    have Hb := Lib.hid (below_up H4.out.2.1 below_drew1)
    have Ho := Lib.hid (own_below H4.out.1 below_drew1)
    generalize (World.drew wr) = Wc at *
    refine wpAnyH_take (i := 0) (v := ?_) rfl (by kernel_rfl) (by kernel_rfl) (by kernel_rfl) (fun _ _ _ h => h) (Or.inl ⟨by kernel_rfl, ?_⟩) (by assumption) ?_; rotate_left; (focus (intro w hSw; (try dsimp only at hSw); go_simp; (try with_reducible rfl); done)); (try simp only [Act.put, List.getElem_toArray, List.getElem_cons_succ, List.getElem_cons_zero, List.setIfInBounds_toArray, List.set_cons_zero, List.set_cons_succ])
    refine wpAnyH_take (i := 1) (v := ?_) rfl (by kernel_rfl) (by kernel_rfl) (by kernel_rfl) (fun _ _ _ h => h) (Or.inl ⟨by kernel_rfl, ?_⟩) (by assumption) ?_; rotate_left; (focus (intro w hSw; (try dsimp only at hSw); go_simp; (try with_reducible rfl); done)); (try simp only [Act.put, List.getElem_toArray, List.getElem_cons_succ, List.getElem_cons_zero, List.setIfInBounds_toArray, List.set_cons_zero, List.set_cons_succ])
    refine wpAnyH_take (i := 2) (v := ?_) rfl (by kernel_rfl) (by kernel_rfl) (by kernel_rfl) (fun _ _ _ h => h) (Or.inl ⟨by kernel_rfl, ?_⟩) (by assumption) ?_; rotate_left; (focus (intro w hSw; (try dsimp only at hSw); go_simp; (try with_reducible rfl); done)); (try simp only [Act.put, List.getElem_toArray, List.getElem_cons_succ, List.getElem_cons_zero, List.setIfInBounds_toArray, List.set_cons_zero, List.set_cons_succ])
    refine wpAnyH_take (i := 3) (v := ?_) rfl (by kernel_rfl) (by kernel_rfl) (by kernel_rfl) (fun _ _ _ h => h) (Or.inl ⟨by kernel_rfl, ?_⟩) (by assumption) ?_; rotate_left; (focus (intro w hSw; (try dsimp only at hSw); go_simp; (try with_reducible rfl); done)); (try simp only [Act.put, List.getElem_toArray, List.getElem_cons_succ, List.getElem_cons_zero, List.setIfInBounds_toArray, List.set_cons_zero, List.set_cons_succ])
    refine wpAnyH_take (i := 4) (v := ?_) rfl (by kernel_rfl) (by kernel_rfl) (by kernel_rfl) (fun _ _ _ h => h) (Or.inl ⟨by kernel_rfl, ?_⟩) (by assumption) ?_; rotate_left; (focus (intro w hSw; (try dsimp only at hSw); go_simp; (try with_reducible rfl); done)); (try simp only [Act.put, List.getElem_toArray, List.getElem_cons_succ, List.getElem_cons_zero, List.setIfInBounds_toArray, List.set_cons_zero, List.set_cons_succ])
    refine wpAnyH_take (i := 7) (v := ?_) rfl (by kernel_rfl) (by kernel_rfl) (by kernel_rfl) (fun _ _ _ h => h) (Or.inl ⟨by kernel_rfl, ?_⟩) (by assumption) ?_; rotate_left; (focus (intro w hSw; (try dsimp only at hSw); go_simp; (try with_reducible rfl); done)); (try simp only [Act.put, List.getElem_toArray, List.getElem_cons_succ, List.getElem_cons_zero, List.setIfInBounds_toArray, List.set_cons_zero, List.set_cons_succ])
    refine wpAnyH_take (i := 8) (v := ?_) rfl (by kernel_rfl) (by kernel_rfl) (by kernel_rfl) (fun _ _ _ h => h) (Or.inl ⟨by kernel_rfl, ?_⟩) (by assumption) ?_; rotate_left; (focus (intro w hSw; (try dsimp only at hSw); go_simp; (try with_reducible rfl); done)); (try simp only [Act.put, List.getElem_toArray, List.getElem_cons_succ, List.getElem_cons_zero, List.setIfInBounds_toArray, List.set_cons_zero, List.set_cons_succ])
    refine wpAnyH_ready (rs := [5, 9]) (by kernel_rfl) (by simp) ?_
    refine AllReadyH.cons rfl (fun K hK => ?_) (AllReadyH.cons rfl (fun K hK => ?_) AllReadyH.nil)
    · go_simp
      have Ht' := Lib.hid (alloc_at (w := Wc) (.cells #[.int .u8 (IntKind.u8.wrap (d.size : Int))] 5) rfl)
      have Hb' := Lib.hid (below_alloc Hb.out (.cells #[.int .u8 (IntKind.u8.wrap (d.size : Int))] 5))
      have Ho' := Lib.hid (own_below Ho.out (below_alloc1 Wc (.cells #[.int .u8 (IntKind.u8.wrap (d.size : Int))] 5)))
      refine hK.out _ _ (⟨HQ.out _ Hb'.out, Hb'.out⟩) (fun hHeld => ?_)
      clear hK K hHeld0
      have hHeld0 := hHeld; clear hHeld
      clear Hb Ho
      have Ht := Ht'; have Hb := Hb'; have Ho := Ho'; clear Ht' Hb' Ho'
      generalize (World.alloc Wc _) = Wd at *
      obtain ⟨Wc, rfl⟩ : ∃ W, W = Wd := ⟨_, rfl⟩
      (try simp only [Act.put, List.getElem_toArray, List.getElem_cons_succ, List.getElem_cons_zero, List.setIfInBounds_toArray, List.set_cons_zero, List.set_cons_succ])
      refine wpAnyH_ready (rs := [6, 9]) (by kernel_rfl) (by simp) ?_
      refine AllReadyH.cons rfl (fun K hK => ?_) (AllReadyH.cons rfl (fun K hK => ?_) AllReadyH.nil)
      · refine step_app rfl _ _ 40 rfl w0.heap.size 5 (.int .u8 0) 1 1 Try.underlying40 info_u8 rfl (by decide) (by decide) (.slice A4 L3.length c4) L3.length (bv L3) rfl _ 1 1 (bv [UInt8.ofNat d.size]) rfl Ho.out rfl (rd_lit1 Ht.out hds) (bv_one _) (by have := HLL.out; omega) Hb.out.size ?_
        intro A5 c5 Wd hown hgrow _
        rw [← bv_append] at hown
        have Hp := Lib.hid (brd_own (l := L3 ++ [UInt8.ofNat d.size]) hown)
        have Hb' := Lib.hid (below_grown Hb.out hgrow (fun k e => own_base Ho.out k e))
        clear hown hgrow
        refine hK.out _ _ (⟨HQ.out _ Hb'.out, Hb'.out⟩) (fun hHeld => ?_)
        clear hK K hHeld0
        have hHeld0 := hHeld; clear hHeld
        clear Hb Ho Ht
        have Hb := Hb'; clear Hb'
        obtain ⟨Wc, rfl⟩ : ∃ W, W = Wd := ⟨_, rfl⟩
        (try simp only [Act.put, List.getElem_toArray, List.getElem_cons_succ, List.getElem_cons_zero, List.setIfInBounds_toArray, List.set_cons_zero, List.set_cons_succ])
        refine wpAnyH_ready (rs := [9]) (by kernel_rfl) (by simp) ?_
        refine AllReadyH.cons rfl (fun K hK => ?_) AllReadyH.nil
        have hcv := Lib.run_convert_string_bytes (P := Try.prog) Wc 9 40 5 d Try.underlying9 Try.underlying40 Try.underlying5
        go_simp
        clear hcv
        have Hd := Lib.hid (brd_bytes Wc 5 d)
        have hbb := below_bytes Wc 5 d
        have Hb' := Lib.hid (below_up Hb.out hbb)
        have Hp' := Lib.hid (Hp.out.below hbb)
        refine hK.out _ _ (⟨HQ.out _ Hb'.out, Hb'.out⟩) (fun hHeld => ?_)
        clear hK K hHeld0
        have hHeld0 := hHeld; clear hHeld
        clear Hb hbb Hp
        have Hb := Hb'; clear Hb'
        have Hp := Hp'; clear Hp'
        generalize Lib.bytesWorld Wc _ d = Wd at *
        obtain ⟨Wc, rfl⟩ : ∃ W, W = Wd := ⟨_, rfl⟩
        (try simp only [Act.put, List.getElem_toArray, List.getElem_cons_succ, List.getElem_cons_zero, List.setIfInBounds_toArray, List.set_cons_zero, List.set_cons_succ])
        refine wpAnyH_ready (rs := [10]) (by kernel_rfl) (by simp) ?_
        refine AllReadyH.cons rfl (fun K hK => ?_) AllReadyH.nil
        go_simp
        (with_reducible refine (rcat _ _ _ _ _ Hp.out Hd.out (by rw [List.length_append, blen]; have h2 := HLL.out; simp only [List.length_singleton]; omega)).mono ?_); rintro e Wd ⟨xx1, rfl, hb, hx⟩
        have Hx := Lib.hid (own_lower hx Hb.out.size)
        have Hb' := Lib.hid (below_up Hb.out hb)
        clear hb hx
        refine hK.out _ _ (⟨HQ.out _ Hb'.out, Hb'.out⟩) (fun hHeld => ?_)
        clear hK K hHeld0
        have hHeld0 := hHeld; clear hHeld
        clear Hb Hp Hd
        have Hb := Hb'; clear Hb'
        (try simp only [Act.put, List.getElem_toArray, List.getElem_cons_succ, List.getElem_cons_zero, List.setIfInBounds_toArray, List.set_cons_zero, List.set_cons_succ])
        refine wpAnyH_take (i := 11) (v := ?_) rfl (by kernel_rfl) (by kernel_rfl) (by kernel_rfl) (fun _ _ _ h => h) (Or.inl ⟨by kernel_rfl, ?_⟩) (by assumption) ?_; rotate_left; (focus (intro w hSw; (try dsimp only at hSw); go_simp; (try with_reducible rfl); done)); (try simp only [Act.put, List.getElem_toArray, List.getElem_cons_succ, List.getElem_cons_zero, List.setIfInBounds_toArray, List.set_cons_zero, List.set_cons_succ])
        refine wpAnyH_done (by kernel_rfl) ?_ _
        go_wp2
        go_meet
        case rel => exact ⟨Hx.out, Hb.out⟩
      · have hcv := Lib.run_convert_string_bytes (P := Try.prog) Wc 9 40 5 d Try.underlying9 Try.underlying40 Try.underlying5
        go_simp
        clear hcv
        have Hd := Lib.hid (brd_bytes Wc 5 d)
        have hbb := below_bytes Wc 5 d
        have Hb' := Lib.hid (below_up Hb.out hbb)
        have Hg := Lib.hid (fun k (hk : (Value.slice A4 L3.length c4).ownBlock = some k) => own_lt Ho.out k hk)
        have Ho' := Lib.hid (own_below Ho.out hbb)
        have Ht' := Lib.hid (block_up Ht.out hbb)
        refine hK.out _ _ (⟨HQ.out _ Hb'.out, Hb'.out⟩) (fun hHeld => ?_)
        clear hK K hHeld0
        have hHeld0 := hHeld; clear hHeld
        clear Hb hbb Ho Ht
        have Hb := Hb'; clear Hb'
        have Ho := Ho'; clear Ho'
        have Ht := Ht'; clear Ht'
        generalize Lib.bytesWorld Wc _ d = Wd at *
        obtain ⟨Wc, rfl⟩ : ∃ W, W = Wd := ⟨_, rfl⟩
        (try simp only [Act.put, List.getElem_toArray, List.getElem_cons_succ, List.getElem_cons_zero, List.setIfInBounds_toArray, List.set_cons_zero, List.set_cons_succ])
        refine wpAnyH_ready (rs := [6]) (by kernel_rfl) (by simp) ?_
        refine AllReadyH.cons rfl (fun K hK => ?_) AllReadyH.nil
        refine step_app rfl _ _ 40 rfl w0.heap.size 5 (.int .u8 0) 1 1 Try.underlying40 info_u8 rfl (by decide) (by decide) (.slice A4 L3.length c4) L3.length (bv L3) rfl _ 1 1 (bv [UInt8.ofNat d.size]) rfl Ho.out rfl (rd_lit1 Ht.out hds) (bv_one _) (by have := HLL.out; omega) Hb.out.size ?_
        intro A5 c5 Wd hown hgrow _
        rw [← bv_append] at hown
        have Hp := Lib.hid (brd_own (l := L3 ++ [UInt8.ofNat d.size]) hown)
        have Hb' := Lib.hid (below_grown Hb.out hgrow (fun k e => own_base Ho.out k e))
        have Hd' := Lib.hid (brd_grownG Hd.out hgrow Hg.out)
        clear hown hgrow
        refine hK.out _ _ (⟨HQ.out _ Hb'.out, Hb'.out⟩) (fun hHeld => ?_)
        clear hK K hHeld0
        have hHeld0 := hHeld; clear hHeld
        clear Hb Hd Hg Ho Ht
        have Hb := Hb'; clear Hb'
        have Hd := Hd'; clear Hd'
        obtain ⟨Wc, rfl⟩ : ∃ W, W = Wd := ⟨_, rfl⟩
        (try simp only [Act.put, List.getElem_toArray, List.getElem_cons_succ, List.getElem_cons_zero, List.setIfInBounds_toArray, List.set_cons_zero, List.set_cons_succ])
        refine wpAnyH_ready (rs := [10]) (by kernel_rfl) (by simp) ?_
        refine AllReadyH.cons rfl (fun K hK => ?_) AllReadyH.nil
        go_simp
        (with_reducible refine (rcat _ _ _ _ _ Hp.out Hd.out (by rw [List.length_append, blen]; have h2 := HLL.out; simp only [List.length_singleton]; omega)).mono ?_); rintro e Wd ⟨xx1, rfl, hb, hx⟩
        have Hx := Lib.hid (own_lower hx Hb.out.size)
        have Hb' := Lib.hid (below_up Hb.out hb)
        clear hb hx
        refine hK.out _ _ (⟨HQ.out _ Hb'.out, Hb'.out⟩) (fun hHeld => ?_)
        clear hK K hHeld0
        have hHeld0 := hHeld; clear hHeld
        clear Hb Hp Hd
        have Hb := Hb'; clear Hb'
        (try simp only [Act.put, List.getElem_toArray, List.getElem_cons_succ, List.getElem_cons_zero, List.setIfInBounds_toArray, List.set_cons_zero, List.set_cons_succ])
        refine wpAnyH_take (i := 11) (v := ?_) rfl (by kernel_rfl) (by kernel_rfl) (by kernel_rfl) (fun _ _ _ h => h) (Or.inl ⟨by kernel_rfl, ?_⟩) (by assumption) ?_; rotate_left; (focus (intro w hSw; (try dsimp only at hSw); go_simp; (try with_reducible rfl); done)); (try simp only [Act.put, List.getElem_toArray, List.getElem_cons_succ, List.getElem_cons_zero, List.setIfInBounds_toArray, List.set_cons_zero, List.set_cons_succ])
        refine wpAnyH_done (by kernel_rfl) ?_ _
        go_wp2
        go_meet
        case rel => exact ⟨Hx.out, Hb.out⟩
    · have hcv := Lib.run_convert_string_bytes (P := Try.prog) Wc 9 40 5 d Try.underlying9 Try.underlying40 Try.underlying5
      go_simp
      clear hcv
      have Hd := Lib.hid (brd_bytes Wc 5 d)
      have hbb := below_bytes Wc 5 d
      have Hb' := Lib.hid (below_up Hb.out hbb)
      have Hg := Lib.hid (fun k (hk : (Value.slice A4 L3.length c4).ownBlock = some k) => own_lt Ho.out k hk)
      have Ho' := Lib.hid (own_below Ho.out hbb)
      refine hK.out _ _ (⟨HQ.out _ Hb'.out, Hb'.out⟩) (fun hHeld => ?_)
      clear hK K hHeld0
      have hHeld0 := hHeld; clear hHeld
      clear Hb hbb Ho
      have Hb := Hb'; clear Hb'
      have Ho := Ho'; clear Ho'
      generalize Lib.bytesWorld Wc _ d = Wd at *
      obtain ⟨Wc, rfl⟩ : ∃ W, W = Wd := ⟨_, rfl⟩
      (try simp only [Act.put, List.getElem_toArray, List.getElem_cons_succ, List.getElem_cons_zero, List.setIfInBounds_toArray, List.set_cons_zero, List.set_cons_succ])
      refine wpAnyH_ready (rs := [5]) (by kernel_rfl) (by simp) ?_
      refine AllReadyH.cons rfl (fun K hK => ?_) AllReadyH.nil
      go_simp
      have Ht' := Lib.hid (alloc_at (w := Wc) (.cells #[.int .u8 (IntKind.u8.wrap (d.size : Int))] 5) rfl)
      have Hb' := Lib.hid (below_alloc Hb.out (.cells #[.int .u8 (IntKind.u8.wrap (d.size : Int))] 5))
      have Ho' := Lib.hid (own_below Ho.out (below_alloc1 Wc (.cells #[.int .u8 (IntKind.u8.wrap (d.size : Int))] 5)))
      have Hd' := Lib.hid (Hd.out.below (below_alloc1 Wc (.cells #[.int .u8 (IntKind.u8.wrap (d.size : Int))] 5)))
      refine hK.out _ _ (⟨HQ.out _ Hb'.out, Hb'.out⟩) (fun hHeld => ?_)
      clear hK K hHeld0
      have hHeld0 := hHeld; clear hHeld
      clear Hb Ho Hd
      have Ht := Ht'; have Hb := Hb'; have Ho := Ho'; clear Ht' Hb' Ho'
      have Hd := Hd'; clear Hd'
      generalize (World.alloc Wc _) = Wd at *
      obtain ⟨Wc, rfl⟩ : ∃ W, W = Wd := ⟨_, rfl⟩
      (try simp only [Act.put, List.getElem_toArray, List.getElem_cons_succ, List.getElem_cons_zero, List.setIfInBounds_toArray, List.set_cons_zero, List.set_cons_succ])
      refine wpAnyH_ready (rs := [6]) (by kernel_rfl) (by simp) ?_
      refine AllReadyH.cons rfl (fun K hK => ?_) AllReadyH.nil
      refine step_app rfl _ _ 40 rfl w0.heap.size 5 (.int .u8 0) 1 1 Try.underlying40 info_u8 rfl (by decide) (by decide) (.slice A4 L3.length c4) L3.length (bv L3) rfl _ 1 1 (bv [UInt8.ofNat d.size]) rfl Ho.out rfl (rd_lit1 Ht.out hds) (bv_one _) (by have := HLL.out; omega) Hb.out.size ?_
      intro A5 c5 Wd hown hgrow _
      rw [← bv_append] at hown
      have Hp := Lib.hid (brd_own (l := L3 ++ [UInt8.ofNat d.size]) hown)
      have Hb' := Lib.hid (below_grown Hb.out hgrow (fun k e => own_base Ho.out k e))
      have Hd' := Lib.hid (brd_grownG Hd.out hgrow Hg.out)
      clear hown hgrow
      refine hK.out _ _ (⟨HQ.out _ Hb'.out, Hb'.out⟩) (fun hHeld => ?_)
      clear hK K hHeld0
      have hHeld0 := hHeld; clear hHeld
      clear Hb Hd Hg Ho Ht
      have Hb := Hb'; clear Hb'
      have Hd := Hd'; clear Hd'
      obtain ⟨Wc, rfl⟩ : ∃ W, W = Wd := ⟨_, rfl⟩
      (try simp only [Act.put, List.getElem_toArray, List.getElem_cons_succ, List.getElem_cons_zero, List.setIfInBounds_toArray, List.set_cons_zero, List.set_cons_succ])
      refine wpAnyH_ready (rs := [10]) (by kernel_rfl) (by simp) ?_
      refine AllReadyH.cons rfl (fun K hK => ?_) AllReadyH.nil
      go_simp
      (with_reducible refine (rcat _ _ _ _ _ Hp.out Hd.out (by rw [List.length_append, blen]; have h2 := HLL.out; simp only [List.length_singleton]; omega)).mono ?_); rintro e Wd ⟨xx1, rfl, hb, hx⟩
      have Hx := Lib.hid (own_lower hx Hb.out.size)
      have Hb' := Lib.hid (below_up Hb.out hb)
      clear hb hx
      refine hK.out _ _ (⟨HQ.out _ Hb'.out, Hb'.out⟩) (fun hHeld => ?_)
      clear hK K hHeld0
      have hHeld0 := hHeld; clear hHeld
      clear Hb Hp Hd
      have Hb := Hb'; clear Hb'
      (try simp only [Act.put, List.getElem_toArray, List.getElem_cons_succ, List.getElem_cons_zero, List.setIfInBounds_toArray, List.set_cons_zero, List.set_cons_succ])
      refine wpAnyH_take (i := 11) (v := ?_) rfl (by kernel_rfl) (by kernel_rfl) (by kernel_rfl) (fun _ _ _ h => h) (Or.inl ⟨by kernel_rfl, ?_⟩) (by assumption) ?_; rotate_left; (focus (intro w hSw; (try dsimp only at hSw); go_simp; (try with_reducible rfl); done)); (try simp only [Act.put, List.getElem_toArray, List.getElem_cons_succ, List.getElem_cons_zero, List.setIfInBounds_toArray, List.set_cons_zero, List.set_cons_succ])
      refine wpAnyH_done (by kernel_rfl) ?_ _
      go_wp2
      go_meet
      case rel => exact ⟨Hx.out, Hb.out⟩
  case rest =>
  obtain ⟨hown, hbel⟩ := hcut
  obtain ⟨A7, c7, rfl, _⟩ := own_rd hown
  have hdd : d.data.toList.length = d.size := by rw [Array.length_toList]; rfl
  have hl7 : (L3 ++ [UInt8.ofNat d.size] ++ d.data.toList).length = 22 + d.size := by rw [List.length_append, List.length_append, HLL.out, hdd]; rfl
  obtain ⟨L7, hL7⟩ : ∃ l, L3 ++ [UInt8.ofNat d.size] ++ d.data.toList = l := ⟨_, rfl⟩
  rw [hL7] at hown hl7 ⊢
  have HL7 := Lib.hid hl7; clear hl7
  have hff : f.length < 256 := by omega
  obtain ⟨_, _, _, _, _, _, q6, q7⟩ := HCC.out _ hbel
  have t1 : (#[Value.int .u8 (f.length : Int)] : Array Value).toList = bv [UInt8.ofNat f.length] := by unfold bv; simp; omega
  have t2 : (#[Value.int .u8 ((f.length : Int) % 256)] : Array Value).toList = bv [UInt8.ofNat f.length] := by unfold bv; simp <;> omega
  have t3 : (#[Value.int .u8 (IntKind.u8.wrap (f.length : Int))] : Array Value).toList = bv [UInt8.ofNat f.length] := by rw [wrapK _ hff]; exact t1
  have HT := Lib.hid (And.intro t1 (And.intro t2 t3)); clear t1 t2 t3
  have H5 := Lib.hid (And.intro hown (And.intro hbel hL7)); clear hown hbel hL7 hdd q6
  go_upto_region 9 with (at_builtin; refine wpList_app rfl _ _ 40 rfl w0.heap.size 5 (.int .u8 0) 1 1 Try.underlying40 info_u8 rfl (by decide) (by decide) (.slice A7 L7.length c7) L7.length (bv L7) rfl (some ⟨wc.heap.size, 0, none⟩) 1 1 (bv [UInt8.ofNat f.length]) rfl (own_below H5.out.1 (below_alloc1 _ _)) rfl (rd_new _ _ _ _ (by first | exact HT.out.1 | exact HT.out.2.1 | exact HT.out.2.2)) (bv_one _) (by have := HL7.out; omega) (below_up H5.out.2.1 (below_alloc1 _ _)).size ?_
                         intro A8 c8 w8 hown hgrow _
                         rw [← bv_append] at hown
                         have hb8 := below_grown (below_up H5.out.2.1 (below_alloc1 _ _)) hgrow (fun k e => own_base H5.out.1 k e)
                         have H8 := Lib.hid (And.intro hown hb8); clear hown hb8 hgrow
                         skip)
  clear q7
  go_wp2_with fail
  go_loopw [3, 6] (fun v3 vi W => ∃ k : Nat, k ≤ f.length ∧ vi = .int .i64 k ∧ W.ownsRow w0.heap.size 5 1 v3 (o3 (L7 ++ [UInt8.ofNat f.length]) (f.take k)).length (bv (o3 (L7 ++ [UInt8.ofNat f.length]) (f.take k))) ∧ Below w8.heap.size w8 W) (fun _ vi _ => f.length - (intOf vi).toNat)
  case atStart => exact ⟨0, by omega, rfl, by rw [show o3 (L7 ++ [UInt8.ofNat f.length]) (f.take 0) = L7 ++ [UInt8.ofNat f.length] from rfl, List.length_append]; exact H8.out.1, Below.refl _ _⟩
  obtain ⟨k, hk, rfl, hown, hbel⟩ := hrel
  obtain ⟨A9, c9, rfl, _⟩ := own_rd hown
  obtain ⟨_, _, _, _, _, _, q6, q7⟩ := HCC.out _ (below_up H8.out.2 hbel)
  clear q6
  have HR2 := Lib.hid (And.intro hown (below_up H8.out.2 hbel)); clear hown
  have HBL := Lib.hid hbel; clear hbel
  by_cases hlt : k < f.length
  · have dk : decide ((k : Int) < f.length) = true := decide_eq_true (by omega)
    obtain ⟨ad, rfl, hcell⟩ := (HV.out.1.below (below_up HG.out.2 HR2.out.2)).get hlt
    obtain ⟨hz1, hz2⟩ := odd_get HV.out.2 k hlt
    have hs := o3_succ (L7 ++ [UInt8.ofNat f.length]) f k hlt
    have hln := o3_len (f.take k) (L7 ++ [UInt8.ofNat f.length])
    generalize f[k] = z at *
    obtain ⟨N, rfl⟩ := Int.eq_ofNat_of_zero_le hz1
    rw [Int.toNat_natCast] at hs
    have HS := Lib.hid (And.intro hs hln); clear hs hln
    have bk : (k : Int) < f.length := by omega
    go_wp2_with fail
    (with_reducible refine (rnum2 N _ (by omega)).mono ?_); rintro e w2 ⟨v2, rfl, hb, hv2⟩
    have H2 := Lib.hid (And.intro ((brd_own HR2.out.1).below hb) (And.intro hv2 (And.intro (below_up HR2.out.2 hb) (below_up HBL.out hb)))); clear hb hv2
    go_wp2_with fail
    (with_reducible refine (rcat _ _ _ _ _ H2.out.1 H2.out.2.1 (by rw [HS.out.2, List.length_take, numB_length, List.length_append, List.length_singleton, HL7.out]; omega)).mono ?_); rintro e w3 ⟨v3, rfl, hb, hx⟩
    have hx := own_lower hx H2.out.2.2.1.size
    rw [← HS.out.1] at hx
    have H3 := Lib.hid (And.intro hx (below_up H2.out.2.2.2 hb)); clear hx hb
    go_wp2
    exact ⟨⟨k + 1, by omega, by simp, H3.out.1, H3.out.2⟩, by simp [intOf]; omega⟩
  obtain rfl : k = f.length := by omega
  have dk : decide ((f.length : Int) < f.length) = false := decide_eq_false (by omega)
  have hbr := brd_own HR2.out.1
  rw [List.take_length] at hbr
  have e1 : o3 (L7 ++ [UInt8.ofNat f.length]) f = oct ⟨(KK : Nat), (AA : Nat), X, Y, X1, Y1, d, .slice Af f.length cf, f⟩ := by rw [← H5.out.2.2, ← H4.out.2.2]; exact HOE.out
  have HB := Lib.hid hbr; clear hbr
  have HE1 := Lib.hid e1; clear e1
  (try rw [List.take_length])
  go_wp2
  go_ret
  exact ⟨_, rfl, (by rw [← HE1.out]; exact HB.out), below_up HG.out.2 HR2.out.2⟩
end Go.Proofs.Ytkjapmafipnmpaa.Cd
