/- The walks over frame.Sound and croftref01.Sound. -/
import Derived.Test.YtjhhknkhgilecaaF1
namespace Go.Proofs.Ytjhhknkhgilecaa.Fm
open Go.RowKit Lt
set_option linter.unusedVariables false
set_option linter.unusedSimpArgs false
/-- Is the sum right? -/
def snd (b : List UInt8) : Bool := decide (b.length = 256 ∧ getB (b.drop 252) = Crc.crc (b.take 252))
theorem snd_len {b : List UInt8} (h : ¬ b.length = 256) : snd b = false := decide_eq_false fun e => h e.1
theorem snd_of {b : List UInt8} (h : b.length = 256) : snd b = (getB (b.drop 252) == Crc.crc (b.take 252)) := by
  unfold snd; rw [Bool.eq_iff_iff]; simp [h]
theorem brd_cut {w : World} {A : Option Addr} {c : Nat} {l : List UInt8} (h : BRd w (.slice A l.length c) l) (hl : l ≠ []) : ∃ g o, A = some ⟨g, o, none⟩ ∧ Rd w (some ⟨g, o, none⟩) (bv l) ∧ g < w.heap.size := by
  obtain ⟨A', c', e, h1, h2, h3⟩ := h
  injection e with e1 e2 e3
  subst e1
  have h0 : 0 < l.length := List.length_pos_iff.2 hl
  obtain ⟨ad, rfl, _⟩ := h2.at_ (i := 0) (by rw [bv_length]; exact h0)
  have hsp := h3 ad rfl hl
  obtain ⟨g, o, sp⟩ := ad
  simp only at hsp
  subst hsp
  exact ⟨g, o, rfl, h2, h2.lt (by rw [bv_length]; exact h0)⟩
theorem brd_sl {w : World} {g o : Nat} {l : List UInt8} (hr : Rd w (some ⟨g, o, none⟩) (bv l)) (k m C : Nat) (hk : k ≤ m) (hm : m ≤ l.length) (hC : m - k ≤ C) : BRd w (.slice (some ⟨g, o + k, none⟩) (m - k) C) ((l.take m).drop k) := by
  have hl : ((l.take m).drop k).length = m - k := by simp; omega
  have h2 : Rd w (some ⟨g, o, none⟩) (bv (l.take m)) := by rw [← bv_take]; exact hr.take m
  have h3 := rd_add h2 k
  rw [bv_drop] at h3
  refine ⟨some ⟨g, o + k, none⟩, C, by rw [hl], by rw [hl]; exact hC, ?_, fun ad h _ => by cases h; rfl⟩
  simpa [add_plain] using h3
theorem refsum' (v : Value) (l : List UInt8) (w : World) (hv : BRd w v l) (hl : l.length ≤ 9223372036854775800) :
    Calls Try.prog 50 #[v] w fun e w' => e = .returned (.int .u32 (Crc.crc l : Nat)) ∧ w' = w := Crc.refsum_ok v l w hv hl
set_option maxHeartbeats 8000000 in
set_option maxRecDepth 100000 in
theorem refsound_ok (v : Value) (b : List UInt8) (w : World) (hv : BRd w v b) (hl : b.length ≤ 140737488351232) :
    Calls Try.prog 56 #[v] w fun e w' => e = .returned (.bool (snd b)) ∧ Below w.heap.size w w' := by
  have HV := Lib.hid hv
  obtain ⟨A, c, rfl, hc, _, _⟩ := hv
  by_cases h256 : b.length = 256
  · obtain ⟨g, o, rfl, hr, hgl⟩ := brd_cut HV.out (by intro e; rw [e] at h256; simp at h256)
    have hs1 := brd_sl hr 252 b.length (c - 252) (by omega) (by omega) (by omega)
    have hs2 := brd_sl hr 0 252 c (by omega) (by omega) (by omega)
    rw [Nat.add_zero, List.drop_zero] at hs2
    rw [List.take_length] at hs1
    have l1 : (b.drop 252).length ≤ 7 := by rw [List.length_drop]; omega
    have l2 : (b.take 252).length = 252 := by rw [List.length_take]; omega
    have hg := fun (W : World) (hb : Below w.heap.size w W) => refget_ok _ _ W (hs1.below hb) l1
    have hm := fun (W : World) (hb : Below w.heap.size w W) => refsum' _ _ W (hs2.below hb) (by omega)
    have hcl := crc_lt (b.take 252)
    rw [snd_of h256]
    have b1 : 252 ≤ b.length := by omega
    have b2 : 252 < c := by omega
    have b3 : (252 : Int) ≤ b.length := by omega
    have b4 : (252 : Int) < c := by omega
    have b7 : (252 : Int) ≤ c := by omega
    have b5 : (b.length : Int) ≤ c := by omega
    have b6 : ¬ (c = 252) := by omega
    have e1 : ((b.length : Int) == 256) = true := by rw [beq_iff_eq]; omega
    have e2 : decide ((b.length : Int) = 256) = true := decide_eq_true (by omega)
    generalize getB (b.drop 252) = G at *
    generalize Crc.crc (b.take 252) = C at *
    have HG := Lib.hid (And.intro hg hm); clear hg hm hs1 hs2 hr HV l1 l2 h256
    have e3 : (((G : Nat) : Int) == ((C : Nat) : Int)) = (G == C) := by rw [Bool.eq_iff_iff]; simp; omega
    have kC : IntKind.i64.wrap (C : Int) = C := by rw [IntKind.wrap_i64]; omega
    have HE := Lib.hid e3; clear e3
    go_enter Try.func56, Try.ntmps56
    go_wp2_with fail
    refine wp_region_held_drew (S := fun W => Below w.heap.size w W) (by kernel_rfl) below_drew1 (fun hHeld0 => ?_)
    generalize (World.drew w) = W0 at *
    refine wpAnyH_take (i := 0) (v := ?_) rfl (by kernel_rfl) (by kernel_rfl) (by kernel_rfl) (fun _ _ _ h => h) (Or.inl ⟨by kernel_rfl, ?_⟩) (by assumption) ?_; rotate_left; (focus (intro w hSw; (try dsimp only at hSw); go_simp; (try with_reducible rfl); done)); (try simp only [Act.put, List.getElem_toArray, List.getElem_cons_succ, List.getElem_cons_zero, List.setIfInBounds_toArray, List.set_cons_zero, List.set_cons_succ])
    refine wpAnyH_take (i := 1) (v := ?_) rfl (by kernel_rfl) (by kernel_rfl) (by kernel_rfl) (fun _ _ _ h => h) (Or.inl ⟨by kernel_rfl, ?_⟩) (by assumption) ?_; rotate_left; (focus (intro w hSw; (try dsimp only at hSw); go_simp; (try with_reducible rfl); done)); (try simp only [Act.put, List.getElem_toArray, List.getElem_cons_succ, List.getElem_cons_zero, List.setIfInBounds_toArray, List.set_cons_zero, List.set_cons_succ])
    refine wpAnyH_take (i := 2) (v := ?_) rfl (by kernel_rfl) (by kernel_rfl) (by kernel_rfl) (fun _ _ _ h => h) (Or.inl ⟨by kernel_rfl, ?_⟩) (by assumption) ?_; rotate_left; (focus (intro w hSw; (try dsimp only at hSw); go_simp; (try with_reducible rfl); done)); (try simp only [Act.put, List.getElem_toArray, List.getElem_cons_succ, List.getElem_cons_zero, List.setIfInBounds_toArray, List.set_cons_zero, List.set_cons_succ])
    refine wpAnyH_take (i := 3) (v := ?_) rfl (by kernel_rfl) (by kernel_rfl) (by kernel_rfl) (fun _ _ _ h => h) (Or.inl ⟨by kernel_rfl, ?_⟩) (by assumption) ?_; rotate_left; (focus (intro w hSw; (try dsimp only at hSw); go_simp; (try with_reducible rfl); done)); (try simp only [Act.put, List.getElem_toArray, List.getElem_cons_succ, List.getElem_cons_zero, List.setIfInBounds_toArray, List.set_cons_zero, List.set_cons_succ])
    refine wpAnyH_take (i := 4) (v := ?_) rfl (by kernel_rfl) (by kernel_rfl) (by kernel_rfl) (fun _ _ _ h => h) (Or.inl ⟨by kernel_rfl, ?_⟩) (by assumption) ?_; rotate_left; (focus (intro w hSw; (try dsimp only at hSw); go_simp; (try with_reducible rfl); done)); (try simp only [Act.put, List.getElem_toArray, List.getElem_cons_succ, List.getElem_cons_zero, List.setIfInBounds_toArray, List.set_cons_zero, List.set_cons_succ])
    refine wpAnyH_take (i := 5) (v := ?_) rfl (by kernel_rfl) (by kernel_rfl) (by kernel_rfl) (fun _ _ _ h => h) (Or.inl ⟨by kernel_rfl, ?_⟩) (by assumption) ?_; rotate_left; (focus (intro w hSw; (try dsimp only at hSw); go_simp; (try with_reducible rfl); done)); (try simp only [Act.put, List.getElem_toArray, List.getElem_cons_succ, List.getElem_cons_zero, List.setIfInBounds_toArray, List.set_cons_zero, List.set_cons_succ])
    refine wpAnyH_take (i := 7) (v := ?_) rfl (by kernel_rfl) (by kernel_rfl) (by kernel_rfl) (fun _ _ _ h => h) (Or.inl ⟨by kernel_rfl, ?_⟩) (by assumption) ?_; rotate_left; (focus (intro w hSw; (try dsimp only at hSw); go_simp; (try with_reducible rfl); done)); (try simp only [Act.put, List.getElem_toArray, List.getElem_cons_succ, List.getElem_cons_zero, List.setIfInBounds_toArray, List.set_cons_zero, List.set_cons_succ])
    refine wpAnyH_take (i := 8) (v := ?_) rfl (by kernel_rfl) (by kernel_rfl) (by kernel_rfl) (fun _ _ _ h => h) (Or.inl ⟨by kernel_rfl, ?_⟩) (by assumption) ?_; rotate_left; (focus (intro w hSw; (try dsimp only at hSw); go_simp; (try with_reducible rfl); done)); (try simp only [Act.put, List.getElem_toArray, List.getElem_cons_succ, List.getElem_cons_zero, List.setIfInBounds_toArray, List.set_cons_zero, List.set_cons_succ])
    refine wpAnyH_ready (rs := [6]) (by kernel_rfl) (by simp) ?_
    refine AllReadyH.cons rfl (fun K hK => ?_) AllReadyH.nil
    (try simp only [List.getElem_toArray, List.getElem_cons_succ, List.getElem_cons_zero])
    go_simp

    (with_reducible refine (HG.out.1 _ hHeld0).mono ?_); rintro e w5 ⟨rfl, rfl⟩
    refine hK.out _ _ (hHeld0) (fun hHeld => ?_)
    clear hK K
    (try simp only [Act.put, List.getElem_toArray, List.getElem_cons_succ, List.getElem_cons_zero, List.setIfInBounds_toArray, List.set_cons_zero, List.set_cons_succ])
    refine wpAnyH_ready (rs := [9]) (by kernel_rfl) (by simp) ?_
    refine AllReadyH.cons rfl (fun K hK => ?_) AllReadyH.nil
    (try simp only [List.getElem_toArray, List.getElem_cons_succ, List.getElem_cons_zero])
    go_simp

    (with_reducible refine (HG.out.2 _ hHeld0).mono ?_); rintro e w6 ⟨rfl, rfl⟩
    refine hK.out _ _ (hHeld0) (fun hHeld => ?_)
    clear hK K
    (try simp only [Act.put, List.getElem_toArray, List.getElem_cons_succ, List.getElem_cons_zero, List.setIfInBounds_toArray, List.set_cons_zero, List.set_cons_succ])
    refine wpAnyH_take (i := 10) (v := ?_) rfl (by kernel_rfl) (by kernel_rfl) (by kernel_rfl) (fun _ _ _ h => h) (Or.inl ⟨by kernel_rfl, ?_⟩) (by assumption) ?_; rotate_left; (focus (intro w hSw; (try dsimp only at hSw); go_simp; (try with_reducible rfl); done)); (try simp only [Act.put, List.getElem_toArray, List.getElem_cons_succ, List.getElem_cons_zero, List.setIfInBounds_toArray, List.set_cons_zero, List.set_cons_succ])
    refine wpAnyH_take (i := 11) (v := ?_) rfl (by kernel_rfl) (by kernel_rfl) (by kernel_rfl) (fun _ _ _ h => h) (Or.inl ⟨by kernel_rfl, ?_⟩) (by assumption) ?_; rotate_left; (focus (intro w hSw; (try dsimp only at hSw); go_simp; (try with_reducible rfl); done)); (try simp only [Act.put, List.getElem_toArray, List.getElem_cons_succ, List.getElem_cons_zero, List.setIfInBounds_toArray, List.set_cons_zero, List.set_cons_succ])
    refine wpAnyH_take (i := 12) (v := ?_) rfl (by kernel_rfl) (by kernel_rfl) (by kernel_rfl) (fun _ _ _ h => h) (Or.inl ⟨by kernel_rfl, ?_⟩) (by assumption) ?_; rotate_left; (focus (intro w hSw; (try dsimp only at hSw); go_simp; (try with_reducible rfl); done)); (try simp only [Act.put, List.getElem_toArray, List.getElem_cons_succ, List.getElem_cons_zero, List.setIfInBounds_toArray, List.set_cons_zero, List.set_cons_succ])
    refine wpAnyH_take (i := 13) (v := ?_) rfl (by kernel_rfl) (by kernel_rfl) (by kernel_rfl) (fun _ _ _ h => h) (Or.inl ⟨by kernel_rfl, ?_⟩) (by assumption) ?_; rotate_left; (focus (intro w hSw; (try dsimp only at hSw); go_simp; (try with_reducible rfl); done)); (try simp only [Act.put, List.getElem_toArray, List.getElem_cons_succ, List.getElem_cons_zero, List.setIfInBounds_toArray, List.set_cons_zero, List.set_cons_succ])
    refine wpAnyH_done (by kernel_rfl) ?_ _
    go_wp2
    go_ret
    exact ⟨ret_bool HE.out, hHeld0⟩
  · rw [snd_len h256]
    have e1 : ((b.length : Int) == 256) = false := by rw [beq_eq_false_iff_ne]; omega
    have e2 : decide ((b.length : Int) = 256) = false := decide_eq_false (by omega)
    go_enter Try.func56, Try.ntmps56
    go_wp2_with fail
    go_quiet (fail)
    go_wp2
    go_ret
    exact ⟨rfl, below_drewN _⟩
theorem slAt_blk {w : World} {gq : Nat} {v : Value} {l : List UInt8} (hq : w.heap[gq]? = some (.cells #[v] 24 (0, 0))) (h : BRd w v l) : Crc.SlAt w (.slice (some ⟨gq, 0, none⟩) 1 1) [l] :=
  ⟨_, 1, rfl, fun i hi => by
    have : i = 0 := by simp at hi; omega
    subst this
    refine ⟨⟨gq, 0, none⟩, v, rfl, ?_, h⟩
    rw [add_plain, cell_block hq]; rfl⟩
theorem crcBlk {w : World} {gq : Nat} {v : Value} {l : List UInt8} (hq : w.heap[gq]? = some (.cells #[v] 24 (0, 0))) (h : BRd w v l) (hl : l.length ≤ 140737488351232) :
    Calls Try.prog 95 #[.slice (some ⟨gq, 0, none⟩) 1 1] w fun e w' => e = .returned (.int .u32 (Crc.crc l : Nat)) ∧ Below w.heap.size w w' := by
  have := Crc.of_ok _ [l] _ (slAt_blk hq h) (by simpa [Crc.total] using hl) (by simp)
  rw [show [l].flatten = l by simp] at this
  exact this
theorem inOk_take {l : List UInt8} {n : Nat} (h : l.length = n) : (inOk l).got n = l := by rw [inOk_got, if_neg (by omega), List.take_of_length_le (by omega)]
set_option maxHeartbeats 8000000 in
set_option maxRecDepth 100000 in
theorem sound_ok (v : Value) (b : List UInt8) (w : World) (hv : BRd w v b) (hl : b.length ≤ 140737488351232) :
    Calls Try.prog 96 #[v] w fun e w' => e = .returned (.bool (snd b)) ∧ Below w.heap.size w w' := by
  have HV := Lib.hid hv
  obtain ⟨A, c, rfl, hc, _, _⟩ := hv
  by_cases h256 : b.length = 256
  · obtain ⟨g, o, rfl, hr, hgl⟩ := brd_cut HV.out (by intro e; rw [e] at h256; simp at h256)
    have hs1 := brd_sl hr 252 b.length (c - 252) (by omega) (by omega) (by omega)
    have hs2 := brd_sl hr 0 252 c (by omega) (by omega) (by omega)
    rw [Nat.add_zero, List.drop_zero] at hs2
    rw [List.take_length] at hs1
    have l1 : (b.drop 252).length = 4 := by rw [List.length_drop]; omega
    have l2 : (b.take 252).length = 252 := by rw [List.length_take]; omega
    have hg := fun (W : World) (hb : Below w.heap.size w W) => open_w _ _ W (hs1.below hb) (by omega)
    have hm := fun (W : World) (gq : Nat) (hb : Below w.heap.size w W) (hq : W.heap[gq]? = some (.cells #[.slice (some ⟨g, o, none⟩) (252 - 0) c] 24 (0, 0))) => crcBlk hq (hs2.below hb) (by omega)
    have hn : (b.drop 252).length ≤ 9223372036854775807 := by omega
    have hgt : getB ((⟨true, 0, b.drop 252⟩ : InS).got (sz 4)) = getB (b.drop 252) := by rw [show sz 4 = 4 from by decide, show (⟨true, 0, b.drop 252⟩ : InS) = inOk (b.drop 252) from rfl, inOk_take l1]
    have hcl := crc_lt (b.take 252)
    rw [snd_of h256]
    have b1 : 252 ≤ b.length := by omega
    have b2 : 252 < c := by omega
    have b3 : (252 : Int) ≤ b.length := by omega
    have b4 : (252 : Int) < c := by omega
    have b7 : (252 : Int) ≤ c := by omega
    have b5 : (b.length : Int) ≤ c := by omega
    have b6 : ¬ (c = 252) := by omega
    have e1 : ((b.length : Int) != 256) = false := by rw [bne_eq_false_iff_eq]; omega
    have hGl := getB_lt (b.drop 252)
    rw [l1] at hGl
    generalize b.drop 252 = bd at *
    generalize getB bd = G at *
    generalize Crc.crc (b.take 252) = C at *
    have HG := Lib.hid (And.intro hg (And.intro hm (And.intro hn hgt))); clear hg hm hn hgt hs1 hs2 hr HV l1 l2 h256
    have e3 : (((G : Nat) : Int) == ((C : Nat) : Int)) = (G == C) := by rw [Bool.eq_iff_iff]; simp; omega
    have kC : IntKind.i64.wrap (C : Int) = C := by rw [IntKind.wrap_i64]; omega
    have HE := Lib.hid e3; clear e3
    go_enter Try.func96, Try.ntmps96
    go_wp2_with fail
    refine wp_region_held_drew (S := fun W => Below w.heap.size w W) (by kernel_rfl) below_drew1 (fun hHeld0 => ?_)
    have Hb := Lib.hid hHeld0
    generalize (World.drew w) = Wc at *
    refine wpAnyH_take (i := 0) (v := ?_) rfl (by kernel_rfl) (by kernel_rfl) (by kernel_rfl) (fun _ _ _ h => h) (Or.inl ⟨by kernel_rfl, ?_⟩) (by assumption) ?_; rotate_left; (focus (intro w hSw; (try dsimp only at hSw); go_simp; (try with_reducible rfl); done)); (try simp only [Act.put, List.getElem_toArray, List.getElem_cons_succ, List.getElem_cons_zero, List.setIfInBounds_toArray, List.set_cons_zero, List.set_cons_succ])
    refine wpAnyH_take (i := 1) (v := ?_) rfl (by kernel_rfl) (by kernel_rfl) (by kernel_rfl) (fun _ _ _ h => h) (Or.inl ⟨by kernel_rfl, ?_⟩) (by assumption) ?_; rotate_left; (focus (intro w hSw; (try dsimp only at hSw); go_simp; (try with_reducible rfl); done)); (try simp only [Act.put, List.getElem_toArray, List.getElem_cons_succ, List.getElem_cons_zero, List.setIfInBounds_toArray, List.set_cons_zero, List.set_cons_succ])
    refine wpAnyH_take (i := 4) (v := ?_) rfl (by kernel_rfl) (by kernel_rfl) (by kernel_rfl) (fun _ _ _ h => h) (Or.inl ⟨by kernel_rfl, ?_⟩) (by assumption) ?_; rotate_left; (focus (intro w hSw; (try dsimp only at hSw); go_simp; (try with_reducible rfl); done)); (try simp only [Act.put, List.getElem_toArray, List.getElem_cons_succ, List.getElem_cons_zero, List.setIfInBounds_toArray, List.set_cons_zero, List.set_cons_succ])
    refine wpAnyH_take (i := 5) (v := ?_) rfl (by kernel_rfl) (by kernel_rfl) (by kernel_rfl) (fun _ _ _ h => h) (Or.inl ⟨by kernel_rfl, ?_⟩) (by assumption) ?_; rotate_left; (focus (intro w hSw; (try dsimp only at hSw); go_simp; (try with_reducible rfl); done)); (try simp only [Act.put, List.getElem_toArray, List.getElem_cons_succ, List.getElem_cons_zero, List.setIfInBounds_toArray, List.set_cons_zero, List.set_cons_succ])
    refine wpAnyH_ready (rs := [2, 6]) (by kernel_rfl) (by simp) ?_
    refine AllReadyH.cons rfl (fun K hK => ?_) (AllReadyH.cons rfl (fun K hK => ?_) AllReadyH.nil)
    · go_simp
      (with_reducible refine (HG.out.1 _ Hb.out).mono ?_); rintro e Wd ⟨p, rfl, hI, hb⟩
      have HI := Lib.hid hI
      have HbO := Lib.hid Hb.out
      have Hb' := Lib.hid (below_up Hb.out hb)
      clear hI hb
      refine hK.out _ _ (Hb'.out) (fun hHeld => ?_)
      clear hK K hHeld0
      have hHeld0 := hHeld; clear hHeld
      clear Hb
      have Hb := Hb'; clear Hb'
      obtain ⟨Wc, rfl⟩ : ∃ W, W = Wd := ⟨_, rfl⟩
      (try simp only [Act.put, List.getElem_toArray, List.getElem_cons_succ, List.getElem_cons_zero, List.setIfInBounds_toArray, List.set_cons_zero, List.set_cons_succ])
      refine wpAnyH_ready (rs := [3, 6]) (by kernel_rfl) (by simp) ?_
      refine AllReadyH.cons rfl (fun K hK => ?_) (AllReadyH.cons rfl (fun K hK => ?_) AllReadyH.nil)
      · go_simp
        (with_reducible refine (HI.out.num 4 HG.out.2.2.1).mono ?_); rintro e Wd ⟨rfl, hI, hK⟩
        rw [HG.out.2.2.2]
        have Hb' := Lib.hid (below_up HbO.out hI.bel)
        clear hI hK
        refine hK.out _ _ (Hb'.out) (fun hHeld => ?_)
        clear hK K hHeld0
        have hHeld0 := hHeld; clear hHeld
        clear Hb HI
        have Hb := Hb'; clear Hb'
        obtain ⟨Wc, rfl⟩ : ∃ W, W = Wd := ⟨_, rfl⟩
        (try simp only [Act.put, List.getElem_toArray, List.getElem_cons_succ, List.getElem_cons_zero, List.setIfInBounds_toArray, List.set_cons_zero, List.set_cons_succ])
        refine wpAnyH_ready (rs := [6]) (by kernel_rfl) (by simp) ?_
        refine AllReadyH.cons rfl (fun K hK => ?_) AllReadyH.nil
        go_simp
        have Hq' := Lib.hid (alloc_at (w := Wc) (.cells #[(.slice (some ⟨g, o, none⟩) 252 c)] 24) rfl)
        have Hb' := Lib.hid (below_alloc Hb.out (.cells #[(.slice (some ⟨g, o, none⟩) 252 c)] 24))
        refine hK.out _ _ (Hb'.out) (fun hHeld => ?_)
        clear hK K hHeld0
        have hHeld0 := hHeld; clear hHeld
        clear Hb
        have Hq := Hq'; have Hb := Hb'; clear Hq' Hb'
        generalize (World.alloc Wc _) = Wd at *
        obtain ⟨Wc, rfl⟩ : ∃ W, W = Wd := ⟨_, rfl⟩
        (try simp only [Act.put, List.getElem_toArray, List.getElem_cons_succ, List.getElem_cons_zero, List.setIfInBounds_toArray, List.set_cons_zero, List.set_cons_succ])
        refine wpAnyH_ready (rs := [7]) (by kernel_rfl) (by simp) ?_
        refine AllReadyH.cons rfl (fun K hK => ?_) AllReadyH.nil
        go_simp
        (with_reducible refine (HG.out.2.1 _ _ Hb.out Hq.out).mono ?_); rintro e Wd ⟨rfl, hb⟩
        have Hb' := Lib.hid (below_up Hb.out hb)
        clear hb
        refine hK.out _ _ (Hb'.out) (fun hHeld => ?_)
        clear hK K hHeld0
        have hHeld0 := hHeld; clear hHeld
        clear Hb Hq
        have Hb := Hb'; clear Hb'
        (try simp only [Act.put, List.getElem_toArray, List.getElem_cons_succ, List.getElem_cons_zero, List.setIfInBounds_toArray, List.set_cons_zero, List.set_cons_succ])
        refine wpAnyH_take (i := 8) (v := ?_) rfl (by kernel_rfl) (by kernel_rfl) (by kernel_rfl) (fun _ _ _ h => h) (Or.inl ⟨by kernel_rfl, ?_⟩) (by assumption) ?_; rotate_left; (focus (intro w hSw; (try dsimp only at hSw); go_simp; (try with_reducible rfl); done)); (try simp only [Act.put, List.getElem_toArray, List.getElem_cons_succ, List.getElem_cons_zero, List.setIfInBounds_toArray, List.set_cons_zero, List.set_cons_succ])
        refine wpAnyH_take (i := 9) (v := ?_) rfl (by kernel_rfl) (by kernel_rfl) (by kernel_rfl) (fun _ _ _ h => h) (Or.inl ⟨by kernel_rfl, ?_⟩) (by assumption) ?_; rotate_left; (focus (intro w hSw; (try dsimp only at hSw); go_simp; (try with_reducible rfl); done)); (try simp only [Act.put, List.getElem_toArray, List.getElem_cons_succ, List.getElem_cons_zero, List.setIfInBounds_toArray, List.set_cons_zero, List.set_cons_succ])
        refine wpAnyH_take (i := 10) (v := ?_) rfl (by kernel_rfl) (by kernel_rfl) (by kernel_rfl) (fun _ _ _ h => h) (Or.inl ⟨by kernel_rfl, ?_⟩) (by assumption) ?_; rotate_left; (focus (intro w hSw; (try dsimp only at hSw); go_simp; (try with_reducible rfl); done)); (try simp only [Act.put, List.getElem_toArray, List.getElem_cons_succ, List.getElem_cons_zero, List.setIfInBounds_toArray, List.set_cons_zero, List.set_cons_succ])
        refine wpAnyH_done (by kernel_rfl) ?_ _
        go_wp2
        go_ret
        exact ⟨ret_bool HE.out, Hb.out⟩
      · go_simp
        have Hq' := Lib.hid (alloc_at (w := Wc) (.cells #[(.slice (some ⟨g, o, none⟩) 252 c)] 24) rfl)
        have Hb' := Lib.hid (below_alloc Hb.out (.cells #[(.slice (some ⟨g, o, none⟩) 252 c)] 24))
        have HI' := Lib.hid (HI.out.up (below_alloc1 Wc (.cells #[(.slice (some ⟨g, o, none⟩) 252 c)] 24)))
        refine hK.out _ _ (Hb'.out) (fun hHeld => ?_)
        clear hK K hHeld0
        have hHeld0 := hHeld; clear hHeld
        clear Hb HI
        have Hq := Hq'; have Hb := Hb'; clear Hq' Hb'
        have HI := HI'; clear HI'
        generalize (World.alloc Wc _) = Wd at *
        obtain ⟨Wc, rfl⟩ : ∃ W, W = Wd := ⟨_, rfl⟩
        (try simp only [Act.put, List.getElem_toArray, List.getElem_cons_succ, List.getElem_cons_zero, List.setIfInBounds_toArray, List.set_cons_zero, List.set_cons_succ])
        refine wpAnyH_ready (rs := [3]) (by kernel_rfl) (by simp) ?_
        refine AllReadyH.cons rfl (fun K hK => ?_) AllReadyH.nil
        go_simp
        (with_reducible refine (HI.out.num 4 HG.out.2.2.1).mono ?_); rintro e Wd ⟨rfl, hI, hK⟩
        rw [HG.out.2.2.2]
        have Hb' := Lib.hid (below_up HbO.out hI.bel)
        have Hq' := Lib.hid (hK.2 _ _ _ _ Hq.out (by decide))
        clear hI hK
        refine hK.out _ _ (Hb'.out) (fun hHeld => ?_)
        clear hK K hHeld0
        have hHeld0 := hHeld; clear hHeld
        clear Hb HI
        have Hb := Hb'; clear Hb'
        clear Hq
        have Hq := Hq'; clear Hq'
        obtain ⟨Wc, rfl⟩ : ∃ W, W = Wd := ⟨_, rfl⟩
        (try simp only [Act.put, List.getElem_toArray, List.getElem_cons_succ, List.getElem_cons_zero, List.setIfInBounds_toArray, List.set_cons_zero, List.set_cons_succ])
        refine wpAnyH_ready (rs := [7]) (by kernel_rfl) (by simp) ?_
        refine AllReadyH.cons rfl (fun K hK => ?_) AllReadyH.nil
        go_simp
        (with_reducible refine (HG.out.2.1 _ _ Hb.out Hq.out).mono ?_); rintro e Wd ⟨rfl, hb⟩
        have Hb' := Lib.hid (below_up Hb.out hb)
        clear hb
        refine hK.out _ _ (Hb'.out) (fun hHeld => ?_)
        clear hK K hHeld0
        have hHeld0 := hHeld; clear hHeld
        clear Hb Hq
        have Hb := Hb'; clear Hb'
        (try simp only [Act.put, List.getElem_toArray, List.getElem_cons_succ, List.getElem_cons_zero, List.setIfInBounds_toArray, List.set_cons_zero, List.set_cons_succ])
        refine wpAnyH_take (i := 8) (v := ?_) rfl (by kernel_rfl) (by kernel_rfl) (by kernel_rfl) (fun _ _ _ h => h) (Or.inl ⟨by kernel_rfl, ?_⟩) (by assumption) ?_; rotate_left; (focus (intro w hSw; (try dsimp only at hSw); go_simp; (try with_reducible rfl); done)); (try simp only [Act.put, List.getElem_toArray, List.getElem_cons_succ, List.getElem_cons_zero, List.setIfInBounds_toArray, List.set_cons_zero, List.set_cons_succ])
        refine wpAnyH_take (i := 9) (v := ?_) rfl (by kernel_rfl) (by kernel_rfl) (by kernel_rfl) (fun _ _ _ h => h) (Or.inl ⟨by kernel_rfl, ?_⟩) (by assumption) ?_; rotate_left; (focus (intro w hSw; (try dsimp only at hSw); go_simp; (try with_reducible rfl); done)); (try simp only [Act.put, List.getElem_toArray, List.getElem_cons_succ, List.getElem_cons_zero, List.setIfInBounds_toArray, List.set_cons_zero, List.set_cons_succ])
        refine wpAnyH_take (i := 10) (v := ?_) rfl (by kernel_rfl) (by kernel_rfl) (by kernel_rfl) (fun _ _ _ h => h) (Or.inl ⟨by kernel_rfl, ?_⟩) (by assumption) ?_; rotate_left; (focus (intro w hSw; (try dsimp only at hSw); go_simp; (try with_reducible rfl); done)); (try simp only [Act.put, List.getElem_toArray, List.getElem_cons_succ, List.getElem_cons_zero, List.setIfInBounds_toArray, List.set_cons_zero, List.set_cons_succ])
        refine wpAnyH_done (by kernel_rfl) ?_ _
        go_wp2
        go_ret
        exact ⟨ret_bool HE.out, Hb.out⟩
    · go_simp
      have Hq' := Lib.hid (alloc_at (w := Wc) (.cells #[(.slice (some ⟨g, o, none⟩) 252 c)] 24) rfl)
      have Hb' := Lib.hid (below_alloc Hb.out (.cells #[(.slice (some ⟨g, o, none⟩) 252 c)] 24))
      refine hK.out _ _ (Hb'.out) (fun hHeld => ?_)
      clear hK K hHeld0
      have hHeld0 := hHeld; clear hHeld
      clear Hb
      have Hq := Hq'; have Hb := Hb'; clear Hq' Hb'
      generalize (World.alloc Wc _) = Wd at *
      obtain ⟨Wc, rfl⟩ : ∃ W, W = Wd := ⟨_, rfl⟩
      (try simp only [Act.put, List.getElem_toArray, List.getElem_cons_succ, List.getElem_cons_zero, List.setIfInBounds_toArray, List.set_cons_zero, List.set_cons_succ])
      refine wpAnyH_ready (rs := [2]) (by kernel_rfl) (by simp) ?_
      refine AllReadyH.cons rfl (fun K hK => ?_) AllReadyH.nil
      go_simp
      (with_reducible refine (HG.out.1 _ Hb.out).mono ?_); rintro e Wd ⟨p, rfl, hI, hb⟩
      have HI := Lib.hid hI
      have HbO := Lib.hid Hb.out
      have Hb' := Lib.hid (below_up Hb.out hb)
      have Hq' := Lib.hid (block_up Hq.out hb)
      clear hI hb
      refine hK.out _ _ (Hb'.out) (fun hHeld => ?_)
      clear hK K hHeld0
      have hHeld0 := hHeld; clear hHeld
      clear Hb
      have Hb := Hb'; clear Hb'
      clear Hq
      have Hq := Hq'; clear Hq'
      obtain ⟨Wc, rfl⟩ : ∃ W, W = Wd := ⟨_, rfl⟩
      (try simp only [Act.put, List.getElem_toArray, List.getElem_cons_succ, List.getElem_cons_zero, List.setIfInBounds_toArray, List.set_cons_zero, List.set_cons_succ])
      refine wpAnyH_ready (rs := [3]) (by kernel_rfl) (by simp) ?_
      refine AllReadyH.cons rfl (fun K hK => ?_) AllReadyH.nil
      go_simp
      (with_reducible refine (HI.out.num 4 HG.out.2.2.1).mono ?_); rintro e Wd ⟨rfl, hI, hK⟩
      rw [HG.out.2.2.2]
      have Hb' := Lib.hid (below_up HbO.out hI.bel)
      have Hq' := Lib.hid (hK.2 _ _ _ _ Hq.out (by decide))
      clear hI hK
      refine hK.out _ _ (Hb'.out) (fun hHeld => ?_)
      clear hK K hHeld0
      have hHeld0 := hHeld; clear hHeld
      clear Hb HI
      have Hb := Hb'; clear Hb'
      clear Hq
      have Hq := Hq'; clear Hq'
      obtain ⟨Wc, rfl⟩ : ∃ W, W = Wd := ⟨_, rfl⟩
      (try simp only [Act.put, List.getElem_toArray, List.getElem_cons_succ, List.getElem_cons_zero, List.setIfInBounds_toArray, List.set_cons_zero, List.set_cons_succ])
      refine wpAnyH_ready (rs := [7]) (by kernel_rfl) (by simp) ?_
      refine AllReadyH.cons rfl (fun K hK => ?_) AllReadyH.nil
      go_simp
      (with_reducible refine (HG.out.2.1 _ _ Hb.out Hq.out).mono ?_); rintro e Wd ⟨rfl, hb⟩
      have Hb' := Lib.hid (below_up Hb.out hb)
      clear hb
      refine hK.out _ _ (Hb'.out) (fun hHeld => ?_)
      clear hK K hHeld0
      have hHeld0 := hHeld; clear hHeld
      clear Hb Hq
      have Hb := Hb'; clear Hb'
      (try simp only [Act.put, List.getElem_toArray, List.getElem_cons_succ, List.getElem_cons_zero, List.setIfInBounds_toArray, List.set_cons_zero, List.set_cons_succ])
      refine wpAnyH_take (i := 8) (v := ?_) rfl (by kernel_rfl) (by kernel_rfl) (by kernel_rfl) (fun _ _ _ h => h) (Or.inl ⟨by kernel_rfl, ?_⟩) (by assumption) ?_; rotate_left; (focus (intro w hSw; (try dsimp only at hSw); go_simp; (try with_reducible rfl); done)); (try simp only [Act.put, List.getElem_toArray, List.getElem_cons_succ, List.getElem_cons_zero, List.setIfInBounds_toArray, List.set_cons_zero, List.set_cons_succ])
      refine wpAnyH_take (i := 9) (v := ?_) rfl (by kernel_rfl) (by kernel_rfl) (by kernel_rfl) (fun _ _ _ h => h) (Or.inl ⟨by kernel_rfl, ?_⟩) (by assumption) ?_; rotate_left; (focus (intro w hSw; (try dsimp only at hSw); go_simp; (try with_reducible rfl); done)); (try simp only [Act.put, List.getElem_toArray, List.getElem_cons_succ, List.getElem_cons_zero, List.setIfInBounds_toArray, List.set_cons_zero, List.set_cons_succ])
      refine wpAnyH_take (i := 10) (v := ?_) rfl (by kernel_rfl) (by kernel_rfl) (by kernel_rfl) (fun _ _ _ h => h) (Or.inl ⟨by kernel_rfl, ?_⟩) (by assumption) ?_; rotate_left; (focus (intro w hSw; (try dsimp only at hSw); go_simp; (try with_reducible rfl); done)); (try simp only [Act.put, List.getElem_toArray, List.getElem_cons_succ, List.getElem_cons_zero, List.setIfInBounds_toArray, List.set_cons_zero, List.set_cons_succ])
      refine wpAnyH_done (by kernel_rfl) ?_ _
      go_wp2
      go_ret
      exact ⟨ret_bool HE.out, Hb.out⟩
  · rw [snd_len h256]
    have e1 : ((b.length : Int) != 256) = true := by rw [bne_iff_ne]; omega
    go_enter Try.func96, Try.ntmps96
    go_wp2
    go_ret
    exact ⟨rfl, Below.refl _ _⟩
end Go.Proofs.Ytjhhknkhgilecaa.Fm
