/- The walk over croftplain.Once. -/
import Derived.Test.YtdomngpkahgoiaaPtC
import Derived.Test.YtdomngpkahgoiaaSl
import Derived.Test.YtdomngpkahgoiaaIv
import Derived.Deep.RegionLaw
import Derived.Deep.DeepCutAuto
import Derived.Deep.RegionHeld3
namespace Go.Proofs.Ytdomngpkahgoiaa.Pt
open Go.RowKit
set_option linter.unusedVariables false
set_option linter.unusedSimpArgs false
abbrev PRd (w : World) (v : Value) (l : List PtS) : Prop := SRd 4 PtS.cells w v l
/-- One step of 'Once'. -/
def onceS (m : Nat) (o : List PtS) (p : PtS) : List PtS := if o.length < m ∧ p.chk = 0 ∧ ¬ p.id ∈ o.map PtS.id then o ++ [p] else o
def onceL (m : Nat) (l : List PtS) : List PtS := l.foldl (onceS m) []
theorem once_succ (m : Nat) (l : List PtS) (k : Nat) (h : k < l.length) : onceL m (l.take (k + 1)) = onceS m (onceL m (l.take k)) l[k] := by
  unfold onceL; rw [List.take_succ_eq_append_getElem h, List.foldl_append]; rfl
theorem once_stop (m : Nat) : ∀ (l o : List PtS), m ≤ o.length → l.foldl (onceS m) o = o
  | [], _, _ => rfl
  | p :: l, o, h => by
    rw [List.foldl_cons]
    have e : onceS m o p = o := by unfold onceS; rw [if_neg (fun q => by omega)]
    rw [e, once_stop m l o h]
theorem once_full (m : Nat) (l : List PtS) (k : Nat) (h : m ≤ (onceL m (l.take k)).length) : onceL m l = onceL m (l.take k) := by
  conv => lhs; rw [← List.take_append_drop k l]
  unfold onceL at *
  rw [List.foldl_append, once_stop m _ _ h]
theorem once_le (m : Nat) : ∀ (l o : List PtS), o.length ≤ m → (l.foldl (onceS m) o).length ≤ m
  | [], _, h => h
  | p :: l, o, h => by
    rw [List.foldl_cons]
    refine once_le m l _ ?_
    unfold onceS
    split
    · simp; omega
    · exact h
theorem onceL_le (m : Nat) (l : List PtS) : (onceL m l).length ≤ m := once_le m l [] (by simp)
theorem once_all (m : Nat) (Q : PtS → Prop) : ∀ (l o : List PtS), (∀ p ∈ l, Q p) → (∀ p ∈ o, Q p) → ∀ p ∈ l.foldl (onceS m) o, Q p
  | [], _, _, h => h
  | p :: l, o, hl, ho => by
    rw [List.foldl_cons]
    refine once_all m Q l _ (fun q hq => hl q (by simp [hq])) ?_
    unfold onceS
    split
    · intro q hq
      rcases List.mem_append.1 hq with h | h
      · exact ho q h
      · rw [List.mem_singleton.1 h]; exact hl p (by simp)
    · exact ho
theorem once_chk (m : Nat) : ∀ (l o : List PtS), (∀ p ∈ o, p.chk = 0) → ∀ p ∈ l.foldl (onceS m) o, p.chk = 0
  | [], _, h => h
  | p :: l, o, ho => by
    rw [List.foldl_cons]
    refine once_chk m l _ ?_
    unfold onceS
    split
    · rename_i h
      intro q hq
      rcases List.mem_append.1 hq with h2 | h2
      · exact ho q h2
      · rw [List.mem_singleton.1 h2]; exact h.2.1
    · exact ho
theorem info_ptA : (Try.prog.info? 56).map (fun i => (i.zero, i.size, i.bytes)) = some (some (.agg #[.int .i64 0, .int .u32 0, .int .u32 0, .string ⟨#[]⟩]), 4, 32) := by kernel_rfl
theorem own_grown2 {w w1 : World} {base n base' n' size size' : Nat} {e e' : TypeId} {v v' : Value} {xs xs' : List Value} (h : w.ownsRow base e size v n xs) (h2 : w.ownsRow base' e' size' v' n' xs') (hg : w.grownBy w1 v'.ownBlock) (hne : e ≠ e') : w1.ownsRow base e size v n xs :=
  own_move h fun k hk => hg.block k (own_lt h k hk) (fun q => by
    obtain ⟨c1, hc1⟩ := own_typed h k hk
    exact own_ne_block h2 hc1 (Ne.symm hne) q.symm)
theorem blk_grown {w w1 : World} {base' n' size' : Nat} {e' t : TypeId} {v' : Value} {xs' : List Value} {g : Nat} {cs : Array Value} {f : Nat × Nat} (h : w.heap[g]? = some (.cells cs t f)) (h2 : w.ownsRow base' e' size' v' n' xs') (hg : w.grownBy w1 v'.ownBlock) (hne : e' ≠ t) : w1.heap[g]? = some (.cells cs t f) :=
  (hg.block g (Array.getElem?_eq_some_iff.1 h).1 (fun q => own_ne_block h2 h hne q.symm)).trans h
theorem rd_blk {w : World} {g : Nat} {cs : Array Value} {t : TypeId} {f : Nat × Nat} (h : w.heap[g]? = some (.cells cs t f)) : Rd w (some ⟨g, 0, none⟩) cs.toList := by
  have := rd_block h 0 cs.size (by omega)
  rwa [List.drop_zero, show cs.toList.take cs.size = cs.toList from List.take_of_length_le (by simp)] at this
theorem chk_false {p : PtS} (h : p.chk ≠ 0) : p.id < 1 ∨ (¬ p.id < 1 ∧ 2147483647 < p.id) ∨ (¬ p.id < 1 ∧ ¬ 2147483647 < p.id ∧ 16 < p.d.size) := by
  unfold PtS.chk at h
  by_cases h1 : p.id < 1
  · exact .inl h1
  · by_cases h2 : 2147483647 < p.id
    · exact .inr (.inl ⟨h1, h2⟩)
    · refine .inr (.inr ⟨h1, h2, ?_⟩)
      rw [if_neg (fun q => q.elim h1 h2)] at h
      by_cases h3 : 16 < p.d.size
      · exact h3
      · rw [if_neg h3] at h; exact absurd rfl h
set_option maxHeartbeats 8000000 in
set_option maxRecDepth 100000 in
theorem once_ok (v : Value) (l : List PtS) (m : Nat) (w : World) (hv : PRd w v l) (hl : l.length ≤ 140737488355328) (hm : m ≤ 60) :
    Calls Try.prog 26 #[v, .int .i64 m] w fun e w' => ∃ x, e = .returned x ∧ w'.ownsRow w.heap.size 56 4 x (onceL m l).length ((onceL m l).flatMap PtS.cells) ∧ Below w.heap.size w w' := by
  have HV := Lib.hid hv
  obtain ⟨A, c, rfl, _, _⟩ := hv
  go_enter Try.func26, Try.ntmps26
  go_wp2_with fail
  go_loopw [5, 6, 7] (fun vo vd vi W => ∃ (k : Nat) (O : List PtS), k ≤ l.length ∧ vi = .int .i64 k ∧ onceL m (l.take k) = O ∧ W.ownsRow w.heap.size 56 4 vo O.length (O.flatMap PtS.cells) ∧ W.ownsRow w.heap.size 3 1 vd O.length (iv (O.map PtS.id)) ∧ Below w.heap.size w W) (fun _ _ vi _ => l.length - (intOf vi).toNat)
  case atStart => exact ⟨0, [], by omega, rfl, by simp [onceL], ⟨rfl, .inl ⟨rfl, rfl⟩⟩, ⟨rfl, .inl ⟨rfl, rfl⟩⟩, Below.refl _ _⟩
  obtain ⟨k, O, hk, rfl, hO, ho, hi, hbel⟩ := hrel
  have hOm : O.length ≤ m := by rw [← hO]; exact onceL_le m _
  obtain ⟨Ao, co, rfl, hco, _, _, _⟩ := own_rd ho
  obtain ⟨Ai, ci, rfl, _, _, hri, _⟩ := own_rd hi
  have hIR : IRd wr (.slice Ai O.length ci) (O.map PtS.id) := by have := ird_own hi; exact this
  have HO := Lib.hid (And.intro hO (And.intro hbel hIR))
  have Ho := Lib.hid ho
  have Hi := Lib.hid hi
  clear hO ho hi hbel hIR hri
  by_cases hlt : k < l.length
  · have d : decide ((k : Int) < l.length) = true := decide_eq_true (by omega)
    by_cases hlm : O.length < m
    · have dm : decide (O.length < m) = true := decide_eq_true hlm
      obtain ⟨g, o, rfl, _, hcc⟩ := HV.out.get PtS.cells_len (by decide) hlt
      have c0 := cell_up (hcc 0 (by decide)) HO.out.2.1
      have c1 := cell_up (hcc 1 (by decide)) HO.out.2.1
      have c2 := cell_up (hcc 2 (by decide)) HO.out.2.1
      have c3 := cell_up (hcc 3 (by decide)) HO.out.2.1
      have e0 := hcc 0 (by decide)
      have e1 := hcc 1 (by decide)
      have e2 := hcc 2 (by decide)
      have e3 := hcc 3 (by decide)
      have hs := once_succ m l k hlt
      rw [HO.out.1] at hs
      clear hcc
      generalize l[k] = x at *
      simp only [Nat.add_zero, PtS.cells, List.getElem?_cons_zero, List.getElem?_cons_succ] at c0 c1 c2 c3 e0 e1 e2 e3
      have hss : ∀ W : World, Below w.heap.size w W → (W.cell? ⟨g, o + k * 4, none⟩ = some (.int .i64 x.id) ∧ W.cell? ⟨g, o + k * 4 + 1, none⟩ = some (.int .u32 (x.x : Nat)) ∧ W.cell? ⟨g, o + k * 4 + 2, none⟩ = some (.int .u32 (x.y : Nat)) ∧ W.cell? ⟨g, o + k * 4 + 3, none⟩ = some (.string x.d)) := fun W hb => ⟨cell_up e0 hb, cell_up e1 hb, cell_up e2 hb, cell_up e3 hb⟩
      have HSS := Lib.hid hss
      clear hss e0 e1 e2 e3
      have HS := Lib.hid hs; clear hs
      have hin := fun (W : World) (hb : Below wr.heap.size wr W) => in_ok _ _ x.id W (HO.out.2.2.below hb) (by simp; omega)
      by_cases hx : x.chk = 0
      · obtain ⟨x1, x2, x3⟩ := chk_zero hx
        by_cases hmem : x.id ∈ O.map PtS.id
        · have hs := HS.out
          unfold onceS at hs
          rw [if_neg (fun q => q.2.2 hmem)] at hs
          simp only [decide_eq_true hmem] at hin
          have HIN := Lib.hid hin
          have HS2 := Lib.hid hs
          clear hs hin hmem hx HS
          go_wp2_with (go_at_call 54; refine (HIN.out _ (Below.refl _ _)).mono ?_; rintro e w9 ⟨rfl, rfl⟩)
          exact ⟨⟨k + 1, O, by omega, by simp, HS2.out, Ho.out, Hi.out, HO.out.2.1⟩, by simp [intOf]; omega⟩
        · have hs := HS.out
          unfold onceS at hs
          rw [if_pos ⟨hlm, hx, hmem⟩] at hs
          simp only [decide_eq_false hmem] at hin
          have HIN := Lib.hid hin
          have HS2 := Lib.hid hs
          clear hs hin hmem hx HS
          go_upto_region 7 with (go_at_call 54; refine (HIN.out _ (Below.refl _ _)).mono ?_; rintro e w9 ⟨rfl, rfl⟩)
          have Ho' := Lib.hid (own_below Ho.out below_drew1)
          have Hi' := Lib.hid (own_below Hi.out below_drew1)
          have Hb := Lib.hid (HO.out.2.1.trans (below_drew1.mono HO.out.2.1.size))
          refine wp_region_held_drew (S := fun W => W.cell? ⟨g, o + k * 4, none⟩ = some (.int .i64 x.id) ∧ W.cell? ⟨g, o + k * 4 + 1, none⟩ = some (.int .u32 (x.x : Nat)) ∧ W.cell? ⟨g, o + k * 4 + 2, none⟩ = some (.int .u32 (x.y : Nat)) ∧ W.cell? ⟨g, o + k * 4 + 3, none⟩ = some (.string x.d)) (by kernel_rfl) (HSS.out _ Hb.out) (fun hHeld0 => ?_)
          clear Ho Hi
          have Ho := Ho'; have Hi := Hi'; clear Ho' Hi'
          generalize (World.drew wr) = W0 at *
          refine wpAnyH_take (i := 0) (v := ?_) rfl (by kernel_rfl) (by kernel_rfl) (by kernel_rfl) (fun _ _ _ h => h) (Or.inl ⟨by kernel_rfl, ?_⟩) (by assumption) ?_; rotate_left; (focus (intro w hSw; (try dsimp only at hSw); go_simp; (try with_reducible rfl); done)); (try simp only [Act.put, List.getElem_toArray, List.getElem_cons_succ, List.getElem_cons_zero, List.setIfInBounds_toArray, List.set_cons_zero, List.set_cons_succ])
          refine wpAnyH_take (i := 1) (v := ?_) rfl (by kernel_rfl) (by kernel_rfl) (by kernel_rfl) (fun _ _ _ h => h) (Or.inl ⟨by kernel_rfl, ?_⟩) (by assumption) ?_; rotate_left; (focus (intro w hSw; (try dsimp only at hSw); go_simp; (try with_reducible rfl); done)); (try simp only [Act.put, List.getElem_toArray, List.getElem_cons_succ, List.getElem_cons_zero, List.setIfInBounds_toArray, List.set_cons_zero, List.set_cons_succ])
          refine wpAnyH_take (i := 2) (v := ?_) rfl (by kernel_rfl) (by kernel_rfl) (by kernel_rfl) (fun _ _ _ h => h) (Or.inl ⟨by kernel_rfl, ?_⟩) (by assumption) ?_; rotate_left; (focus (intro w hSw; (try dsimp only at hSw); go_simp; (try with_reducible rfl); done)); (try simp only [Act.put, List.getElem_toArray, List.getElem_cons_succ, List.getElem_cons_zero, List.setIfInBounds_toArray, List.set_cons_zero, List.set_cons_succ])
          refine wpAnyH_take (i := 3) (v := ?_) rfl (by kernel_rfl) (by kernel_rfl) (by kernel_rfl) (fun _ _ _ h => h) (Or.inl ⟨by kernel_rfl, ?_⟩) (by assumption) ?_; rotate_left; (focus (intro w hSw; (try dsimp only at hSw); go_simp; (try with_reducible rfl); done)); (try simp only [Act.put, List.getElem_toArray, List.getElem_cons_succ, List.getElem_cons_zero, List.setIfInBounds_toArray, List.set_cons_zero, List.set_cons_succ])
          refine wpAnyH_take (i := 4) (v := ?_) rfl (by kernel_rfl) (by kernel_rfl) (by kernel_rfl) (fun _ _ _ h => h) (Or.inl ⟨by kernel_rfl, ?_⟩) (by assumption) ?_; rotate_left; (focus (intro w hSw; (try dsimp only at hSw); go_simp; (try with_reducible rfl); done)); (try simp only [Act.put, List.getElem_toArray, List.getElem_cons_succ, List.getElem_cons_zero, List.setIfInBounds_toArray, List.set_cons_zero, List.set_cons_succ])
          refine wpAnyH_take (i := 7) (v := ?_) rfl (by kernel_rfl) (by kernel_rfl) (by kernel_rfl) (fun _ _ _ h => h) (Or.inl ⟨by kernel_rfl, ?_⟩) (by assumption) ?_; rotate_left; (focus (intro w hSw; (try dsimp only at hSw); go_simp; (try with_reducible rfl); done)); (try simp only [Act.put, List.getElem_toArray, List.getElem_cons_succ, List.getElem_cons_zero, List.setIfInBounds_toArray, List.set_cons_zero, List.set_cons_succ])
          refine wpAnyH_take (i := 8) (v := ?_) rfl (by kernel_rfl) (by kernel_rfl) (by kernel_rfl) (fun _ _ _ h => h) (Or.inl ⟨by kernel_rfl, ?_⟩) (by assumption) ?_; rotate_left; (focus (intro w hSw; (try dsimp only at hSw); go_simp; (try with_reducible rfl); done)); (try simp only [Act.put, List.getElem_toArray, List.getElem_cons_succ, List.getElem_cons_zero, List.setIfInBounds_toArray, List.set_cons_zero, List.set_cons_succ])
          refine wpAnyH_take (i := 9) (v := ?_) rfl (by kernel_rfl) (by kernel_rfl) (by kernel_rfl) (fun _ _ _ h => h) (Or.inl ⟨by kernel_rfl, ?_⟩) (by assumption) ?_; rotate_left; (focus (intro w hSw; (try dsimp only at hSw); go_simp; (try with_reducible rfl); done)); (try simp only [Act.put, List.getElem_toArray, List.getElem_cons_succ, List.getElem_cons_zero, List.setIfInBounds_toArray, List.set_cons_zero, List.set_cons_succ])
          refine wpAnyH_take (i := 10) (v := ?_) rfl (by kernel_rfl) (by kernel_rfl) (by kernel_rfl) (fun _ _ _ h => h) (Or.inl ⟨by kernel_rfl, ?_⟩) (by assumption) ?_; rotate_left; (focus (intro w hSw; (try dsimp only at hSw); go_simp; (try with_reducible rfl); done)); (try simp only [Act.put, List.getElem_toArray, List.getElem_cons_succ, List.getElem_cons_zero, List.setIfInBounds_toArray, List.set_cons_zero, List.set_cons_succ])
          refine wpAnyH_take (i := 11) (v := ?_) rfl (by kernel_rfl) (by kernel_rfl) (by kernel_rfl) (fun _ _ _ h => h) (Or.inl ⟨by kernel_rfl, ?_⟩) (by assumption) ?_; rotate_left; (focus (intro w hSw; (try dsimp only at hSw); go_simp; (try with_reducible rfl); done)); (try simp only [Act.put, List.getElem_toArray, List.getElem_cons_succ, List.getElem_cons_zero, List.setIfInBounds_toArray, List.set_cons_zero, List.set_cons_succ])
          refine wpAnyH_take (i := 12) (v := ?_) rfl (by kernel_rfl) (by kernel_rfl) (by kernel_rfl) (fun _ _ _ h => h) (Or.inl ⟨by kernel_rfl, ?_⟩) (by assumption) ?_; rotate_left; (focus (intro w hSw; (try dsimp only at hSw); go_simp; (try with_reducible rfl); done)); (try simp only [Act.put, List.getElem_toArray, List.getElem_cons_succ, List.getElem_cons_zero, List.setIfInBounds_toArray, List.set_cons_zero, List.set_cons_succ])
          refine wpAnyH_ready (rs := [5, 13]) (by kernel_rfl) (by simp) ?_
          refine AllReadyH.cons rfl (fun K hK => ?_) (AllReadyH.cons rfl (fun K hK => ?_) AllReadyH.nil)
          · go_simp
            have Ho' := Lib.hid (own_below Ho.out (below_alloc1 W0 (.cells #[.int .i64 x.id, .int .u32 (x.x : Nat), .int .u32 (x.y : Nat), .string x.d] 56)))
            have Hi' := Lib.hid (own_below Hi.out (below_alloc1 W0 (.cells #[.int .i64 x.id, .int .u32 (x.x : Nat), .int .u32 (x.y : Nat), .string x.d] 56)))
            have Hb' := Lib.hid (below_alloc Hb.out (.cells #[.int .i64 x.id, .int .u32 (x.x : Nat), .int .u32 (x.y : Nat), .string x.d] 56))
            have Hn := Lib.hid (alloc_at (w := W0) (.cells #[.int .i64 x.id, .int .u32 (x.x : Nat), .int .u32 (x.y : Nat), .string x.d] 56) rfl)
            refine hK.out _ _ (HSS.out _ Hb'.out) (fun hHeld => ?_)
            clear hK K hHeld0 Ho Hi Hb
            have hHeld0 := hHeld; clear hHeld
            have Ho := Ho'; have Hi := Hi'; have Hb := Hb'; clear Ho' Hi' Hb'
            have Hp := Hn; clear Hn
            (try simp only [Act.put, List.getElem_toArray, List.getElem_cons_succ, List.getElem_cons_zero, List.setIfInBounds_toArray, List.set_cons_zero, List.set_cons_succ])
            generalize (World.alloc W0 _) = W1 at *
            refine wpAnyH_ready (rs := [6, 13]) (by kernel_rfl) (by simp) ?_
            refine AllReadyH.cons rfl (fun K hK => ?_) (AllReadyH.cons rfl (fun K hK => ?_) AllReadyH.nil)
            · refine step_app rfl _ _ 49 rfl w.heap.size 56 (.agg #[.int .i64 0, .int .u32 0, .int .u32 0, .string ⟨#[]⟩]) 4 32 Try.underlying49 info_ptA rfl (by decide) (by decide) (.slice Ao O.length co) O.length (O.flatMap PtS.cells) rfl _ 1 1 ([x].flatMap PtS.cells) rfl Ho.out rfl (rd_blk Hp.out) (flat_one PtS.cells_one _) (by omega) Hb.out.size ?_
              intro AP2 cP2 W2 hown hgrow _
              have Hb' := Lib.hid (below_grown Hb.out hgrow (fun b e => own_base Ho.out b e))
              have Hi' := Lib.hid (own_grown2 Hi.out Ho.out hgrow (by decide))
              have Ho' := Lib.hid hown
              refine hK.out _ _ (HSS.out _ Hb'.out) (fun hHeld => ?_)
              clear hK K hHeld0 Ho Hi Hb Hp hgrow hown
              have hHeld0 := hHeld; clear hHeld
              have Ho := Ho'; have Hi := Hi'; have Hb := Hb'; clear Ho' Hi' Hb'
              (try simp only [Act.put, List.getElem_toArray, List.getElem_cons_succ, List.getElem_cons_zero, List.setIfInBounds_toArray, List.set_cons_zero, List.set_cons_succ])
              refine wpAnyH_ready (rs := [13]) (by kernel_rfl) (by simp) ?_
              refine AllReadyH.cons rfl (fun K hK => ?_) AllReadyH.nil
              go_simp
              have Ho' := Lib.hid (own_below Ho.out (below_alloc1 W2 (.cells #[.int .i64 x.id] 3)))
              have Hi' := Lib.hid (own_below Hi.out (below_alloc1 W2 (.cells #[.int .i64 x.id] 3)))
              have Hb' := Lib.hid (below_alloc Hb.out (.cells #[.int .i64 x.id] 3))
              have Hn := Lib.hid (alloc_at (w := W2) (.cells #[.int .i64 x.id] 3) rfl)
              refine hK.out _ _ (HSS.out _ Hb'.out) (fun hHeld => ?_)
              clear hK K hHeld0 Ho Hi Hb
              have hHeld0 := hHeld; clear hHeld
              have Ho := Ho'; have Hi := Hi'; have Hb := Hb'; clear Ho' Hi' Hb'
              have Hq := Hn; clear Hn
              (try simp only [Act.put, List.getElem_toArray, List.getElem_cons_succ, List.getElem_cons_zero, List.setIfInBounds_toArray, List.set_cons_zero, List.set_cons_succ])
              generalize (World.alloc W2 _) = W3 at *
              refine wpAnyH_ready (rs := [14]) (by kernel_rfl) (by simp) ?_
              refine AllReadyH.cons rfl (fun K hK => ?_) AllReadyH.nil
              refine step_app rfl _ _ 91 rfl w.heap.size 3 (.int .i64 0) 1 8 Try.underlying91 info_i64 rfl (by decide) (by decide) (.slice Ai O.length ci) O.length (iv (O.map PtS.id)) rfl _ 1 1 (iv [x.id]) rfl Hi.out rfl (rd_blk Hq.out) (iv_one _) (by omega) Hb.out.size ?_
              intro AQ2 cQ2 W4 hown hgrow _
              have Hb' := Lib.hid (below_grown Hb.out hgrow (fun b e => own_base Hi.out b e))
              have Ho' := Lib.hid (own_grown2 Ho.out Hi.out hgrow (by decide))
              have Hi' := Lib.hid hown
              refine hK.out _ _ (HSS.out _ Hb'.out) (fun hHeld => ?_)
              clear hK K hHeld0 Ho Hi Hb Hq hgrow hown
              have hHeld0 := hHeld; clear hHeld
              have Ho := Ho'; have Hi := Hi'; have Hb := Hb'; clear Ho' Hi' Hb'
              (try simp only [Act.put, List.getElem_toArray, List.getElem_cons_succ, List.getElem_cons_zero, List.setIfInBounds_toArray, List.set_cons_zero, List.set_cons_succ])
              refine wpAnyH_take (i := 15) (v := ?_) rfl (by kernel_rfl) (by kernel_rfl) (by kernel_rfl) (fun _ _ _ h => h) (Or.inl ⟨by kernel_rfl, ?_⟩) (by assumption) ?_; rotate_left; (focus (intro w hSw; (try dsimp only at hSw); go_simp; (try with_reducible rfl); done)); (try simp only [Act.put, List.getElem_toArray, List.getElem_cons_succ, List.getElem_cons_zero, List.setIfInBounds_toArray, List.set_cons_zero, List.set_cons_succ])
              refine wpAnyH_take (i := 16) (v := ?_) rfl (by kernel_rfl) (by kernel_rfl) (by kernel_rfl) (fun _ _ _ h => h) (Or.inl ⟨by kernel_rfl, ?_⟩) (by assumption) ?_; rotate_left; (focus (intro w hSw; (try dsimp only at hSw); go_simp; (try with_reducible rfl); done)); (try simp only [Act.put, List.getElem_toArray, List.getElem_cons_succ, List.getElem_cons_zero, List.setIfInBounds_toArray, List.set_cons_zero, List.set_cons_succ])
              refine wpAnyH_done (by kernel_rfl) ?_ _
              go_wp2
              exact ⟨⟨k + 1, O ++ [x], by omega, by simp, HS2.out, by rw [List.length_append, List.flatMap_append]; exact Ho.out, by rw [List.length_append, List.map_append, iv_append]; exact Hi.out, Hb.out⟩, by simp [intOf]; omega⟩
            · go_simp
              have Ho' := Lib.hid (own_below Ho.out (below_alloc1 W1 (.cells #[.int .i64 x.id] 3)))
              have Hi' := Lib.hid (own_below Hi.out (below_alloc1 W1 (.cells #[.int .i64 x.id] 3)))
              have Hb' := Lib.hid (below_alloc Hb.out (.cells #[.int .i64 x.id] 3))
              have Hp' := Lib.hid (alloc_old Hp.out (.cells #[.int .i64 x.id] 3))
              have Hn := Lib.hid (alloc_at (w := W1) (.cells #[.int .i64 x.id] 3) rfl)
              refine hK.out _ _ (HSS.out _ Hb'.out) (fun hHeld => ?_)
              clear hK K hHeld0 Ho Hi Hb Hp
              have hHeld0 := hHeld; clear hHeld
              have Ho := Ho'; have Hi := Hi'; have Hb := Hb'; clear Ho' Hi' Hb'
              have Hp := Hp'; clear Hp'
              have Hq := Hn; clear Hn
              (try simp only [Act.put, List.getElem_toArray, List.getElem_cons_succ, List.getElem_cons_zero, List.setIfInBounds_toArray, List.set_cons_zero, List.set_cons_succ])
              generalize (World.alloc W1 _) = W2 at *
              refine wpAnyH_ready (rs := [6]) (by kernel_rfl) (by simp) ?_
              refine AllReadyH.cons rfl (fun K hK => ?_) AllReadyH.nil
              refine step_app rfl _ _ 49 rfl w.heap.size 56 (.agg #[.int .i64 0, .int .u32 0, .int .u32 0, .string ⟨#[]⟩]) 4 32 Try.underlying49 info_ptA rfl (by decide) (by decide) (.slice Ao O.length co) O.length (O.flatMap PtS.cells) rfl _ 1 1 ([x].flatMap PtS.cells) rfl Ho.out rfl (rd_blk Hp.out) (flat_one PtS.cells_one _) (by omega) Hb.out.size ?_
              intro AP2 cP2 W3 hown hgrow _
              have Hb' := Lib.hid (below_grown Hb.out hgrow (fun b e => own_base Ho.out b e))
              have Hi' := Lib.hid (own_grown2 Hi.out Ho.out hgrow (by decide))
              have Hq' := Lib.hid (blk_grown Hq.out Ho.out hgrow (by decide))
              have Ho' := Lib.hid hown
              refine hK.out _ _ (HSS.out _ Hb'.out) (fun hHeld => ?_)
              clear hK K hHeld0 Ho Hi Hb Hp hgrow hown Hq
              have hHeld0 := hHeld; clear hHeld
              have Ho := Ho'; have Hi := Hi'; have Hb := Hb'; clear Ho' Hi' Hb'
              have Hq := Hq'; clear Hq'
              (try simp only [Act.put, List.getElem_toArray, List.getElem_cons_succ, List.getElem_cons_zero, List.setIfInBounds_toArray, List.set_cons_zero, List.set_cons_succ])
              refine wpAnyH_ready (rs := [14]) (by kernel_rfl) (by simp) ?_
              refine AllReadyH.cons rfl (fun K hK => ?_) AllReadyH.nil
              refine step_app rfl _ _ 91 rfl w.heap.size 3 (.int .i64 0) 1 8 Try.underlying91 info_i64 rfl (by decide) (by decide) (.slice Ai O.length ci) O.length (iv (O.map PtS.id)) rfl _ 1 1 (iv [x.id]) rfl Hi.out rfl (rd_blk Hq.out) (iv_one _) (by omega) Hb.out.size ?_
              intro AQ2 cQ2 W4 hown hgrow _
              have Hb' := Lib.hid (below_grown Hb.out hgrow (fun b e => own_base Hi.out b e))
              have Ho' := Lib.hid (own_grown2 Ho.out Hi.out hgrow (by decide))
              have Hi' := Lib.hid hown
              refine hK.out _ _ (HSS.out _ Hb'.out) (fun hHeld => ?_)
              clear hK K hHeld0 Ho Hi Hb Hq hgrow hown
              have hHeld0 := hHeld; clear hHeld
              have Ho := Ho'; have Hi := Hi'; have Hb := Hb'; clear Ho' Hi' Hb'
              (try simp only [Act.put, List.getElem_toArray, List.getElem_cons_succ, List.getElem_cons_zero, List.setIfInBounds_toArray, List.set_cons_zero, List.set_cons_succ])
              refine wpAnyH_take (i := 15) (v := ?_) rfl (by kernel_rfl) (by kernel_rfl) (by kernel_rfl) (fun _ _ _ h => h) (Or.inl ⟨by kernel_rfl, ?_⟩) (by assumption) ?_; rotate_left; (focus (intro w hSw; (try dsimp only at hSw); go_simp; (try with_reducible rfl); done)); (try simp only [Act.put, List.getElem_toArray, List.getElem_cons_succ, List.getElem_cons_zero, List.setIfInBounds_toArray, List.set_cons_zero, List.set_cons_succ])
              refine wpAnyH_take (i := 16) (v := ?_) rfl (by kernel_rfl) (by kernel_rfl) (by kernel_rfl) (fun _ _ _ h => h) (Or.inl ⟨by kernel_rfl, ?_⟩) (by assumption) ?_; rotate_left; (focus (intro w hSw; (try dsimp only at hSw); go_simp; (try with_reducible rfl); done)); (try simp only [Act.put, List.getElem_toArray, List.getElem_cons_succ, List.getElem_cons_zero, List.setIfInBounds_toArray, List.set_cons_zero, List.set_cons_succ])
              refine wpAnyH_done (by kernel_rfl) ?_ _
              go_wp2
              exact ⟨⟨k + 1, O ++ [x], by omega, by simp, HS2.out, by rw [List.length_append, List.flatMap_append]; exact Ho.out, by rw [List.length_append, List.map_append, iv_append]; exact Hi.out, Hb.out⟩, by simp [intOf]; omega⟩
          · go_simp
            have Ho' := Lib.hid (own_below Ho.out (below_alloc1 W0 (.cells #[.int .i64 x.id] 3)))
            have Hi' := Lib.hid (own_below Hi.out (below_alloc1 W0 (.cells #[.int .i64 x.id] 3)))
            have Hb' := Lib.hid (below_alloc Hb.out (.cells #[.int .i64 x.id] 3))
            have Hn := Lib.hid (alloc_at (w := W0) (.cells #[.int .i64 x.id] 3) rfl)
            refine hK.out _ _ (HSS.out _ Hb'.out) (fun hHeld => ?_)
            clear hK K hHeld0 Ho Hi Hb
            have hHeld0 := hHeld; clear hHeld
            have Ho := Ho'; have Hi := Hi'; have Hb := Hb'; clear Ho' Hi' Hb'
            have Hq := Hn; clear Hn
            (try simp only [Act.put, List.getElem_toArray, List.getElem_cons_succ, List.getElem_cons_zero, List.setIfInBounds_toArray, List.set_cons_zero, List.set_cons_succ])
            generalize (World.alloc W0 _) = W1 at *
            refine wpAnyH_ready (rs := [5]) (by kernel_rfl) (by simp) ?_
            refine AllReadyH.cons rfl (fun K hK => ?_) AllReadyH.nil
            go_simp
            have Ho' := Lib.hid (own_below Ho.out (below_alloc1 W1 (.cells #[.int .i64 x.id, .int .u32 (x.x : Nat), .int .u32 (x.y : Nat), .string x.d] 56)))
            have Hi' := Lib.hid (own_below Hi.out (below_alloc1 W1 (.cells #[.int .i64 x.id, .int .u32 (x.x : Nat), .int .u32 (x.y : Nat), .string x.d] 56)))
            have Hb' := Lib.hid (below_alloc Hb.out (.cells #[.int .i64 x.id, .int .u32 (x.x : Nat), .int .u32 (x.y : Nat), .string x.d] 56))
            have Hq' := Lib.hid (alloc_old Hq.out (.cells #[.int .i64 x.id, .int .u32 (x.x : Nat), .int .u32 (x.y : Nat), .string x.d] 56))
            have Hn := Lib.hid (alloc_at (w := W1) (.cells #[.int .i64 x.id, .int .u32 (x.x : Nat), .int .u32 (x.y : Nat), .string x.d] 56) rfl)
            refine hK.out _ _ (HSS.out _ Hb'.out) (fun hHeld => ?_)
            clear hK K hHeld0 Ho Hi Hb Hq
            have hHeld0 := hHeld; clear hHeld
            have Ho := Ho'; have Hi := Hi'; have Hb := Hb'; clear Ho' Hi' Hb'
            have Hq := Hq'; clear Hq'
            have Hp := Hn; clear Hn
            (try simp only [Act.put, List.getElem_toArray, List.getElem_cons_succ, List.getElem_cons_zero, List.setIfInBounds_toArray, List.set_cons_zero, List.set_cons_succ])
            generalize (World.alloc W1 _) = W2 at *
            refine wpAnyH_ready (rs := [6]) (by kernel_rfl) (by simp) ?_
            refine AllReadyH.cons rfl (fun K hK => ?_) AllReadyH.nil
            refine step_app rfl _ _ 49 rfl w.heap.size 56 (.agg #[.int .i64 0, .int .u32 0, .int .u32 0, .string ⟨#[]⟩]) 4 32 Try.underlying49 info_ptA rfl (by decide) (by decide) (.slice Ao O.length co) O.length (O.flatMap PtS.cells) rfl _ 1 1 ([x].flatMap PtS.cells) rfl Ho.out rfl (rd_blk Hp.out) (flat_one PtS.cells_one _) (by omega) Hb.out.size ?_
            intro AP2 cP2 W3 hown hgrow _
            have Hb' := Lib.hid (below_grown Hb.out hgrow (fun b e => own_base Ho.out b e))
            have Hi' := Lib.hid (own_grown2 Hi.out Ho.out hgrow (by decide))
            have Hq' := Lib.hid (blk_grown Hq.out Ho.out hgrow (by decide))
            have Ho' := Lib.hid hown
            refine hK.out _ _ (HSS.out _ Hb'.out) (fun hHeld => ?_)
            clear hK K hHeld0 Ho Hi Hb Hp hgrow hown Hq
            have hHeld0 := hHeld; clear hHeld
            have Ho := Ho'; have Hi := Hi'; have Hb := Hb'; clear Ho' Hi' Hb'
            have Hq := Hq'; clear Hq'
            (try simp only [Act.put, List.getElem_toArray, List.getElem_cons_succ, List.getElem_cons_zero, List.setIfInBounds_toArray, List.set_cons_zero, List.set_cons_succ])
            refine wpAnyH_ready (rs := [14]) (by kernel_rfl) (by simp) ?_
            refine AllReadyH.cons rfl (fun K hK => ?_) AllReadyH.nil
            refine step_app rfl _ _ 91 rfl w.heap.size 3 (.int .i64 0) 1 8 Try.underlying91 info_i64 rfl (by decide) (by decide) (.slice Ai O.length ci) O.length (iv (O.map PtS.id)) rfl _ 1 1 (iv [x.id]) rfl Hi.out rfl (rd_blk Hq.out) (iv_one _) (by omega) Hb.out.size ?_
            intro AQ2 cQ2 W4 hown hgrow _
            have Hb' := Lib.hid (below_grown Hb.out hgrow (fun b e => own_base Hi.out b e))
            have Ho' := Lib.hid (own_grown2 Ho.out Hi.out hgrow (by decide))
            have Hi' := Lib.hid hown
            refine hK.out _ _ (HSS.out _ Hb'.out) (fun hHeld => ?_)
            clear hK K hHeld0 Ho Hi Hb Hq hgrow hown
            have hHeld0 := hHeld; clear hHeld
            have Ho := Ho'; have Hi := Hi'; have Hb := Hb'; clear Ho' Hi' Hb'
            (try simp only [Act.put, List.getElem_toArray, List.getElem_cons_succ, List.getElem_cons_zero, List.setIfInBounds_toArray, List.set_cons_zero, List.set_cons_succ])
            refine wpAnyH_take (i := 15) (v := ?_) rfl (by kernel_rfl) (by kernel_rfl) (by kernel_rfl) (fun _ _ _ h => h) (Or.inl ⟨by kernel_rfl, ?_⟩) (by assumption) ?_; rotate_left; (focus (intro w hSw; (try dsimp only at hSw); go_simp; (try with_reducible rfl); done)); (try simp only [Act.put, List.getElem_toArray, List.getElem_cons_succ, List.getElem_cons_zero, List.setIfInBounds_toArray, List.set_cons_zero, List.set_cons_succ])
            refine wpAnyH_take (i := 16) (v := ?_) rfl (by kernel_rfl) (by kernel_rfl) (by kernel_rfl) (fun _ _ _ h => h) (Or.inl ⟨by kernel_rfl, ?_⟩) (by assumption) ?_; rotate_left; (focus (intro w hSw; (try dsimp only at hSw); go_simp; (try with_reducible rfl); done)); (try simp only [Act.put, List.getElem_toArray, List.getElem_cons_succ, List.getElem_cons_zero, List.setIfInBounds_toArray, List.set_cons_zero, List.set_cons_succ])
            refine wpAnyH_done (by kernel_rfl) ?_ _
            go_wp2
            exact ⟨⟨k + 1, O ++ [x], by omega, by simp, HS2.out, by rw [List.length_append, List.flatMap_append]; exact Ho.out, by rw [List.length_append, List.map_append, iv_append]; exact Hi.out, Hb.out⟩, by simp [intOf]; omega⟩
      · have hs := HS.out
        unfold onceS at hs
        rw [if_neg (fun q => hx q.2.1)] at hs
        have HS2 := Lib.hid hs
        have HIN := Lib.hid hin
        have hx := chk_false hx
        clear hs hin HS
        rcases hx with hx | ⟨h1, hx⟩ | ⟨h1, h2, hx⟩
        all_goals
          go_wp2_with (fail)
          exact ⟨⟨k + 1, O, by omega, by simp, HS2.out, Ho.out, Hi.out, HO.out.2.1⟩, by simp [intOf]; omega⟩
    · have dm : decide (O.length < m) = false := decide_eq_false hlm
      have hfull := once_full m l k (by rw [HO.out.1]; omega)
      rw [HO.out.1] at hfull
      have HF := Lib.hid hfull; clear hfull
      go_wp2
      go_ret
      exact ⟨_, rfl, by rw [HF.out]; exact Ho.out, HO.out.2.1⟩
  · have hkl : k = l.length := by omega
    subst hkl
    have d : decide ((l.length : Int) < l.length) = false := decide_eq_false (by omega)
    have hO := HO.out.1
    rw [List.take_length] at hO
    have HF := Lib.hid hO; clear hO
    go_wp2
    go_ret
    exact ⟨_, rfl, by rw [HF.out]; exact Ho.out, HO.out.2.1⟩
end Go.Proofs.Ytdomngpkahgoiaa.Pt
