/- The walk over planner.all. -/
import Derived.Test.YthpnlgdcijmocaaPl4
namespace Go.Proofs.Ythpnlgdcijmocaa.Pl
open Go.RowKit Rg
set_option linter.unusedVariables false
set_option linter.unusedSimpArgs false
def slLen (v : Value) : Nat := match v with | .slice _ n _ => n | _ => 0
def AllE (W1 : World) (q B : Nat) (g : GeS) (v : Value) (R : Option (List PartD × PlcS × List Int)) (e : Ending) (w' : World) : Prop :=
  (∃ (ds : List PartD) (p' : PlcS) (f' : List Int) (v' vo : Value) (ps : List PartS), R = some (ds, p', f') ∧ e = .returned (.tuple #[vo, .bool true]) ∧ w'.heap[q]? = some (.cells (pcs g p' v') 122 (0, 0)) ∧ (IRd W1 v' f' ∧ ∀ C, geB C v → geB C v') ∧ w'.ownsRow B 37 6 vo ps.length (ps.flatMap PartS.cells) ∧ ps.map PartS.d = ds ∧ (∀ x ∈ ps, w'.ownsRow B 39 2 x.v x.es.length (x.es.flatMap EntS.cells))) ∨
  (R = none ∧ e = .returned (.tuple #[.slice none 0 0, .bool false]))
/-- While the parts are made. -/
def AllR (W1 W : World) (q : Nat) (g : GeS) (v0 : Value) (R : Option (List PartD × PlcS × List Int)) (vl vo : Value) (W' : World) : Prop :=
  ∃ (k : Nat) (p : PlcS) (f : List Int) (v : Value) (l : List EntS) (ps : List PartS), R = preL (ps.map PartS.d) (allL g k p f l) ∧ l.length ≤ k ∧ ERd W1 vl l ∧ ps.length + l.length ≤ 100000000 ∧ f.length ≤ 17592186044416 ∧ W'.heap[q]? = some (.cells (pcs g p v) 122 (0, 0)) ∧ (IRd W1 v f ∧ ∀ C, geB C v0 → geB C v) ∧ 0 ≤ p.off ∧ p.off ≤ g.siz ∧
    W'.ownsRow W.heap.size 37 6 vo ps.length (ps.flatMap PartS.cells) ∧ (∀ x ∈ ps, W'.ownsRow W.heap.size 39 2 x.v x.es.length (x.es.flatMap EntS.cells)) ∧ Fr (fun k => k = q) W W'
theorem own_frq {W W' : World} {q B size n : Nat} {g : GeS} {p : PlcS} {v : Value} {e : TypeId} {x : Value} {xs : List Value} (ho : W.ownsRow B e size x n xs) (hq : W.heap[q]? = some (.cells (pcs g p v) 122 (0, 0))) (he : e ≠ 122) (hf : Fr (fun k => k = q) W W') : W'.ownsRow B e size x n xs :=
  own_fr ho hf (fun k hk e => own_ne_block ho hq he (by rw [hk, e]))
set_option maxHeartbeats 8000000 in
set_option maxRecDepth 100000 in
theorem all_ok {W1 W : World} {q : Nat} {g : GeS} {p : PlcS} {v : Value} {free : List Int} (h : W.heap[q]? = some (.cells (pcs g p v) 122 (0, 0))) (hi : IRd W1 v free) (hb : Below W1.heap.size W1 W) (hq : W1.heap.size ≤ q) (o1 : 0 ≤ p.off) (o2 : p.off ≤ g.siz) (o3 : g.siz ≤ 32) (o4 : 4 ≤ g.siz) (hfl : free.length ≤ 17592186044416) (vl : Value) (l : List EntS) (hv : ERd W1 vl l) (hl : l.length ≤ 100000000) :
    Calls Try.prog 58 #[.pointer (some ⟨q, 0, none⟩), vl] W fun e w' => AllE W1 q W.heap.size g v (allL g l.length p free l) e w' ∧ Fr (fun k => k = q) W w' := by
  obtain ⟨R, hR⟩ : ∃ R, allL g l.length p free l = R := ⟨_, rfl⟩
  rw [hR]
  have HS : Hid (AllR W1 W q g v R vl (.slice none 0 0) W) := Lib.hid ⟨l.length, p, free, v, l, [], by rw [← hR]; exact (preL_nil _).symm, Nat.le_refl _, hv, by simpa using hl, hfl, h, ⟨hi, fun _ h => h⟩, o1, o2, ⟨rfl, .inl ⟨rfl, rfl⟩⟩, (fun x hx => by cases hx), Fr.refl _ _⟩
  have HB := Lib.hid hb
  clear hR h hi hv hb o1 o2 hfl hl
  go_enter Try.func58, Try.ntmps58
  go_wp2_with fail
  go_loopw [1, 6] (fun va vo W' => AllR W1 W q g v R va vo W') (fun va _ _ => slLen va)
  case atStart => exact HS.out
  case round =>
  obtain ⟨k, p, f, v2, l, ps, hR, hk, hv, hl, hfl, hX, hI, o1, o2, hO, hE, hF⟩ := hrel
  have HR := Lib.hid hR; have HV := Lib.hid hv; have HX := Lib.hid hX; have HI := Lib.hid hI; have HO := Lib.hid hO; have HE := Lib.hid hE; have HF := Lib.hid hF
  obtain ⟨Al, cl, rfl, hcl, _⟩ := hv
  obtain ⟨Ao, co, rfl, _⟩ := own_rd hO
  clear hR hX hI hO hE hF
  cases l with
  | nil =>
    have hR := HR.out
    rw [allL_nil] at hR
    have HR2 : Hid (R = some (ps.map PartS.d, p, f)) := Lib.hid (by rw [hR]; simp [preL])
    clear hR
    go_wp2
    go_ret2
    exact ⟨.inl ⟨_, p, f, v2, _, ps, HR2.out, rfl, HX.out, HI.out, HO.out, rfl, HE.out⟩, HF.out⟩
  | cons e t =>
    obtain ⟨k', rfl⟩ : ∃ k', k = k' + 1 := ⟨k - 1, by simp only [List.length_cons] at hk; omega⟩
    have hbr : Below W1.heap.size W1 wr := ((Fr.of_below (S := fun k => k = q) HB.out).trans HF.out (fun _ _ h => h)).toBelow (fun k h => by subst h; exact hq) (Nat.le_refl _)
    have HBr := Lib.hid hbr
    have HOn := Lib.hid (on_ok HX.out HI.out.1 hbr hq o1 o2 o3 (by omega))
    have hpos : 0 < (e :: t).length := by simp
    have hlk : (e :: t).length ≤ k' + 1 := hk
    have hroom := fun p1 f1 (h : onL g p f = some (p1, f1)) => onL_room h o1 o4
    have HRoom := Lib.hid hroom
    have HNone := Lib.hid (fun h => @allL_on_none g k' p f e t h)
    have HStep := Lib.hid (fun p1 f1 h n s ht => @allL_step g k' p p1 f f1 e t h n s ht (ps.map PartS.d))
    have HPos := Lib.hid (fun room (hr : (2 : Int) ≤ room) => takeL_pos room hr e t)
    clear hbr hroom hk
    generalize hll : e :: t = l at *
    clear hll e t
    have bl : decide ((l.length : Int) > 0) = true := decide_eq_true (by omega)
    have bl2 : decide (0 < l.length) = true := decide_eq_true hpos
    go_wp2_with fail
    (with_reducible refine HOn.out.mono ?_); rintro e w2 ⟨hOn, hF2⟩
    rcases hOn with ⟨p1, f1, v1, hon, rfl, hX2, hI2, hG2⟩ | ⟨hon, rfl⟩
    · obtain ⟨r1, r2, r3⟩ := HRoom.out _ _ hon
      have HX2 := Lib.hid hX2
      have HI2 := Lib.hid (And.intro hI2 (fun C hC => hG2 C (HI.out.2 C hC)))
      clear hG2
      have HO2 := Lib.hid (own_frq HO.out HX.out (by decide) hF2)
      have HE2 : Hid (∀ x ∈ ps, w2.ownsRow W.heap.size 39 2 x.v x.es.length (x.es.flatMap EntS.cells)) := Lib.hid (fun x hx => own_frq (HE.out x hx) HX.out (by decide) hF2)
      have HF2 := Lib.hid (HF.out.trans hF2 (fun _ _ h => h))
      have HB2 : Hid (Below W1.heap.size W1 w2) := Lib.hid (((Fr.of_below (S := fun k => k = q) HBr.out).trans hF2 (fun _ _ h => h)).toBelow (fun k h => by subst h; exact hq) (Nat.le_refl _))
      have htl := takeL_le (g.siz - p1.off) l 0 1 (by omega) (by omega)
      have htp := HPos.out (g.siz - p1.off) r2
      have HTk := Lib.hid (take_ok HX2.out r1 o3 r2 (.slice Al l.length cl) l (HV.out.below HB2.out) (by omega))
      have HSt := Lib.hid (HStep.out p1 f1 hon)
      obtain ⟨n, s, hns⟩ : ∃ n s, takeL (g.siz - p1.off) 0 1 l = (n, s) := ⟨_, _, rfl⟩
      rw [hns] at htl htp
      simp only at htl htp
      simp only [hns] at HTk
      have HR2 : Hid (R = preL (ps.map PartS.d ++ [⟨p1, n == l.length, l.take n⟩]) (allL g k' ⟨p1.seg, p1.off + s, p1.next⟩ f1 (l.drop n))) := Lib.hid (HR.out.trans (HSt.out n s hns))
      clear hX2 hI2 hF2 hns hon HOn HRoom HNone HStep HPos HSt HX HI HO HE
      obtain ⟨t1, t2, t3, t4, t5⟩ := htl
      go_wp2_with fail
      (with_reducible refine HTk.out.mono ?_); rintro e w3 ⟨rfl, hb3⟩
      have HX3 := Lib.hid (block_up HX2.out hb3)
      have HO3 := Lib.hid (own_below HO2.out hb3)
      have HE3 : Hid (∀ x ∈ ps, w3.ownsRow W.heap.size 39 2 x.v x.es.length (x.es.flatMap EntS.cells)) := Lib.hid (fun x hx => own_below (HE2.out x hx) hb3)
      have HF3 := Lib.hid (HF2.out.below hb3)
      have HB3 := Lib.hid (below_up HB2.out hb3)
      clear hb3 HX2 HO2 HE2 HF2 HB2 HTk
      go_upto_region 6 with (fail)
      obtain ⟨no, hno⟩ : ∃ n, ps.length = n := ⟨_, rfl⟩
      rw [hno] at HO3
      obtain ⟨lst, hlst⟩ : ∃ b, (n == l.length) = b := ⟨_, rfl⟩
      have hlst2 : ((n : Int) == (l.length : Int)) = lst := by rw [← hlst, Bool.eq_iff_iff, beq_iff_eq, beq_iff_eq]; omega
      have tn : (n : Int) ≤ l.length := by omega
      have tn2 : n ≤ l.length := by omega
      have tn3 : n ≤ cl := by omega
      have tn4 : (n : Int) ≤ cl := by omega
      have HD := Lib.hid (below_drew1 (w := w3))
      have HQ : Hid (∀ W', Fr (fun k => (Value.slice Ao no co).ownBlock = some k) w3.drew W' → (W'.cell? ⟨q, 0, none⟩ = some (.int .i64 g.seg) ∧ W'.cell? ⟨q, 1, none⟩ = some (.int .i64 g.siz) ∧ W'.cell? ⟨q, 2, none⟩ = some (.int .i64 p1.seg) ∧ W'.cell? ⟨q, 3, none⟩ = some (.int .i64 p1.off) ∧ W'.cell? ⟨q, 4, none⟩ = some (.int .i64 p1.next) ∧ W'.cell? ⟨q, 5, none⟩ = some v1)) := Lib.hid (fun W' hf => pl_all (blk_fr (block_up HX3.out HD.out) hf (fun e => own_ne_block HO3.out HX3.out (by decide) e)))
      have HX4 := Lib.hid (block_up HX3.out HD.out)
      have HO4 := Lib.hid (own_below HO3.out HD.out)
      have HE4 : Hid (∀ x ∈ ps, w3.drew.ownsRow W.heap.size 39 2 x.v x.es.length (x.es.flatMap EntS.cells)) := Lib.hid (fun x hx => own_below (HE3.out x hx) HD.out)
      have HF4 := Lib.hid (HF3.out.below HD.out)
      have HB4 := Lib.hid (below_up HB3.out HD.out)
      refine beginS (S := fun W' => (W'.cell? ⟨q, 0, none⟩ = some (.int .i64 g.seg) ∧ W'.cell? ⟨q, 1, none⟩ = some (.int .i64 g.siz) ∧ W'.cell? ⟨q, 2, none⟩ = some (.int .i64 p1.seg) ∧ W'.cell? ⟨q, 3, none⟩ = some (.int .i64 p1.off) ∧ W'.cell? ⟨q, 4, none⟩ = some (.int .i64 p1.next) ∧ W'.cell? ⟨q, 5, none⟩ = some v1)) [] (by kernel_rfl) (HQ.out _ (Fr.refl _ _)) (fun hHeld0 => ?_)
      clear HD
      generalize (World.drew w3) = W0 at *
      refine takeF (i := 0) (v := ?_) rfl (by kernel_rfl) (fun _ _ _ h => h) (Or.inl ⟨by kernel_rfl, ?_⟩) (by assumption) ?_; rotate_left; (focus (intro w _; go_simp; (try with_reducible rfl); done)); (try simp only [Act.put, List.getElem_toArray, List.getElem_cons_succ, List.getElem_cons_zero, List.setIfInBounds_toArray, List.set_cons_zero, List.set_cons_succ])
      refine takeF (i := 1) (v := ?_) rfl (by kernel_rfl) (fun _ _ _ h => h) (Or.inl ⟨by kernel_rfl, ?_⟩) (by assumption) ?_; rotate_left; (focus (intro w _; go_simp; (try with_reducible rfl); done)); (try simp only [Act.put, List.getElem_toArray, List.getElem_cons_succ, List.getElem_cons_zero, List.setIfInBounds_toArray, List.set_cons_zero, List.set_cons_succ])
      refine takeF (i := 2) (v := ?_) rfl (by kernel_rfl) (fun _ _ _ h => h) (Or.inl ⟨by kernel_rfl, ?_⟩) (by assumption) ?_; rotate_left; (focus (intro w _; go_simp; (try with_reducible rfl); done)); (try simp only [Act.put, List.getElem_toArray, List.getElem_cons_succ, List.getElem_cons_zero, List.setIfInBounds_toArray, List.set_cons_zero, List.set_cons_succ])
      refine takeF (i := 3) (v := ?_) rfl (by kernel_rfl) (fun _ _ _ h => h) (Or.inl ⟨by kernel_rfl, ?_⟩) (by assumption) ?_; rotate_left; (focus (intro w _; go_simp; (try with_reducible rfl); done)); (try simp only [Act.put, List.getElem_toArray, List.getElem_cons_succ, List.getElem_cons_zero, List.setIfInBounds_toArray, List.set_cons_zero, List.set_cons_succ])
      refine takeH (i := 4) (v := ?_) rfl (by kernel_rfl) (fun _ _ _ h => h) (Or.inl ⟨by kernel_rfl, ?_⟩) (by assumption) ?_; rotate_left; (focus (intro w hSw; (try dsimp only at hSw); go_simp; (try with_reducible rfl); done)); (try simp only [Act.put, List.getElem_toArray, List.getElem_cons_succ, List.getElem_cons_zero, List.setIfInBounds_toArray, List.set_cons_zero, List.set_cons_succ])
      refine takeF (i := 5) (v := ?_) rfl (by kernel_rfl) (fun _ _ _ h => h) (Or.inl ⟨by kernel_rfl, ?_⟩) (by assumption) ?_; rotate_left; (focus (intro w _; go_simp; (try with_reducible rfl); done)); (try simp only [Act.put, List.getElem_toArray, List.getElem_cons_succ, List.getElem_cons_zero, List.setIfInBounds_toArray, List.set_cons_zero, List.set_cons_succ])
      refine takeF (i := 6) (v := ?_) rfl (by kernel_rfl) (fun _ _ _ h => h) (Or.inl ⟨by kernel_rfl, ?_⟩) (by assumption) ?_; rotate_left; (focus (intro w _; go_simp; (try with_reducible rfl); done)); (try simp only [Act.put, List.getElem_toArray, List.getElem_cons_succ, List.getElem_cons_zero, List.setIfInBounds_toArray, List.set_cons_zero, List.set_cons_succ])
      refine takeF (i := 7) (v := ?_) rfl (by kernel_rfl) (fun _ _ _ h => h) (Or.inl ⟨by kernel_rfl, ?_⟩) (by assumption) ?_; rotate_left; (focus (intro w _; go_simp; (try with_reducible rfl); done)); (try simp only [Act.put, List.getElem_toArray, List.getElem_cons_succ, List.getElem_cons_zero, List.setIfInBounds_toArray, List.set_cons_zero, List.set_cons_succ])
      refine takeF (i := 8) (v := ?_) rfl (by kernel_rfl) (fun _ _ _ h => h) (Or.inl ⟨by kernel_rfl, ?_⟩) (by assumption) ?_; rotate_left; (focus (intro w _; go_simp; (try with_reducible rfl); done)); (try simp only [Act.put, List.getElem_toArray, List.getElem_cons_succ, List.getElem_cons_zero, List.setIfInBounds_toArray, List.set_cons_zero, List.set_cons_succ])
      refine takeH (i := 9) (v := ?_) rfl (by kernel_rfl) (fun _ _ _ h => h) (Or.inl ⟨by kernel_rfl, ?_⟩) (by assumption) ?_; rotate_left; (focus (intro w hSw; (try dsimp only at hSw); go_simp; (try with_reducible rfl); done)); (try simp only [Act.put, List.getElem_toArray, List.getElem_cons_succ, List.getElem_cons_zero, List.setIfInBounds_toArray, List.set_cons_zero, List.set_cons_succ])
      refine takeF (i := 10) (v := ?_) rfl (by kernel_rfl) (fun _ _ _ h => h) (Or.inl ⟨by kernel_rfl, ?_⟩) (by assumption) ?_; rotate_left; (focus (intro w _; go_simp; (try with_reducible rfl); done)); (try simp only [Act.put, List.getElem_toArray, List.getElem_cons_succ, List.getElem_cons_zero, List.setIfInBounds_toArray, List.set_cons_zero, List.set_cons_succ])
      refine takeF (i := 11) (v := ?_) rfl (by kernel_rfl) (fun _ _ _ h => h) (Or.inl ⟨by kernel_rfl, ?_⟩) (by assumption) ?_; rotate_left; (focus (intro w _; go_simp; (try with_reducible rfl); done)); (try simp only [Act.put, List.getElem_toArray, List.getElem_cons_succ, List.getElem_cons_zero, List.setIfInBounds_toArray, List.set_cons_zero, List.set_cons_succ])
      refine takeF (i := 12) (v := ?_) rfl (by kernel_rfl) (fun _ _ _ h => h) (Or.inl ⟨by kernel_rfl, ?_⟩) (by assumption) ?_; rotate_left; (focus (intro w _; go_simp; (try with_reducible rfl); done)); (try simp only [Act.put, List.getElem_toArray, List.getElem_cons_succ, List.getElem_cons_zero, List.setIfInBounds_toArray, List.set_cons_zero, List.set_cons_succ])
      refine takeF (i := 13) (v := ?_) rfl (by kernel_rfl) (fun _ _ _ h => h) (Or.inl ⟨by kernel_rfl, ?_⟩) (by assumption) ?_; rotate_left; (focus (intro w _; go_simp; (try with_reducible rfl); done)); (try simp only [Act.put, List.getElem_toArray, List.getElem_cons_succ, List.getElem_cons_zero, List.setIfInBounds_toArray, List.set_cons_zero, List.set_cons_succ])
      refine takeF (i := 14) (v := ?_) rfl (by kernel_rfl) (fun _ _ _ h => h) (Or.inl ⟨by kernel_rfl, ?_⟩) (by assumption) ?_; rotate_left; (focus (intro w _; go_simp; (try with_reducible rfl); done)); (try simp only [Act.put, List.getElem_toArray, List.getElem_cons_succ, List.getElem_cons_zero, List.setIfInBounds_toArray, List.set_cons_zero, List.set_cons_succ])
      refine takeF (i := 15) (v := ?_) rfl (by kernel_rfl) (fun _ _ _ h => h) (Or.inl ⟨by kernel_rfl, ?_⟩) (by assumption) ?_; rotate_left; (focus (intro w _; go_simp; (try with_reducible rfl); done)); (try simp only [Act.put, List.getElem_toArray, List.getElem_cons_succ, List.getElem_cons_zero, List.setIfInBounds_toArray, List.set_cons_zero, List.set_cons_succ])
      refine takeF (i := 16) (v := ?_) rfl (by kernel_rfl) (fun _ _ _ h => h) (Or.inl ⟨by kernel_rfl, ?_⟩) (by assumption) ?_; rotate_left; (focus (intro w _; go_simp; (try with_reducible rfl); done)); (try simp only [Act.put, List.getElem_toArray, List.getElem_cons_succ, List.getElem_cons_zero, List.setIfInBounds_toArray, List.set_cons_zero, List.set_cons_succ])
      clear hHeld0
      have HClo := Lib.hid (eclone_ok (.slice Al n cl) (l.take n) W0 (SRd.take (HV.out.below HB4.out) EntS.cells_len tn2 cl tn3) (by rw [List.length_take]; omega))
      have hltn : (l.take n).length = n := by rw [List.length_take]; omega
      rw [hltn] at HClo
      have HLtn := Lib.hid hltn
      clear hltn
      refine readyS (rs := [17]) (by kernel_rfl) (by simp) ?_
      refine ReadyS.consH rfl (fun K hK => ?_) ReadyS.nil
      (try simp only [List.getElem_toArray, List.getElem_cons_succ, List.getElem_cons_zero])
      go_simp
      (with_reducible refine HClo.out.mono ?_); rintro e W5 ⟨vc, rfl, hoc, hb5⟩
      obtain ⟨Ac, cc, rfl, _⟩ := own_rd hoc
      have HC5 := Lib.hid (own_lower hoc HF4.out.size)
      have HX5 := Lib.hid (block_up HX4.out hb5)
      have HO5 := Lib.hid (own_below HO4.out hb5)
      have HE5 : Hid (∀ x ∈ ps, W5.ownsRow W.heap.size 39 2 x.v x.es.length (x.es.flatMap EntS.cells)) := Lib.hid (fun x hx => own_below (HE4.out x hx) hb5)
      have HF5 := Lib.hid (HF4.out.below hb5)
      have HB5 := Lib.hid (below_up HB4.out hb5)
      have hG5 := Lib.hid (Fr.of_below (S := (fun k => (Value.slice Ao no co).ownBlock = some k)) hb5)
      clear hoc HX4 HO4 HE4 HF4 HB4
      refine hK.out _ _ (HQ.out _ hG5.out) (fun hHeld => ?_)
      clear hK K
      (try simp only [Act.put, List.getElem_toArray, List.getElem_cons_succ, List.getElem_cons_zero, List.setIfInBounds_toArray, List.set_cons_zero, List.set_cons_succ])
      clear hb5
      refine takeF (i := 18) (v := ?_) rfl (by kernel_rfl) (fun _ _ _ h => h) (Or.inl ⟨by kernel_rfl, ?_⟩) (by assumption) ?_; rotate_left; (focus (intro w _; go_simp; (try with_reducible rfl); done)); (try simp only [Act.put, List.getElem_toArray, List.getElem_cons_succ, List.getElem_cons_zero, List.setIfInBounds_toArray, List.set_cons_zero, List.set_cons_succ])
      refine takeF (i := 19) (v := ?_) rfl (by kernel_rfl) (fun _ _ _ h => h) (Or.inl ⟨by kernel_rfl, ?_⟩) (by assumption) ?_; rotate_left; (focus (intro w _; go_simp; (try with_reducible rfl); done)); (try simp only [Act.put, List.getElem_toArray, List.getElem_cons_succ, List.getElem_cons_zero, List.setIfInBounds_toArray, List.set_cons_zero, List.set_cons_succ])
      clear hHeld
      refine readyS (rs := [20]) (by kernel_rfl) (by simp) ?_
      refine ReadyS.consH rfl (fun K hK => ?_) ReadyS.nil
      (try simp only [List.getElem_toArray, List.getElem_cons_succ, List.getElem_cons_zero])
      go_simp
      have hNw := Lib.hid (rd_new W5 #[.int .i64 p1.seg, .int .i64 p1.off, .int .i64 p1.next, .int .i64 p1.next, .bool lst, .slice Ac n cc] 37 ([(⟨p1, lst, .slice Ac n cc, l.take n⟩ : PartS)].flatMap PartS.cells) rfl)
      have hb6 := below_alloc1 W5 (.cells #[.int .i64 p1.seg, .int .i64 p1.off, .int .i64 p1.next, .int .i64 p1.next, .bool lst, .slice Ac n cc] 37)
      have HC6 := Lib.hid (own_below HC5.out hb6)
      have HX6 := Lib.hid (block_up HX5.out hb6)
      have HO6 := Lib.hid (own_below HO5.out hb6)
      have HE6 : Hid (∀ x ∈ ps, (W5.alloc (.cells #[.int .i64 p1.seg, .int .i64 p1.off, .int .i64 p1.next, .int .i64 p1.next, .bool lst, .slice Ac n cc] 37)).ownsRow W.heap.size 39 2 x.v x.es.length (x.es.flatMap EntS.cells)) := Lib.hid (fun x hx => own_below (HE5.out x hx) hb6)
      have HF6 := Lib.hid (HF5.out.below hb6)
      have HB6 := Lib.hid (below_up HB5.out hb6)
      have hG6 := Lib.hid (hG5.out.below hb6)
      clear hb6 HC5 HX5 HO5 HE5 HF5 HB5 hG5
      refine hK.out _ _ (HQ.out _ hG6.out) (fun hHeld => ?_)
      clear hK K
      (try simp only [Act.put, List.getElem_toArray, List.getElem_cons_succ, List.getElem_cons_zero, List.setIfInBounds_toArray, List.set_cons_zero, List.set_cons_succ])
      generalize (World.alloc W5 _) = W6 at *
      clear hHeld
      refine readyS (rs := [21]) (by kernel_rfl) (by simp) ?_
      refine ReadyS.consH rfl (fun K hK => ?_) ReadyS.nil
      (try simp only [List.getElem_toArray, List.getElem_cons_succ, List.getElem_cons_zero])
      rw [if_pos (by kernel_rfl)]
      refine wp_app _ _ 26 (by rfl) W.heap.size 37 (.agg #[.int .i64 0, .int .i64 0, .int .i64 0, .int .i64 0, .bool false, .slice none 0 0]) 6 64 Try.underlying26 infoP_part rfl (by decide) (by decide) (.slice Ao no co) no (ps.flatMap PartS.cells) (by rfl) _ 1 1 ([(⟨p1, lst, .slice Ac n cc, l.take n⟩ : PartS)].flatMap PartS.cells) (by rfl) HO6.out rfl hNw.out (part_one (by simp [Value.oneCell'])) (by omega) HF6.out.size ?_
      intro A8 c8 w8 hown hgrow hat
      have hG8 := Lib.hid (hG6.out.grown hgrow (fun k hk _ => hk))
      have HX8 := Lib.hid ((hgrow.block q (Array.getElem?_eq_some_iff.1 HX6.out).1 (fun e => own_ne_block HO6.out HX6.out (by decide) e.symm)).trans HX6.out)
      have HF8 := Lib.hid (HF6.out.grown hgrow (fun k e hk => absurd (own_base HO6.out k e) (by omega)))
      have HO8 : Hid (w8.ownsRow W.heap.size 37 6 (.slice A8 (no + 1) c8) (no + 1) ((ps ++ [(⟨p1, lst, .slice Ac n cc, l.take n⟩ : PartS)]).flatMap PartS.cells)) := Lib.hid (by rw [List.flatMap_append]; exact hown)
      have hmv : ∀ {x : Value} {m : Nat} {xs : List Value}, W6.ownsRow W.heap.size 39 2 x m xs → w8.ownsRow W.heap.size 39 2 x m xs := fun {x m xs} ho => own_move ho (fun k hk => hgrow.block k (own_lt ho k hk) (fun e => by
        obtain ⟨cs, hcs⟩ := own_typed ho k hk
        exact own_ne_block HO6.out hcs (by decide) e.symm))
      have HE8 : Hid (∀ x ∈ ps ++ [(⟨p1, lst, .slice Ac n cc, l.take n⟩ : PartS)], w8.ownsRow W.heap.size 39 2 x.v x.es.length (x.es.flatMap EntS.cells)) := Lib.hid (fun x hx => by
        rcases List.mem_append.1 hx with hx | hx
        · exact hmv (HE6.out x hx)
        · rw [List.mem_singleton.1 hx]
          have := hmv HC6.out
          show w8.ownsRow W.heap.size 39 2 (.slice Ac n cc) (l.take n).length ((l.take n).flatMap EntS.cells)
          rw [HLtn.out]
          exact this)
      clear hown hgrow hat hmv HC6 HX6 HO6 HE6 HF6 HB6 hG6 hNw
      refine hK.out _ _ (HQ.out _ hG8.out) (fun hHeld => ?_)
      clear hK K
      (try simp only [Act.put, List.getElem_toArray, List.getElem_cons_succ, List.getElem_cons_zero, List.setIfInBounds_toArray, List.set_cons_zero, List.set_cons_succ])
      refine takeF (i := 22) (v := ?_) rfl (by kernel_rfl) (fun _ _ _ h => h) (Or.inl ⟨by kernel_rfl, ?_⟩) (by assumption) ?_; rotate_left; (focus (intro w _; go_simp; (try with_reducible rfl); done)); (try simp only [Act.put, List.getElem_toArray, List.getElem_cons_succ, List.getElem_cons_zero, List.setIfInBounds_toArray, List.set_cons_zero, List.set_cons_succ])
      clear hHeld
      refine doneS (by kernel_rfl) ?_ _
      have q3 := (pl_all HX8.out).2.2.2.1
      have f3 := free_block HX8.out 3
      have ks : IntKind.i64.wrap (p1.off + s) = p1.off + s := by rw [IntWalk.i64_in _ (by omega)]
      have tn5 : (0 : Int) ≤ n := by omega
      have HX9 := Lib.hid (blk_set HX8.out 3 (.int .i64 (p1.off + s)))
      have HF9 := Lib.hid (HF8.out.set (p := ⟨q, 3, none⟩) (fun _ => rfl) (.int .i64 (p1.off + s)))
      have HO9 := Lib.hid (own_set HO8.out (p := ⟨q, 3, none⟩) (own_ne_block HO8.out HX8.out (by decide)) (.int .i64 (p1.off + s)))
      have HE9 := Lib.hid (fun x hx => own_set (HE8.out x hx) (p := ⟨q, 3, none⟩) (own_ne_block (HE8.out x hx) HX8.out (by decide)) (.int .i64 (p1.off + s)))
      obtain ⟨gl, ol, rfl, herest⟩ := erd_rest HV.out n tn2 hpos
      have HRest := Lib.hid herest
      clear herest
      go_wp2
      refine ⟨⟨k', ⟨p1.seg, p1.off + s, p1.next⟩, f1, v1, l.drop n, ps ++ [(⟨p1, lst, .slice Ac n cc, l.take n⟩ : PartS)], ?_, ?_, HRest.out, ?_, by omega, HX9.out, HI2.out, ?_, ?_, ?_, HE9.out, HF9.out⟩, by simp [slLen]; omega⟩
      · rw [List.map_append]
        have h := HR2.out
        rw [hlst] at h
        exact h
      · rw [List.length_drop]; omega
      · rw [List.length_append, List.length_drop, List.length_singleton]; omega
      · show 0 ≤ p1.off + s; omega
      · show p1.off + s ≤ g.siz; omega
      · have h := HO9.out
        subst hno
        rw [List.length_append]
        exact h
    · have hR := HR.out
      rw [HNone.out hon] at hR
      have HR2 : Hid (R = none) := Lib.hid hR
      have HF2 := Lib.hid (HF.out.trans hF2 (fun _ _ h => h))
      clear hR hF2
      go_wp2
      go_ret2
      exact ⟨.inr ⟨HR2.out, rfl⟩, HF2.out⟩
end Go.Proofs.Ythpnlgdcijmocaa.Pl
