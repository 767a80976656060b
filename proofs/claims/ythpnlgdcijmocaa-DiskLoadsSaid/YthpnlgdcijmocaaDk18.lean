/- The walk over croftlaw14.DiskLoads. -/
import Derived.Test.YthpnlgdcijmocaaDk17
namespace Go.Proofs.Ythpnlgdcijmocaa.Dk
open Go.RowKit Rg Mp
set_option linter.unusedVariables false
set_option linter.unusedSimpArgs false
theorem SlAt.up {w w' : World} {v : Value} {ls : List (List UInt8)} (h : SlAt w v ls) (hb : Below w.heap.size w w') : SlAt w' v ls := by
  obtain ⟨A, c, e, hel⟩ := h
  refine ⟨A, c, e, fun i hi => ?_⟩
  obtain ⟨ad, x, e1, e2, e3⟩ := hel i hi
  exact ⟨ad, x, e1, cell_up e2 hb, e3.below hb⟩
theorem SlAt.take {w : World} {A : Option Addr} {n c c' : Nat} {ls : List (List UInt8)} (h : SlAt w (.slice A n c) ls) {k : Nat} (hk : k ≤ ls.length) : SlAt w (.slice A k c') (ls.take k) := by
  obtain ⟨A', c0, e, hel⟩ := h
  cases e
  refine ⟨A, c', by rw [List.length_take, Nat.min_eq_left hk], fun i hi => ?_⟩
  have hi' : i < ls.length := by rw [List.length_take] at hi; omega
  obtain ⟨ad, x, e1, e2, e3⟩ := hel i hi'
  exact ⟨ad, x, e1, e2, by rw [List.getElem_take]; exact e3⟩
section
variable {L : Int → Prop} {W W' w0 : World} {base N g r : Nat} {vs vw vf : Value} {d d' : DkS}
theorem stay_l (h : DAt L W base N g vs vw r d) {v : Value} {l : List Oc} (h0 : SlAt w0 v l) (hb : Below w0.heap.size w0 W) (hle : w0.heap.size ≤ base) (W' : World) (hf : Fr (DO g vs vw r) W W') : SlAt W' v l := h0.up (hb.trans ((DO_bel h hf).mono hle))
theorem stay_n (h : DAt L W base N g vs vw r d) {B n : Nat} {v : Value} {b : List Int} (hs : W.ownsRow B 3 1 v n (iv b)) (W' : World) (hf : Fr (DO g vs vw r) W W') : IRd W' v b := ird_own (own_ty hs hf (DO_ty h (by decide) (by decide) (by decide)))
end
/-- The disk ahead of Load. -/
def pw0 (F : Oc) : DkS := power { new 6 with waits := [(0, F)] } [30]
theorem loads_plain (F : Oc) (hF : F.length = 256) :
    (wrE (new 6) 0 F = 0 ∧ wrD (new 6) 0 F = { new 6 with waits := [(0, F)] }) ∧ (wrE (pw0 F) 5 F = 0 ∧ wrD (pw0 F) 5 F = { pw0 F with waits := [(5, F)] }) ∧
    ((pw0 F).sure.length = 6 ∧ (pw0 F).odd.length = 6 ∧ (pw0 F).off = false ∧ (pw0 F).cut = 0 ∧ (pw0 F).fates = [] ∧ (pw0 F).fail = -1 ∧ (pw0 F).waits = []) ∧ (∀ i, 1 ≤ i → (pw0 F).odd.getD i false = false) := by
  have hl : (pw0 F).sure.length = 6 := settle_len _ _
  have h1 : brkB (new 6) = false := rfl
  have h2 : brkB (pw0 F) = false := rfl
  have h3 : (new 6).sure.length = 6 := rfl
  have hodd : ∀ (d : DkS) (w : Wt) (f : Int), (fate1 d w f).odd.length = d.odd.length ∧ ∀ i, w.1 ≠ i → (fate1 d w f).odd.getD i false = d.odd.getD i false := fun d w f => by
    have key : ∀ b o, (put d w.1 b o).odd.length = d.odd.length ∧ ∀ i, w.1 ≠ i → (put d w.1 b o).odd.getD i false = d.odd.getD i false := fun b o => ⟨by simp [put], fun i hi => by
      simp only [put, List.getD_eq_getElem?_getD, List.getElem?_set_ne hi]⟩
    unfold fate1
    split
    · exact key _ _
    · split
      · exact ⟨rfl, fun _ _ => rfl⟩
      · unfold tear
        split
        · exact key _ _
        · split
          · exact ⟨rfl, fun _ _ => rfl⟩
          · exact key _ _
  have ho := hodd { new 6 with waits := [(0, F)] } (0, F) 30
  refine ⟨⟨?_, ?_⟩, ⟨?_, ?_⟩, ⟨hl, ho.1, rfl, rfl, (fate1_rest { new 6 with waits := [(0, F)] } (0, F) 30).2.2.2.1, rfl, rfl⟩, fun i hi => (ho.2 i (by show 0 ≠ i; omega)).trans ?_⟩
  · unfold wrE; rw [h1, h3, if_neg (by decide), if_neg (by decide), if_neg (by omega)]
  · unfold wrD; rw [h1, h3, if_neg (by decide), if_neg (by decide), if_neg (by omega)]; rfl
  · unfold wrE; rw [h2, hl, if_neg (by decide), if_neg (by decide), if_neg (by omega)]
  · unfold wrD; rw [h2, hl, if_neg (by decide), if_neg (by decide), if_neg (by omega)]; rfl
  · have key : ∀ m i, (List.replicate m false).getD i false = false := fun m i => by
      rw [List.getD_eq_getElem?_getD]
      by_cases h : i < m
      · rw [List.getElem?_eq_getElem (by simpa using h)]; simp
      · rw [List.getElem?_eq_none (by simp; omega)]; rfl
    exact key 6 i
theorem ldN_rest (d : DkS) (l : List Oc) : ∀ k, (ldN d l k).off = d.off ∧ (ldN d l k).cut = d.cut ∧ (ldN d l k).fates = d.fates ∧ (ldN d l k).fail = d.fail
  | 0 => ⟨rfl, rfl, rfl, rfl⟩
  | k + 1 => ldN_rest d l k
theorem ldN_get (d : DkS) (l : List Oc) : ∀ k, k ≤ d.sure.length → ∀ i, i < k → (ldN d l k).sure.getD i [] = pad (l.getD i [])
  | 0, _, i, h => absurd h (by omega)
  | k + 1, hk, i, h => by
    show ((ldN d l k).sure.set k _).getD i [] = _
    rw [List.getD_eq_getElem?_getD]
    by_cases e : k = i
    · subst e
      rw [List.getElem?_set_self (by rw [ldN_len]; omega)]; rfl
    · rw [List.getElem?_set_ne e, ← List.getD_eq_getElem?_getD]
      exact ldN_get d l k (by omega) i (by omega)
theorem ldN_odd (d : DkS) (l : List Oc) (h1 : ∀ i, 1 ≤ i → d.odd.getD i false = false) : ∀ k, k ≤ d.odd.length → ∀ i, 1 ≤ k ∨ 1 ≤ i → (ldN d l k).odd.getD i false = false
  | 0, _, i, h => h1 i (by omega)
  | k + 1, hk, i, h => by
    show ((ldN d l k).odd.set k false).getD i false = false
    rw [List.getD_eq_getElem?_getD]
    by_cases e : k = i
    · subst e
      rw [List.getElem?_set_self (by rw [ldN_olen]; omega)]; rfl
    · rw [List.getElem?_set_ne e, ← List.getD_eq_getElem?_getD]
      exact ldN_odd d l h1 k (by omega) i (by omega)
/-- The disk behind Load. -/
theorem loaded_plain (F : Oc) (l : List Oc) (hF : F.length = 256) : ∃ d4, loadD { pw0 F with waits := [(5, F)] } l = d4 ∧ d4.waits = [] ∧ d4.sure.length = 6 ∧ brk d4 = d4 ∧ (∀ i : Nat, i < 6 → rdE d4 i = 0 ∧ (i < l.length → rdV d4 i = pad (l.getD i []))) ∧ (l ≠ [] → oddN d4 6 = []) := by
  obtain ⟨_, _, ⟨s1, s2, s3, s4, s5, s6, s7⟩, s8⟩ := loads_plain F hF
  obtain ⟨d3, hd3⟩ : ∃ d3, ({ pw0 F with waits := [(5, F)] } : DkS) = d3 := ⟨_, rfl⟩
  have t1 : d3.sure.length = 6 := by rw [← hd3]; exact s1
  have t2 : d3.odd.length = 6 := by rw [← hd3]; exact s2
  have t3 : d3.off = false := by rw [← hd3]; exact s3
  have t6 : d3.fail = -1 := by rw [← hd3]; exact s6
  have t8 : ∀ i, 1 ≤ i → d3.odd.getD i false = false := by rw [← hd3]; exact s8
  rw [hd3]
  obtain ⟨m, hm⟩ : ∃ m, min l.length d3.sure.length = m := ⟨_, rfl⟩
  have hm6 : m ≤ 6 := by omega
  obtain ⟨r1, r2, r3, r4⟩ := ldN_rest d3 l m
  have hoff : (loadD d3 l).off = false := by unfold loadD; rw [hm]; exact r1.trans t3
  have hfail : (loadD d3 l).fail = -1 := by unfold loadD; rw [hm]; exact r4.trans t6
  have hlen : (loadD d3 l).sure.length = 6 := by unfold loadD; exact (ldN_len _ _ _).trans t1
  have hbrk : brkB (loadD d3 l) = false := by unfold brkB; rw [hoff, hfail]; rfl
  have hw : (loadD d3 l).waits = [] := rfl
  refine ⟨_, rfl, hw, hlen, ?_, fun i hi => ⟨?_, fun hl => ?_⟩, fun hne => ?_⟩
  · unfold brk; rw [hoff, hfail, if_neg (by decide), if_neg (by decide), if_neg (by decide)]
  · unfold rdE; rw [hbrk, hlen, if_neg (by decide), if_neg (by omega)]
  · unfold rdV; rw [hbrk, hlen, if_neg (by decide), if_neg (by omega)]
    unfold rd
    rw [hw]
    show (loadD d3 l).sure.getD i [] = _
    unfold loadD
    rw [hm]
    exact ldN_get d3 l m (by omega) i (by omega)
  · have hpos : 0 < l.length := List.length_pos_iff.2 hne
    unfold oddN
    have : (List.range 6).filter (fun i => (loadD d3 l).odd.getD i false) = [] := by
      rw [List.filter_eq_nil_iff]
      intro i _
      have : (loadD d3 l).odd.getD i false = false := by unfold loadD; rw [hm]; exact ldN_odd d3 l t8 m (by omega) i (by omega)
      rw [this]; decide
    rw [this]; rfl
end Go.Proofs.Ythpnlgdcijmocaa.Dk
