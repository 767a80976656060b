/- Package batch: what is read (no program in sight but for the words of InS). -/
import Derived.Test.YtkjapmafipnmpaaBatch4
namespace Go.Proofs.Ytkjapmafipnmpaa.Bt
open Go.RowKit Lt
set_option linter.unusedVariables false
set_option linter.unusedSimpArgs false
theorem getB_one (c : UInt8) : getB [c] = c.toNat := by simp [getB]
theorem ok1_next (b : List UInt8) : (inOk b).next 1 = match b with | [] => inBad | _ :: r => inOk r := by
  rw [inOk_next]
  cases b with
  | nil => rfl
  | cons c r => rw [if_neg (by simp)]; rfl
theorem ok1_got (b : List UInt8) : getB ((inOk b).got 1) = match b with | [] => 0 | c :: _ => c.toNat := by
  rw [inOk_got]
  cases b with
  | nil => rfl
  | cons c r => rw [if_neg (by simp)]; exact getB_one c
/-- Entries, as they are read. -/
def rdEs (s : InS) : Nat → InS × List EntS
  | 0 => (s, [])
  | k + 1 => (((rdEs s k).1.next 1).next 1, (rdEs s k).2 ++ [⟨getB ((rdEs s k).1.got 1), getB (((rdEs s k).1.next 1).got 1)⟩])
theorem rdEs_len (s : InS) : ∀ k, (rdEs s k).2.length = k
  | 0 => rfl
  | k + 1 => by rw [rdEs, List.length_append, rdEs_len s k]; rfl
theorem rdEs_ble (s : InS) : ∀ k, (rdEs s k).1.b.length ≤ s.b.length
  | 0 => Nat.le_refl _
  | k + 1 => by
    have := rdEs_ble s k
    have h1 := next_len (rdEs s k).1 1
    have h2 := next_len ((rdEs s k).1.next 1) 1
    rw [rdEs]; simp only; omega
def entL (b : List UInt8) (k : Nat) : List EntS := (List.range k).map fun i => ⟨(b.getD (2 * i) 0).toNat, (b.getD (2 * i + 1) 0).toNat⟩
theorem rdEs_ok (b : List UInt8) : ∀ k, 2 * k ≤ b.length → rdEs (inOk b) k = (inOk (b.drop (2 * k)), entL b k)
  | 0, _ => by simp [rdEs, entL]
  | k + 1, h => by
    have ih := rdEs_ok b k (by omega)
    rw [rdEs, ih]
    have h1 : 2 * k < b.length := by omega
    have h2 : 2 * k + 1 < b.length := by omega
    have e1 : b.drop (2 * k) = b[2 * k] :: b[2 * k + 1] :: b.drop (2 * (k + 1)) := by
      rw [List.drop_eq_getElem_cons h1, List.drop_eq_getElem_cons h2]; rfl
    simp only [e1, ok1_next, ok1_got]
    refine Prod.ext rfl ?_
    show entL b k ++ _ = _
    unfold entL
    rw [List.range_succ, List.map_append]
    simp [List.getD, h1, h2]
theorem rdEs_badk : ∀ k, (rdEs inBad k).1 = inBad
  | 0 => rfl
  | k + 1 => by rw [rdEs, rdEs_badk k]; simp only [inBad_next]
theorem rdEs_bad (b : List UInt8) : ∀ k, b.length < 2 * k → (rdEs (inOk b) k).1 = inBad
  | 0, h => by omega
  | k + 1, h => by
    rw [rdEs]
    by_cases h2 : b.length < 2 * k
    · rw [rdEs_bad b k h2]; simp only [inBad_next]
    · rw [rdEs_ok b k (by omega)]
      simp only [ok1_next]
      have hl : (b.drop (2 * k)).length ≤ 1 := by rw [List.length_drop]; omega
      match hb : b.drop (2 * k), hl with
      | [], _ => simp only [inBad_next]
      | [c], _ => simp only [ok1_next]
/-- What is read, or that nothing is. -/
structure RdS where
  n : Int
  la : Int
  l : List EntS
  s : InS
def rdAll (b : List UInt8) : RdS :=
  let s0 := inOk b
  let s1 := s0.next 1
  let s2 := s1.next 1
  let s3 := s2.next 1
  let r := rdEs s3 (getB (s2.got 1))
  ⟨getB (s0.got 1), getB (s1.got 1), r.2, r.1⟩
def RdS.good (r : RdS) : Bool := decide (r.s.tells = 0 ∧ r.s.b.length = 0 ∧ r.la ≤ 1 ∧ chkSum r.n r.l = 0)
theorem entB_entL (b : List UInt8) (k : Nat) (h : b.length = 2 * k) : entB (entL b k) = b := by
  have gen : ∀ k, 2 * k ≤ b.length → entB (entL b k) = b.take (2 * k) := by
    intro k
    induction k with
    | zero => intro _; simp [entL, entB]
    | succ k ih =>
      intro hk
      have h1 : 2 * k < b.length := by omega
      have h2 : 2 * k + 1 < b.length := by omega
      have e : entL b (k + 1) = entL b k ++ [⟨(b.getD (2 * k) 0).toNat, (b.getD (2 * k + 1) 0).toNat⟩] := by unfold entL; rw [List.range_succ, List.map_append]; rfl
      rw [e]
      unfold entB at *
      rw [List.flatMap_append, ih (by omega)]
      have e2 : b.take (2 * (k + 1)) = b.take (2 * k) ++ [b[2 * k]] ++ [b[2 * k + 1]] := by
        rw [show 2 * (k + 1) = 2 * k + 1 + 1 by omega, List.take_succ_eq_append_getElem h2, List.take_succ_eq_append_getElem h1]
      rw [e2, List.append_assoc]
      congr 1
      simp [List.getD, h1, h2]
  rw [gen k (by omega), ← h, List.take_length]
theorem rd_good {b : List UInt8} (h : (rdAll b).good = true) : chkSum (rdAll b).n (rdAll b).l = 0 ∧ sumB (rdAll b).n (decide ((rdAll b).la = 1)) (rdAll b).l = b := by
  have hg := of_decide_eq_true h
  obtain ⟨h1, h2, h3, h4⟩ := hg
  refine ⟨h4, ?_⟩
  match b with
  | [] => exact absurd h1 (by decide)
  | [c] => revert h1; simp only [rdAll, ok1_next, inBad_next, inBad_got]; intro h1; rw [rdEs_badk] at h1; exact absurd h1 (by decide)
  | [c, d] => revert h1; simp only [rdAll, ok1_next, inBad_next, inBad_got, ok1_got]; intro h1; rw [rdEs_badk] at h1; exact absurd h1 (by decide)
  | c :: d :: e :: r =>
    have hn : (rdAll (c :: d :: e :: r)).n = c.toNat := by simp only [rdAll, ok1_got]
    have hla : (rdAll (c :: d :: e :: r)).la = d.toNat := by simp only [rdAll, ok1_next, ok1_got]
    have hs : (rdAll (c :: d :: e :: r)).s = (rdEs (inOk r) e.toNat).1 := by simp only [rdAll, ok1_next, ok1_got]
    have hl : (rdAll (c :: d :: e :: r)).l = (rdEs (inOk r) e.toNat).2 := by simp only [rdAll, ok1_next, ok1_got]
    rw [hn, hla, hl]
    rw [hs] at h1 h2
    rw [hla] at h3
    rcases Nat.lt_or_ge r.length (2 * e.toNat) with hlt | hge
    · rw [rdEs_bad r _ hlt] at h1; exact absurd h1 (by decide)
    · rw [rdEs_ok r _ hge] at h2 ⊢
      have hlen : r.length = 2 * e.toNat := by
        have : (r.drop (2 * e.toNat)).length = 0 := h2
        rw [List.length_drop] at this; omega
      unfold sumB
      have hll : (entL r e.toNat).length = e.toNat := by simp [entL]
      show [UInt8.ofNat (c.toNat : Int).toNat, UInt8.ofNat (flagZ _).toNat, UInt8.ofNat (entL r e.toNat).length] ++ entB (entL r e.toNat) = _
      rw [entB_entL r _ hlen, hll, Int.toNat_natCast]
      have hd : UInt8.ofNat (flagZ (decide ((d.toNat : Int) = 1))).toNat = d := by
        rcases (by omega : d.toNat = 0 ∨ d.toNat = 1) with hd | hd
        · have e0 : d = 0 := by rw [← UInt8.ofNat_toNat (x := d), hd]; rfl
          subst e0; decide
        · have e0 : d = 1 := by rw [← UInt8.ofNat_toNat (x := d), hd]; rfl
          subst e0; decide
      rw [hd, UInt8.ofNat_toNat, UInt8.ofNat_toNat]
      rfl
theorem entL_entB (l : List EntS) (h : ∀ e ∈ l, e.odd = false) : entL (entB l) l.length = l := by
  induction l with
  | nil => rfl
  | cons e l ih =>
    obtain ⟨hk, i1, i2⟩ := EntS.odd_false (h e (by simp))
    have ih := ih fun x hx => h x (by simp [hx])
    have e1 : entB (e :: l) = UInt8.ofNat e.kind.toNat :: UInt8.ofNat e.id.toNat :: entB l := rfl
    rw [e1]
    unfold entL at *
    rw [List.length_cons, List.range_succ_eq_map, List.map_cons, List.map_map]
    have h0 : (⟨((UInt8.ofNat e.kind.toNat :: UInt8.ofNat e.id.toNat :: entB l).getD (2 * 0) 0).toNat, ((UInt8.ofNat e.kind.toNat :: UInt8.ofNat e.id.toNat :: entB l).getD (2 * 0 + 1) 0).toNat⟩ : EntS) = e := by
      simp only [Nat.mul_zero, Nat.zero_add, List.getD_cons_zero, List.getD_cons_succ]
      have a1 : (UInt8.ofNat e.kind.toNat).toNat = e.kind.toNat := by simp; omega
      have a2 : (UInt8.ofNat e.id.toNat).toNat = e.id.toNat := by simp; omega
      rw [a1, a2]
      cases e
      simp only [EntS.mk.injEq] at *
      omega
    rw [h0]
    congr 1
theorem rd_put {next : Int} {last : Bool} {l : List EntS} (h : chkSum next l = 0) : (rdAll (sumB next last l)).good = true ∧ (rdAll (sumB next last l)).n = next ∧ decide ((rdAll (sumB next last l)).la = 1) = last ∧ (rdAll (sumB next last l)).l = l := by
  obtain ⟨h1, h2, h3, h4⟩ := chk_zero h
  have e : sumB next last l = UInt8.ofNat next.toNat :: UInt8.ofNat (flagZ last).toNat :: UInt8.ofNat l.length :: entB l := rfl
  rw [e]
  have a1 : ((UInt8.ofNat next.toNat).toNat : Int) = next := by
    have : (UInt8.ofNat next.toNat).toNat = next.toNat := by simp; omega
    omega
  have a3 : (UInt8.ofNat l.length).toNat = l.length := by simp; omega
  have a2 : ((UInt8.ofNat (flagZ last).toNat).toNat : Int) = flagZ last := by cases last <;> decide
  have hr := rdEs_ok (entB l) l.length (by rw [entB_len]; exact Nat.le_refl _)
  have hl0 : (entB l).drop (2 * l.length) = [] := List.drop_eq_nil_of_le (by rw [entB_len]; exact Nat.le_refl _)
  rw [entL_entB l h4, hl0] at hr
  have hn : (rdAll (UInt8.ofNat next.toNat :: UInt8.ofNat (flagZ last).toNat :: UInt8.ofNat l.length :: entB l)).n = next := by simp only [rdAll, ok1_got]; exact a1
  have hla : (rdAll (UInt8.ofNat next.toNat :: UInt8.ofNat (flagZ last).toNat :: UInt8.ofNat l.length :: entB l)).la = flagZ last := by simp only [rdAll, ok1_next, ok1_got]; exact a2
  have hs : (rdAll (UInt8.ofNat next.toNat :: UInt8.ofNat (flagZ last).toNat :: UInt8.ofNat l.length :: entB l)).s = inOk [] := by simp only [rdAll, ok1_next, ok1_got, a3, hr]
  have hl : (rdAll (UInt8.ofNat next.toNat :: UInt8.ofNat (flagZ last).toNat :: UInt8.ofNat l.length :: entB l)).l = l := by simp only [rdAll, ok1_next, ok1_got, a3, hr]
  refine ⟨decide_eq_true ?_, hn, ?_, hl⟩
  · rw [hn, hla, hs, hl]
    have := flagZ_bnd last
    exact ⟨rfl, rfl, this.2, h⟩
  · rw [hla]; cases last <;> decide
theorem sumB_len (next : Int) (last : Bool) (l : List EntS) : (sumB next last l).length = 3 + 2 * l.length := by
  unfold sumB; rw [List.length_append, entB_len]; rfl
/-- What is cut is none. -/
theorem rd_cut {next : Int} {last : Bool} {l : List EntS} (h : chkSum next l = 0) (c : Nat) (hc : c < (sumB next last l).length) : (rdAll ((sumB next last l).take c)).good = false := by
  cases hb : (rdAll ((sumB next last l).take c)).good
  · rfl
  · exfalso
    obtain ⟨g1, g2⟩ := rd_good hb
    obtain ⟨_, _, h3, _⟩ := chk_zero h
    obtain ⟨_, _, k3, _⟩ := chk_zero g1
    have hlen := congrArg List.length g2
    rw [sumB_len, List.length_take, Nat.min_eq_left (by omega)] at hlen
    have h2 : _ = ((sumB next last l).take c)[2]? := congrArg (fun x : List UInt8 => x[2]?) g2
    rw [List.getElem?_take, if_pos (by omega)] at h2
    have e1 : (sumB (rdAll ((sumB next last l).take c)).n (decide ((rdAll ((sumB next last l).take c)).la = 1)) (rdAll ((sumB next last l).take c)).l)[2]? = some (UInt8.ofNat (rdAll ((sumB next last l).take c)).l.length) := rfl
    have e2 : (sumB next last l)[2]? = some (UInt8.ofNat l.length) := rfl
    rw [e1, e2] at h2
    injection h2 with h2
    have h5 := congrArg UInt8.toNat h2
    have a1 : (UInt8.ofNat l.length).toNat = l.length := by simp; omega
    have a2 : (UInt8.ofNat (rdAll ((sumB next last l).take c)).l.length).toNat = (rdAll ((sumB next last l).take c)).l.length := by simp; omega
    rw [a1, a2] at h5
    rw [sumB_len] at hc
    omega
end Go.Proofs.Ytkjapmafipnmpaa.Bt
