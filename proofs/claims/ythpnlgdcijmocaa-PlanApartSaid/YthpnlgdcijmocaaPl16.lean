/- PlanApart, plainly. -/
import Derived.Test.YthpnlgdcijmocaaPl14
namespace Go.Proofs.Ythpnlgdcijmocaa.Pl
open Go.RowKit Rg
set_option linter.unusedVariables false
set_option linter.unusedSimpArgs false
def cnt (l : List EntS) : Nat := l.countP (fun e => e.kind == 1)
theorem needL_cnt (e : EntS) : needL e = (cnt [e] : Nat) := by
  unfold needL cnt
  by_cases h : e.kind = 1
  · rw [if_pos h]; simp [h]
  · rw [if_neg h]; simp [h]
theorem cnt_cons (e : EntS) (l : List EntS) : (cnt (e :: l) : Int) = needL e + cnt l := by
  rw [needL_cnt]; unfold cnt; rw [List.countP_cons, List.countP_singleton]; omega
theorem takeL_sum (r : Int) : ∀ (l : List EntS) (n : Nat) (s : Int), (takeL r n s l).2 = s + cnt (l.take ((takeL r n s l).1 - n)) ∧ n ≤ (takeL r n s l).1
  | [], n, s => by simp [takeL, cnt]
  | e :: t, n, s => by
    unfold takeL
    split
    · simp [cnt]
    · obtain ⟨h1, h2⟩ := takeL_sum r t (n + 1) (s + needL e)
      refine ⟨?_, by omega⟩
      rw [h1]
      obtain ⟨k, hk⟩ : ∃ k, (takeL r (n + 1) (s + needL e) t).1 - n = k + 1 := ⟨(takeL r (n + 1) (s + needL e) t).1 - n - 1, by omega⟩
      rw [hk, show (takeL r (n + 1) (s + needL e) t).1 - (n + 1) = k by omega, List.take_succ_cons, cnt_cons]
      omega
/-- The sectors that are used are none of those that may come. -/
structure InvP (S : Nat) (p : PlcS) (free : List Int) (u : Nat → Bool) : Prop where
  nd : (p.seg :: p.next :: free).Nodup
  rng : ∀ x ∈ p.seg :: p.next :: free, 0 ≤ x ∧ x < 12
  old : ∀ c, u c = true → ((c / S : Nat) : Int) ∉ p.next :: free ∧ (((c / S : Nat) : Int) = p.seg → ((c % S : Nat) : Int) < p.off)
theorem inv_on {g : GeS} {S : Nat} {p p1 : PlcS} {free f1 : List Int} {u : Nat → Bool} (h : InvP S p free u) (hon : onL g p free = some (p1, f1)) : InvP S p1 f1 u := by
  unfold onL at hon
  split at hon
  · simp only [Option.some.injEq, Prod.mk.injEq] at hon
    obtain ⟨rfl, rfl⟩ := hon
    exact h
  · cases free with
    | nil => cases hon
    | cons a t =>
      simp only [Option.some.injEq, Prod.mk.injEq] at hon
      obtain ⟨rfl, rfl⟩ := hon
      obtain ⟨h1, h2, h3⟩ := h
      refine ⟨(List.nodup_cons.1 h1).2, fun x hx => h2 x (List.mem_cons_of_mem _ hx), fun c hc => ?_⟩
      obtain ⟨h4, _⟩ := h3 c hc
      refine ⟨fun hm => h4 (List.mem_cons_of_mem _ hm), fun he => absurd (he ▸ List.mem_cons_self) h4⟩
theorem at_div {S seg off k : Nat} (h : off + k < S) : (seg * S + off + k) / S = seg ∧ (seg * S + off + k) % S = off + k := by
  have hS : 0 < S := by omega
  rw [Nat.add_assoc]
  exact ⟨by rw [Nat.mul_comm, Nat.mul_add_div hS, Nat.div_eq_of_lt h, Nat.add_zero], by rw [Nat.mul_comm, Nat.mul_add_mod, Nat.mod_eq_of_lt h]⟩
theorem inv_use {S : Nat} {p : PlcS} {free : List Int} {u : Nat → Bool} (h : InvP S p free u) {seg off need : Nat} (hs : p.seg = seg) (ho : p.off = off) (hn : off + need ≤ S) :
    (∀ k, k < need → u (seg * S + off + k) = false) ∧ InvP S ⟨p.seg, p.off + need, p.next⟩ free (fun c => u c || decide (seg * S + off ≤ c ∧ c < seg * S + off + need)) := by
  obtain ⟨h1, h2, h3⟩ := h
  refine ⟨fun k hk => ?_, h1, h2, fun c hc => ?_⟩
  · cases hu : u (seg * S + off + k) with
    | false => rfl
    | true =>
      obtain ⟨e1, e2⟩ := at_div (S := S) (seg := seg) (off := off) (k := k) (by omega)
      have := (h3 _ hu).2 (by rw [e1, hs])
      rw [e2, ho] at this
      omega
  · simp only [Bool.or_eq_true, decide_eq_true_eq] at hc
    rcases hc with hc | ⟨c1, c2⟩
    · obtain ⟨h4, h5⟩ := h3 c hc
      exact ⟨h4, fun he => by have := h5 he; show _ < p.off + (need : Int); omega⟩
    · obtain ⟨k, rfl⟩ : ∃ k, c = seg * S + off + k := ⟨c - (seg * S + off), by omega⟩
      obtain ⟨e1, e2⟩ := at_div (S := S) (seg := seg) (off := off) (k := k) (by omega)
      rw [e1, e2]
      refine ⟨fun hm => ?_, fun _ => by show _ < p.off + (need : Int); omega⟩
      rw [← hs] at hm
      exact (List.nodup_cons.1 h1).1 hm
/-- One part. -/
theorem part_step {g : GeS} {S : Nat} (hS : g.siz = S) (h4 : 4 ≤ g.siz) {K : Nat} {p : PlcS} {free : List Int} {rest : List EntS} {d : PartD} {ds : List PartD} {q : PlcS} {f : List Int} {u : Nat → Bool} (h : allL g K p free rest = some (d :: ds, q, f)) (hi : InvP S p free u) (ho : 0 ≤ p.off) (ho2 : p.off ≤ g.siz) :
    ∃ (K' : Nat) (f' : List Int) (seg off need : Nat), d.p.seg = seg ∧ d.p.off = off ∧ 1 + cnt d.es = need ∧ seg < 12 ∧ off + need ≤ S ∧ 0 < d.es.length ∧ d.es.length ≤ rest.length ∧ f'.length ≤ free.length ∧
      (∀ k, k < need → u (seg * S + off + k) = false) ∧
      allL g K' ⟨d.p.seg, d.p.off + (need : Nat), d.p.next⟩ f' (rest.drop d.es.length) = some (ds, q, f) ∧
      InvP S ⟨d.p.seg, d.p.off + (need : Nat), d.p.next⟩ f' (fun c => u c || decide (seg * S + off ≤ c ∧ c < seg * S + off + need)) := by
  cases rest with
  | nil => rw [allL_nil] at h; simp at h
  | cons e t =>
    cases K with
    | zero => cases h
    | succ k =>
      cases hon : onL g p free with
      | none => rw [allL_on_none hon] at h; cases h
      | some y =>
        obtain ⟨p1, f1⟩ := y
        obtain ⟨r1, r2, r3⟩ := onL_room hon ho h4
        obtain ⟨n, s, ht⟩ : ∃ n s, takeL (g.siz - p1.off) 0 1 (e :: t) = (n, s) := ⟨_, _, rfl⟩
        have hst := allL_step (k := k) hon ht []
        rw [preL_nil, h, List.nil_append] at hst
        have hpos := takeL_pos (g.siz - p1.off) r2 e t
        have hle := takeL_le (g.siz - p1.off) (e :: t) 0 1 (by omega) (by omega)
        have hsum := (takeL_sum (g.siz - p1.off) (e :: t) 0 1).1
        rw [ht] at hpos hle hsum
        simp only [Nat.sub_zero, Nat.zero_add] at hpos hle hsum
        cases hR : allL g k ⟨p1.seg, p1.off + s, p1.next⟩ f1 ((e :: t).drop n) with
        | none => rw [hR] at hst; cases hst
        | some z =>
          obtain ⟨a, b, c⟩ := z
          rw [hR] at hst
          simp only [preL, Option.some.injEq, Prod.mk.injEq, List.cons_append, List.nil_append, List.cons.injEq] at hst
          obtain ⟨⟨rfl, rfl⟩, rfl, rfl⟩ := hst
          have hi1 := inv_on hi hon
          have hseg := hi1.rng p1.seg List.mem_cons_self
          obtain ⟨seg, hseg'⟩ := Int.eq_ofNat_of_zero_le hseg.1
          obtain ⟨off, hoff⟩ := Int.eq_ofNat_of_zero_le r1
          have hnl : ((e :: t).take n).length = n := by rw [List.length_take]; omega
          have hs2 : s = ((1 + cnt ((e :: t).take n) : Nat) : Int) := by rw [hsum]; omega
          have hroom : off + (1 + cnt ((e :: t).take n)) ≤ S := by omega
          obtain ⟨u1, u2⟩ := inv_use hi1 hseg' hoff hroom
          refine ⟨k, f1, seg, off, _, hseg', hoff, rfl, by omega, hroom, by show 0 < ((e :: t).take n).length; omega, by show ((e :: t).take n).length ≤ _; omega, r3, u1, ?_, u2⟩
          show allL g k ⟨p1.seg, p1.off + (1 + cnt ((e :: t).take n) : Nat), p1.next⟩ f1 ((e :: t).drop ((e :: t).take n).length) = _
          rw [hnl, ← hs2]
          exact hR
end Go.Proofs.Ythpnlgdcijmocaa.Pl
