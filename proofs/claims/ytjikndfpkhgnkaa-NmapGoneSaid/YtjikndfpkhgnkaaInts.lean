/- Slices of ints that are read; croftplain.Ints. -/
import Derived.Test.YtjikndfpkhgnkaaArr
namespace Go.Proofs.Ytjikndfpkhgnkaa
open Go.RowKit
set_option linter.unusedVariables false
set_option linter.unusedSimpArgs false

def iv (l : List Int) : List Value := l.map (Value.int .i64)
theorem iv_length (l : List Int) : (iv l).length = l.length := by simp [iv]
theorem iv_append (a b : List Int) : iv (a ++ b) = iv a ++ iv b := by simp [iv]
theorem iv_get (l : List Int) (i : Nat) : (iv l)[i]? = (l[i]?).map (Value.int .i64) := by simp [iv]
theorem iv_one (l : List Int) : ∀ u ∈ iv l, u.oneCell' = true := by
  intro u hu
  simp only [iv, List.mem_map] at hu
  obtain ⟨c, _, rfl⟩ := hu
  rfl
theorem info_i64 : (Try.prog.info? 3).map (fun i => (i.zero, i.size, i.bytes)) = some (some (.int .i64 0), 1, 8) := by kernel_rfl
/-- A slice value of ints that is read. -/
def IRd (w : World) (v : Value) (l : List Int) : Prop := ∃ A c, v = .slice A l.length c ∧ l.length ≤ c ∧ Rd w A (iv l)
theorem IRd.below {w w1 : World} {v : Value} {l : List Int} (h : IRd w v l) (hb : Below w.heap.size w w1) : IRd w1 v l := by
  obtain ⟨A, c, e, h1, h2⟩ := h
  exact ⟨A, c, e, h1, h2.below hb⟩
theorem ird_nil (w : World) : IRd w (.slice none 0 0) [] := ⟨none, 0, rfl, Nat.le_refl _, Rd.nil _ _⟩
theorem ird_own {w : World} {base n : Nat} {e : TypeId} {v : Value} {l : List Int} (h : w.ownsRow base e 1 v n (iv l)) : IRd w v l := by
  obtain ⟨A, c, e, h1, h2, h3, h4⟩ := own_rd h
  have hl : l.length = n := by have := h.1; rw [iv_length] at this; omega
  subst hl
  exact ⟨A, c, e, h1, h3⟩
theorem IRd.get {w : World} {A : Option Addr} {n c : Nat} {l : List Int} (h : IRd w (.slice A n c) l) {k : Nat} (hk : k < l.length) : ∃ ad, A = some ad ∧ w.cell? (ad.add k) = some (.int .i64 l[k]) := by
  obtain ⟨A', c', e, _, hr⟩ := h
  injection e with e1 e2 e3
  subst e1
  obtain ⟨ad, e, hc⟩ := hr.at_ (i := k) (by rw [iv_length]; exact hk)
  exact ⟨ad, e, by rw [hc]; simp [iv]⟩
theorem IRd.len {w : World} {A : Option Addr} {n c : Nat} {l : List Int} (h : IRd w (.slice A n c) l) : n = l.length ∧ n ≤ c := by
  obtain ⟨A', c', e, h1, _⟩ := h
  injection e with e1 e2 e3
  omega
set_option maxHeartbeats 1000000 in
theorem ints_ok (v1 v2 : Value) (l1 l2 : List Int) (w : World) (h1 : IRd w v1 l1) (h2 : IRd w v2 l2) (hl1 : l1.length ≤ 140737488355328) (hl2 : l2.length ≤ 140737488355328) :
    Calls Try.prog 16 #[v1, v2] w fun e w' => e = .returned (.bool (decide (l1 = l2))) ∧ Below w.heap.size w w' := by
  have H := Lib.hid (And.intro h1 h2)
  obtain ⟨A1, c1, rfl, _, _⟩ := h1
  obtain ⟨A2, c2, rfl, _, _⟩ := h2
  by_cases hlen : l1.length = l2.length
  · have d0 : ((l1.length : Int) != l2.length) = false := by simp [hlen]
    have d0' : (l1.length == l2.length) = true := by simp [hlen]
    have HL := Lib.hid hlen; clear hlen
    go_enter Try.func16, Try.ntmps16
    go_wp2_with fail
    go_loopw [5] (fun vi W => ∃ k : Nat, k ≤ l1.length ∧ vi = .int .i64 k ∧ l1.take k = l2.take k ∧ Below w.heap.size w W) (fun vi _ => l1.length - (intOf vi).toNat)
    case atStart => exact ⟨0, by omega, rfl, by simp, Below.refl _ _⟩
    obtain ⟨k, hk, rfl, htk, hbel⟩ := hrel
    have HT := Lib.hid (And.intro htk hbel); clear htk hbel
    by_cases hlt : k < l1.length
    · have d : decide ((k : Int) < l1.length) = true := decide_eq_true (by omega)
      have hlt2 : k < l2.length := by rw [← HL.out]; exact hlt
      obtain ⟨ad1, rfl, k1⟩ := H.out.1.get hlt
      obtain ⟨ad2, rfl, k2⟩ := H.out.2.get hlt2
      have k1 := cell_up k1 HT.out.2
      have k2 := cell_up k2 HT.out.2
      by_cases hx : l1[k] = l2[k]
      · have ht : l1.take (k + 1) = l2.take (k + 1) := by rw [List.take_succ_eq_append_getElem hlt, List.take_succ_eq_append_getElem hlt2, HT.out.1, hx]
        have HT2 := Lib.hid ht; clear ht
        rw [← hx] at k2
        clear hx
        generalize l1[k] = x at *
        go_wp2_with fail
        go_quiet (fail)
        go_wp2
        exact ⟨⟨k + 1, by omega, by simp, HT2.out, HT.out.2.trans ⟨rfl, rfl, rfl, Nat.le_refl _, fun _ _ => rfl⟩⟩, by simp [intOf]; omega⟩
      · have hne : ¬ l1 = l2 := fun e => hx (by subst e; rfl)
        have HN := Lib.hid hne; clear hne
        have d2 : (l1[k] != l2[k]) = true := by simpa using hx
        have HX := Lib.hid hx; clear hx
        generalize l1[k] = x at *
        generalize l2[k] = y at *
        go_wp2_with fail
        go_quiet (fail)
        go_wp2
        go_ret
        exact ⟨ret_bool (decide_eq_false HN.out).symm, HT.out.2.trans ⟨rfl, rfl, rfl, Nat.le_refl _, fun _ _ => rfl⟩⟩
    · have hkl : k = l1.length := by omega
      subst hkl
      have d : decide ((l1.length : Int) < l1.length) = false := decide_eq_false (by omega)
      go_wp2
      go_ret
      have := HT.out.1
      rw [List.take_length, HL.out, List.take_length] at this
      exact ⟨ret_bool (decide_eq_true this).symm, HT.out.2⟩
  · have d0 : ((l1.length : Int) != l2.length) = true := by simp; omega
    have d0' : (l1.length == l2.length) = false := by simp [hlen]
    have hne : ¬ l1 = l2 := fun e => hlen (by rw [e])
    have HN := Lib.hid hne; clear hne
    have HL := Lib.hid hlen; clear hlen
    go_enter Try.func16, Try.ntmps16
    go_wp2
    go_ret
    exact ⟨ret_bool (decide_eq_false HN.out).symm, Below.refl _ _⟩
end Go.Proofs.Ytjikndfpkhgnkaa
