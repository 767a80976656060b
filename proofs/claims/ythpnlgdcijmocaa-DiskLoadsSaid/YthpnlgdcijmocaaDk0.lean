/- A disk, plainly: what is sure, what waits, what the calls make of it. -/
import Derived.Test.YthpnlgdcijmocaaBase
namespace Go.Proofs.Ythpnlgdcijmocaa.Dk
set_option linter.unusedVariables false
set_option linter.unusedSimpArgs false
abbrev Oc := List UInt8
abbrev Wt := Nat × Oc
structure DkS where
  sure : List Oc
  waits : List Wt
  odd : List Bool
  off : Bool
  cut : Nat
  fates : List Int
  fail : Int
/-- All sectors have 256 octets, and what waits is of a sector. -/
structure Ok (d : DkS) : Prop where
  sec : ∀ b ∈ d.sure, b.length = 256
  wt : ∀ w ∈ d.waits, w.1 < d.sure.length ∧ w.2.length = 256
  odd : d.odd.length = d.sure.length
  many : d.sure.length ≤ 4096
  fail : -1 ≤ d.fail ∧ d.fail ≤ 9223372036854775807
  cut : d.cut ≤ 9223372036854775807
def put (d : DkS) (at_ : Nat) (b : Oc) (odd : Bool) : DkS := { d with sure := d.sure.set at_ b, odd := d.odd.set at_ odd }
def tearB (d : DkS) (w : Wt) (n : Nat) : Oc := w.2.take n ++ (d.sure.getD w.1 []).drop n
def tear (d : DkS) (w : Wt) (n : Nat) : DkS :=
  if tearB d w n = w.2 then put d w.1 w.2 false else if tearB d w n = d.sure.getD w.1 [] then d else put d w.1 (tearB d w n) true
def fate1 (d : DkS) (w : Wt) (f : Int) : DkS := if f = 1 then put d w.1 w.2 false else if f < 2 then d else tear d w ((f - 2) % 256).toNat
def setN (d : DkS) (ws : List Wt) (fs : List Int) : Nat → DkS
  | 0 => d
  | i + 1 => fate1 (setN d ws fs i) (ws.getD i (0, [])) (fs.getD i 0)
def settle (d : DkS) (fs : List Int) : DkS := { setN d d.waits fs d.waits.length with waits := [] }
def flN (d : DkS) (ws : List Wt) : Nat → DkS
  | 0 => d
  | i + 1 => put (flN d ws i) (ws.getD i (0, [])).1 (ws.getD i (0, [])).2 false
def fall (d : DkS) (fs : List Int) : DkS := { settle d fs with off := true, cut := 0 }
def done (d : DkS) : DkS := if d.cut = 0 then d else if d.cut = 1 then fall d d.fates else { d with cut := d.cut - 1 }
def write (d : DkS) (at_ : Nat) (b : Oc) : DkS := done { d with waits := d.waits ++ [(at_, b)] }
def flush (d : DkS) : DkS := done { flN d d.waits d.waits.length with waits := [] }
def brkB (d : DkS) : Bool := d.off || decide (d.fail = 0)
def brk (d : DkS) : DkS := if d.off = true then d else if 0 < d.fail then { d with fail := d.fail - 1 } else if d.fail = 0 then { d with fail := -1 } else d
def cutD (d : DkS) (after : Int) (fs : List Int) : DkS := if d.off = true then d else if after ≤ 0 then fall d fs else { d with cut := after.toNat, fates := fs }
def power (d : DkS) (fs : List Int) : DkS := { (if d.off = true then d else settle d fs) with off := false, cut := 0, fail := -1 }
def failD (d : DkS) (after : Int) : DkS := if d.off = true then d else { d with fail := max after 0 }
/-- What is read of a list of writes: the last one. -/
def lastW : List Wt → Nat → Option Oc
  | [], _ => none
  | w :: ws, at_ => match lastW ws at_ with
    | some b => some b
    | none => if w.1 = at_ then some w.2 else none
def rd (d : DkS) (at_ : Nat) : Oc := (lastW d.waits at_).getD (d.sure.getD at_ [])
def zero256 : Oc := List.replicate 256 0
def new (n : Nat) : DkS := { sure := List.replicate n zero256, waits := [], odd := List.replicate n false, off := false, cut := 0, fates := [], fail := -1 }
theorem put_ok {d : DkS} (h : Ok d) {at_ : Nat} (ha : at_ < d.sure.length) {b : Oc} (hb : b.length = 256) (o : Bool) : Ok (put d at_ b o) where
  sec := fun c hc => by
    rcases List.mem_or_eq_of_mem_set hc with hc | rfl
    · exact h.sec c hc
    · exact hb
  wt := fun w hw => by
    have := h.wt w hw
    simpa [put] using this
  odd := by simpa [put] using h.odd
  many := by simpa [put] using h.many
  fail := h.fail
  cut := h.cut
theorem put_len (d : DkS) (at_ : Nat) (b : Oc) (o : Bool) : (put d at_ b o).sure.length = d.sure.length := by simp [put]
theorem getD_len {d : DkS} (h : Ok d) {at_ : Nat} (ha : at_ < d.sure.length) : (d.sure.getD at_ []).length = 256 := by
  rw [List.getD_eq_getElem?_getD, List.getElem?_eq_getElem ha]
  exact h.sec _ (List.getElem_mem ha)
theorem tearB_len {d : DkS} (h : Ok d) {w : Wt} (hw : w.1 < d.sure.length ∧ w.2.length = 256) {n : Nat} (hn : n ≤ 256) : (tearB d w n).length = 256 := by
  unfold tearB
  rw [List.length_append, List.length_take, List.length_drop, getD_len h hw.1, hw.2]
  omega
theorem tear_ok {d : DkS} (h : Ok d) {w : Wt} (hw : w.1 < d.sure.length ∧ w.2.length = 256) {n : Nat} (hn : n ≤ 256) : Ok (tear d w n) := by
  unfold tear
  split
  · exact put_ok h hw.1 hw.2 _
  · split
    · exact h
    · exact put_ok h hw.1 (tearB_len h hw hn) _
theorem tear_len (d : DkS) (w : Wt) (n : Nat) : (tear d w n).sure.length = d.sure.length := by
  unfold tear
  split
  · exact put_len ..
  · split
    · rfl
    · exact put_len ..
theorem tear_rest (d : DkS) (w : Wt) (n : Nat) : (tear d w n).waits = d.waits ∧ (tear d w n).off = d.off ∧ (tear d w n).cut = d.cut ∧ (tear d w n).fates = d.fates ∧ (tear d w n).fail = d.fail := by
  unfold tear
  split
  · exact ⟨rfl, rfl, rfl, rfl, rfl⟩
  · split <;> exact ⟨rfl, rfl, rfl, rfl, rfl⟩
theorem fate1_ok {d : DkS} (h : Ok d) {w : Wt} (hw : w.1 < d.sure.length ∧ w.2.length = 256) (f : Int) : Ok (fate1 d w f) := by
  unfold fate1
  split
  · exact put_ok h hw.1 hw.2 _
  · split
    · exact h
    · exact tear_ok h hw (by omega)
theorem fate1_len (d : DkS) (w : Wt) (f : Int) : (fate1 d w f).sure.length = d.sure.length := by
  unfold fate1
  split
  · exact put_len ..
  · split
    · rfl
    · exact tear_len ..
theorem fate1_rest (d : DkS) (w : Wt) (f : Int) : (fate1 d w f).waits = d.waits ∧ (fate1 d w f).off = d.off ∧ (fate1 d w f).cut = d.cut ∧ (fate1 d w f).fates = d.fates ∧ (fate1 d w f).fail = d.fail := by
  unfold fate1
  split
  · exact ⟨rfl, rfl, rfl, rfl, rfl⟩
  · split
    · exact ⟨rfl, rfl, rfl, rfl, rfl⟩
    · exact tear_rest ..
theorem setN_len (d : DkS) (ws : List Wt) (fs : List Int) : ∀ i, (setN d ws fs i).sure.length = d.sure.length
  | 0 => rfl
  | i + 1 => (fate1_len ..).trans (setN_len d ws fs i)
theorem setN_ok {d : DkS} (h : Ok d) (ws : List Wt) (hws : ∀ w ∈ ws, w.1 < d.sure.length ∧ w.2.length = 256) (fs : List Int) : ∀ i, i ≤ ws.length → Ok (setN d ws fs i)
  | 0, _ => h
  | i + 1, hi => by
    refine fate1_ok (setN_ok h ws hws fs i (by omega)) ?_ _
    rw [setN_len, List.getD_eq_getElem?_getD, List.getElem?_eq_getElem (by omega)]
    exact hws _ (List.getElem_mem _)
theorem setN_rest (d : DkS) (ws : List Wt) (fs : List Int) : ∀ i, (setN d ws fs i).waits = d.waits ∧ (setN d ws fs i).off = d.off ∧ (setN d ws fs i).cut = d.cut ∧ (setN d ws fs i).fates = d.fates ∧ (setN d ws fs i).fail = d.fail
  | 0 => ⟨rfl, rfl, rfl, rfl, rfl⟩
  | i + 1 => by
    have h1 := fate1_rest (setN d ws fs i) (ws.getD i (0, [])) (fs.getD i 0)
    have h2 := setN_rest d ws fs i
    exact ⟨h1.1.trans h2.1, h1.2.1.trans h2.2.1, h1.2.2.1.trans h2.2.2.1, h1.2.2.2.1.trans h2.2.2.2.1, h1.2.2.2.2.trans h2.2.2.2.2⟩
theorem nowaits_ok {d : DkS} (h : Ok d) : Ok { d with waits := [] } := ⟨h.sec, by simp, h.odd, h.many, h.fail, h.cut⟩
theorem settle_ok {d : DkS} (h : Ok d) (fs : List Int) : Ok (settle d fs) := nowaits_ok (setN_ok h d.waits h.wt fs _ (Nat.le_refl _))
theorem settle_len (d : DkS) (fs : List Int) : (settle d fs).sure.length = d.sure.length := setN_len d d.waits fs _
theorem fall_ok {d : DkS} (h : Ok d) (fs : List Int) : Ok (fall d fs) := by
  have := settle_ok h fs
  exact ⟨this.sec, this.wt, this.odd, this.many, this.fail, by show (0 : Nat) ≤ _; omega⟩
theorem fall_len (d : DkS) (fs : List Int) : (fall d fs).sure.length = d.sure.length := settle_len d fs
theorem flN_len (d : DkS) (ws : List Wt) : ∀ i, (flN d ws i).sure.length = d.sure.length
  | 0 => rfl
  | i + 1 => (put_len ..).trans (flN_len d ws i)
theorem flN_ok {d : DkS} (h : Ok d) (ws : List Wt) (hws : ∀ w ∈ ws, w.1 < d.sure.length ∧ w.2.length = 256) : ∀ i, i ≤ ws.length → Ok (flN d ws i)
  | 0, _ => h
  | i + 1, hi => by
    have := hws _ (List.getElem_mem (show i < ws.length by omega))
    refine put_ok (flN_ok h ws hws i (by omega)) ?_ ?_ _
    · rw [flN_len, List.getD_eq_getElem?_getD, List.getElem?_eq_getElem (by omega)]; exact this.1
    · rw [List.getD_eq_getElem?_getD, List.getElem?_eq_getElem (by omega)]; exact this.2
theorem flN_rest (d : DkS) (ws : List Wt) : ∀ i, (flN d ws i).waits = d.waits ∧ (flN d ws i).off = d.off ∧ (flN d ws i).cut = d.cut ∧ (flN d ws i).fates = d.fates ∧ (flN d ws i).fail = d.fail
  | 0 => ⟨rfl, rfl, rfl, rfl, rfl⟩
  | i + 1 => flN_rest d ws i
theorem done_ok {d : DkS} (h : Ok d) : Ok (done d) := by
  unfold done
  split
  · exact h
  · split
    · exact fall_ok h _
    · exact ⟨h.sec, h.wt, h.odd, h.many, h.fail, by have := h.cut; show d.cut - 1 ≤ _; omega⟩
theorem done_len (d : DkS) : (done d).sure.length = d.sure.length := by
  unfold done
  split
  · rfl
  · split
    · exact fall_len ..
    · rfl
theorem more_ok {d : DkS} (h : Ok d) {at_ : Nat} (ha : at_ < d.sure.length) {b : Oc} (hb : b.length = 256) : Ok { d with waits := d.waits ++ [(at_, b)] } :=
  ⟨h.sec, fun w hw => by
    rcases List.mem_append.1 hw with hw | hw
    · exact h.wt w hw
    · rw [List.mem_singleton.1 hw]; exact ⟨ha, hb⟩, h.odd, h.many, h.fail, h.cut⟩
theorem write_ok {d : DkS} (h : Ok d) {at_ : Nat} (ha : at_ < d.sure.length) {b : Oc} (hb : b.length = 256) : Ok (write d at_ b) := done_ok (more_ok h ha hb)
theorem write_len (d : DkS) (at_ : Nat) (b : Oc) : (write d at_ b).sure.length = d.sure.length := done_len _
theorem flush_ok {d : DkS} (h : Ok d) : Ok (flush d) := done_ok (nowaits_ok (flN_ok h d.waits h.wt _ (Nat.le_refl _)))
theorem flush_len (d : DkS) : (flush d).sure.length = d.sure.length := (done_len _).trans (flN_len d d.waits _)
theorem brk_ok {d : DkS} (h : Ok d) : Ok (brk d) := by
  have := h.fail
  unfold brk
  split
  · exact h
  · split
    · exact ⟨h.sec, h.wt, h.odd, h.many, by show -1 ≤ d.fail - 1 ∧ d.fail - 1 ≤ _; omega, h.cut⟩
    · split
      · exact ⟨h.sec, h.wt, h.odd, h.many, by show (-1 : Int) ≤ -1 ∧ (-1 : Int) ≤ _; omega, h.cut⟩
      · exact h
theorem brk_same (d : DkS) : (brk d).sure = d.sure ∧ (brk d).waits = d.waits ∧ (brk d).odd = d.odd ∧ (brk d).off = d.off ∧ (brk d).cut = d.cut ∧ (brk d).fates = d.fates := by
  unfold brk
  split
  · exact ⟨rfl, rfl, rfl, rfl, rfl, rfl⟩
  · split
    · exact ⟨rfl, rfl, rfl, rfl, rfl, rfl⟩
    · split <;> exact ⟨rfl, rfl, rfl, rfl, rfl, rfl⟩
theorem cutD_ok {d : DkS} (h : Ok d) {after : Int} (ha : after ≤ 9223372036854775807) (fs : List Int) : Ok (cutD d after fs) := by
  unfold cutD
  split
  · exact h
  · split
    · exact fall_ok h fs
    · exact ⟨h.sec, h.wt, h.odd, h.many, h.fail, by show after.toNat ≤ _; omega⟩
theorem cutD_len (d : DkS) (after : Int) (fs : List Int) : (cutD d after fs).sure.length = d.sure.length := by
  unfold cutD
  split
  · rfl
  · split
    · exact fall_len ..
    · rfl
theorem power_ok {d : DkS} (h : Ok d) (fs : List Int) : Ok (power d fs) := by
  have h1 : Ok (if d.off = true then d else settle d fs) := by
    split
    · exact h
    · exact settle_ok h fs
  exact ⟨h1.sec, h1.wt, h1.odd, h1.many, by show (-1 : Int) ≤ -1 ∧ (-1 : Int) ≤ _; omega, by show (0 : Nat) ≤ _; omega⟩
theorem power_len (d : DkS) (fs : List Int) : (power d fs).sure.length = d.sure.length := by
  show (if d.off = true then d else settle d fs).sure.length = _
  split
  · rfl
  · exact settle_len ..
theorem failD_ok {d : DkS} (h : Ok d) {after : Int} (ha : after ≤ 9223372036854775807) : Ok (failD d after) := by
  unfold failD
  split
  · exact h
  · exact ⟨h.sec, h.wt, h.odd, h.many, by show -1 ≤ max after 0 ∧ max after 0 ≤ _; omega, h.cut⟩
theorem failD_len (d : DkS) (after : Int) : (failD d after).sure.length = d.sure.length := by
  unfold failD; split <;> rfl
theorem new_ok {n : Nat} (hn : n ≤ 4096) : Ok (new n) :=
  ⟨fun b hb => by rw [List.eq_of_mem_replicate hb]; exact List.length_replicate, by simp [new], by simp [new], by simpa [new] using hn, by show (-1 : Int) ≤ -1 ∧ (-1 : Int) ≤ _; omega, by show (0 : Nat) ≤ _; omega⟩
theorem lastW_snoc (ws : List Wt) (w : Wt) (at_ : Nat) : lastW (ws ++ [w]) at_ = if w.1 = at_ then some w.2 else lastW ws at_ := by
  induction ws with
  | nil => simp [lastW]
  | cons v ws ih =>
    rw [List.cons_append, lastW, ih, lastW]
    by_cases h : w.1 = at_
    · rw [if_pos h, if_pos h]
    · rw [if_neg h, if_neg h]
/-- Seen from behind. -/
theorem lastW_take (ws : List Wt) (at_ k : Nat) (hk : k < ws.length) : lastW (ws.take (k + 1)) at_ = if ws[k].1 = at_ then some ws[k].2 else lastW (ws.take k) at_ := by
  rw [List.take_succ_eq_append_getElem hk, lastW_snoc]
theorem rd_len {d : DkS} (h : Ok d) {at_ : Nat} (ha : at_ < d.sure.length) : (rd d at_).length = 256 := by
  have key : ∀ ws : List Wt, (∀ w ∈ ws, w.2.length = 256) → ∀ b, lastW ws at_ = some b → b.length = 256 := by
    intro ws
    induction ws with
    | nil => intro _ b hb; cases hb
    | cons w ws ih =>
      intro hw b hb
      unfold lastW at hb
      cases hl : lastW ws at_ with
      | some c =>
        rw [hl] at hb
        cases hb
        exact ih (fun v hv => hw v (by simp [hv])) _ hl
      | none =>
        rw [hl] at hb
        simp only at hb
        split at hb
        · cases hb; exact hw w (by simp)
        · cases hb
  unfold rd
  cases hl : lastW d.waits at_ with
  | some b => exact key d.waits (fun w hw => (h.wt w hw).2) b hl
  | none => exact getD_len h ha
end Go.Proofs.Ythpnlgdcijmocaa.Dk
