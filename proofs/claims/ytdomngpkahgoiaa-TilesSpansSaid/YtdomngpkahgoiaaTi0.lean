/- Cells, windows, plainly: quarters, what Cover does round by round. -/
import Derived.Test.YtdomngpkahgoiaaZmath2
import Derived.Test.YtdomngpkahgoiaaZwalk2
import Derived.Test.YtdomngpkahgoiaaRc
namespace Go.Proofs.Ytdomngpkahgoiaa.Ti
open Go.RowKit Zw
set_option linter.unusedVariables false
set_option linter.unusedSimpArgs false
structure CeS where
  x : Nat
  y : Nat
  l : Int
deriving Inhabited, DecidableEq
namespace CeS
def cells (c : CeS) : List Value := [.int .u32 (c.x : Nat), .int .u32 (c.y : Nat), .int .i64 c.l]
theorem cells_len (c : CeS) : c.cells.length = 3 := rfl
theorem cells_one (c : CeS) : ∀ u ∈ c.cells, u.oneCell' = true := by simp [cells, Value.oneCell']
def fine (c : CeS) : Prop := c.x < 4294967296 ∧ c.y < 4294967296 ∧ -9223372036854775808 ≤ c.l ∧ c.l ≤ 9223372036854775807
def fix (c : CeS) : CeS := ⟨cut (lv c.l) c.x, cut (lv c.l) c.y, (lv c.l : Nat)⟩
def good (c : CeS) : Prop := c.fine ∧ c.fix = c
def rect (c : CeS) : RcS := ⟨cut (lv c.l) c.x, cut (lv c.l) c.y, cut (lv c.l) c.x + msk (lv c.l), cut (lv c.l) c.y + msk (lv c.l)⟩
def has (c : CeS) (u v : Nat) : Bool := decide (cut (lv c.l) u = cut (lv c.l) c.x ∧ cut (lv c.l) v = cut (lv c.l) c.y)
def kid (c : CeS) (q : Nat) : CeS := if lv c.l = 32 then c.fix else ⟨cut (lv c.l) c.x + q % 2 * 2 ^ (31 - lv c.l), cut (lv c.l) c.y + q / 2 % 2 * 2 ^ (31 - lv c.l), ((lv c.l + 1 : Nat) : Int)⟩
def root : CeS := ⟨0, 0, 0⟩
end CeS
abbrev cev (c : CeS) : Value := .agg #[.int .u32 (c.x : Nat), .int .u32 (c.y : Nat), .int .i64 c.l]
open CeS RcS
theorem lv_lv (l : Int) : lv ((lv l : Nat) : Int) = lv l := lv_id _ (lv_le l)
theorem msk_cut' {l x : Nat} (hx : x < 4294967296) (hl : l ≤ 32) : cut l x + msk l < 4294967296 := by
  have hp : 0 < 2 ^ (32 - l) := Nat.two_pow_pos _
  unfold cut msk
  have h1 : x / 2 ^ (32 - l) < 2 ^ l := by
    rw [Nat.div_lt_iff_lt_mul hp, ← Nat.pow_add, show l + (32 - l) = 32 by omega]; exact hx
  have h2 : (x / 2 ^ (32 - l) + 1) * 2 ^ (32 - l) ≤ 2 ^ l * 2 ^ (32 - l) := Nat.mul_le_mul_right _ h1
  rw [← Nat.pow_add, show l + (32 - l) = 32 by omega, Nat.add_mul] at h2
  omega
theorem rect_fine {c : CeS} (h : c.fine) : c.rect.fine := by
  have h1 := lv_le c.l
  have a := msk_cut' (l := lv c.l) h.1 h1
  have b := msk_cut' (l := lv c.l) h.2.1 h1
  exact ⟨by show cut _ _ < _; omega, by show cut _ _ < _; omega, a, b⟩
theorem rect_emp (c : CeS) : c.rect.emp = false := by
  rw [Bool.eq_false_iff, Ne, RcS.emp_iff]
  show ¬ (cut (lv c.l) c.x + msk (lv c.l) < cut (lv c.l) c.x ∨ cut (lv c.l) c.y + msk (lv c.l) < cut (lv c.l) c.y)
  omega
theorem fix_good {c : CeS} (h : c.fine) : c.fix.good := by
  have h1 := lv_le c.l
  refine ⟨⟨cut_lt h.1, cut_lt h.2.1, by show _ ≤ ((lv c.l : Nat) : Int); omega, by show ((lv c.l : Nat) : Int) ≤ _; omega⟩, ?_⟩
  simp only [CeS.fix, lv_lv, cut_cut]
theorem fix_rect (c : CeS) : c.fix.rect = c.rect := by simp only [CeS.fix, CeS.rect, lv_lv, cut_cut]
theorem fix_has (c : CeS) (u v : Nat) : c.fix.has u v = c.has u v := by simp only [CeS.fix, CeS.has, lv_lv, cut_cut]
theorem good_x {c : CeS} (h : c.good) : cut (lv c.l) c.x = c.x ∧ cut (lv c.l) c.y = c.y ∧ ((lv c.l : Nat) : Int) = c.l := by
  have := h.2
  obtain ⟨x, y, l⟩ := c
  simp only [CeS.fix, CeS.mk.injEq] at this
  exact this
theorem root_good : root.good := ⟨by simp [CeS.fine, root], by simp [CeS.fix, root, cut, lv]⟩
/-- The levels' numbers. -/
theorem lev_ex (c : CeS) : ∃ n, lv c.l = n ∧ n ≤ 32 := ⟨_, rfl, lv_le _⟩
theorem kid_good {c : CeS} (h : c.good) (hl : lv c.l ≠ 32) (q : Nat) : (c.kid q).good ∧ lv (c.kid q).l = lv c.l + 1 := by
  have hx := good_x h
  have hf := h.1
  have h1 := lv_le c.l
  unfold CeS.kid
  rw [if_neg hl]
  obtain ⟨n, hn⟩ : ∃ n, lv c.l = n := ⟨_, rfl⟩
  rw [hn] at hx h1 hl ⊢
  have hlv : lv ((n + 1 : Nat) : Int) = n + 1 := lv_id _ (by omega)
  obtain ⟨hh, hhe⟩ : ∃ hh, 2 ^ (31 - n) = hh := ⟨_, rfl⟩
  have h2 : 2 ^ (32 - n) = 2 * hh := by rw [← hhe, show 32 - n = (31 - n) + 1 by omega, Nat.pow_succ]; omega
  have h3 : 2 ^ (32 - (n + 1)) = hh := by rw [← hhe, show 32 - (n + 1) = 31 - n by omega]
  have hpos : 0 < hh := by rw [← hhe]; exact Nat.two_pow_pos _
  have key : ∀ x b, x < 4294967296 → cut n x = x → b < 2 → cut (n + 1) (cut n x + b * hh) = cut n x + b * hh ∧ cut n x + b * hh < 4294967296 := fun x b hx he hb => by
    constructor
    · unfold cut
      rw [h2, h3]
      rw [show x / (2 * hh) * (2 * hh) + b * hh = (2 * (x / (2 * hh)) + b) * hh by rw [Nat.add_mul, Nat.mul_comm 2 hh, ← Nat.mul_assoc, Nat.mul_comm (x / (hh * 2)) hh, Nat.mul_assoc, Nat.mul_comm (x / (hh * 2)) 2, Nat.mul_comm hh (2 * _)]]
      rw [Nat.mul_div_cancel _ hpos]
    · have := msk_cut' (l := n) hx (by omega)
      unfold msk at this
      rw [h2] at this
      have : b * hh ≤ 1 * hh := Nat.mul_le_mul_right _ (by omega)
      omega
  obtain ⟨k1, k2⟩ := key c.x (q % 2) hf.1 hx.1 (by omega)
  obtain ⟨k3, k4⟩ := key c.y (q / 2 % 2) hf.2.1 hx.2.1 (by omega)
  refine ⟨⟨⟨?_, ?_, ?_, ?_⟩, ?_⟩, hlv⟩
  · show _ + _ * 2 ^ (31 - n) < _; rw [hhe]; exact k2
  · show _ + _ * 2 ^ (31 - n) < _; rw [hhe]; exact k4
  · show _ ≤ ((n + 1 : Nat) : Int); omega
  · show ((n + 1 : Nat) : Int) ≤ _; omega
  · simp only [CeS.fix, hlv, hhe, k1, k3]
/-- Who is in which quarter. -/
theorem kid_has {c : CeS} (h : c.good) (hl : lv c.l ≠ 32) (u v : Nat) : ∃ p r a b, c.has u v = decide (p / 2 = a ∧ r / 2 = b) ∧ ∀ q, (c.kid q).has u v = decide (p = 2 * a + q % 2 ∧ r = 2 * b + q / 2 % 2) := by
  have hx := good_x h
  have h1 := lv_le c.l
  obtain ⟨n, hn⟩ : ∃ n, lv c.l = n := ⟨_, rfl⟩
  have hlv : lv ((n + 1 : Nat) : Int) = n + 1 := lv_id _ (by omega)
  obtain ⟨hh, hhe⟩ : ∃ hh, 2 ^ (31 - n) = hh := ⟨_, rfl⟩
  have h2 : 2 ^ (32 - n) = hh * 2 := by rw [← hhe, show 32 - n = (31 - n) + 1 by omega, Nat.pow_succ]
  have h3 : 2 ^ (32 - (n + 1)) = hh := by rw [← hhe, show 32 - (n + 1) = 31 - n by omega]
  have hpos : 0 < hh := by rw [← hhe]; exact Nat.two_pow_pos _
  rw [hn] at hx hl
  refine ⟨u / hh, v / hh, c.x / (hh * 2), c.y / (hh * 2), ?_, fun q => ?_⟩
  · unfold CeS.has
    rw [hn, decide_eq_decide, Zm.cut_eq, Zm.cut_eq, h2, Nat.div_div_eq_div_mul, Nat.div_div_eq_div_mul]
  · unfold CeS.has CeS.kid
    rw [hn, if_neg hl]
    show decide (cut (lv ((n + 1 : Nat) : Int)) u = cut (lv ((n + 1 : Nat) : Int)) (cut n c.x + q % 2 * 2 ^ (31 - n)) ∧ cut (lv ((n + 1 : Nat) : Int)) v = cut (lv ((n + 1 : Nat) : Int)) (cut n c.y + q / 2 % 2 * 2 ^ (31 - n))) = _
    rw [hlv, decide_eq_decide, Zm.cut_eq, Zm.cut_eq, h3, hhe]
    have e : ∀ x b, (cut n x + b * hh) / hh = 2 * (x / (hh * 2)) + b := fun x b => by
      unfold cut
      rw [h2, show x / (hh * 2) * (hh * 2) + b * hh = (2 * (x / (hh * 2)) + b) * hh by rw [Nat.add_mul, Nat.mul_comm hh 2, ← Nat.mul_assoc, Nat.mul_comm _ 2]]
      exact Nat.mul_div_cancel _ hpos
    rw [e, e]
def split (c : CeS) (r : RcS) : List CeS := ((List.range 4).map (CeS.kid c)).filter fun k => k.rect.meets r
theorem four_cases : ∀ P0 P1 R0 R1 : Bool, (P0 && P1) = false → (R0 && R1) = false → 0 + (if (P1 && R1) = true then 1 else 0) + (if (P0 && R1) = true then 1 else 0) + (if (P1 && R0) = true then 1 else 0) + (if (P0 && R0) = true then 1 else 0) = if ((P0 || P1) && (R0 || R1)) = true then 1 else 0 := by decide
theorem kids_count {c : CeS} (h : c.good) (hl : lv c.l ≠ 32) (u v : Nat) : ((List.range 4).map (CeS.kid c)).countP (fun k => k.has u v) = if c.has u v then 1 else 0 := by
  obtain ⟨p, r, a, b, h1, h2⟩ := kid_has h hl u v
  have e0 : ∀ x y : Nat, decide (x / 2 = y) = (decide (x = 2 * y) || decide (x = 2 * y + 1)) := fun x y => by
    rw [Bool.eq_iff_iff, Bool.or_eq_true, decide_eq_true_iff, decide_eq_true_iff, decide_eq_true_iff]; omega
  have n0 : ∀ x y : Nat, (decide (x = 2 * y) && decide (x = 2 * y + 1)) = false := fun x y => by
    rw [Bool.and_eq_false_iff, decide_eq_false_iff_not, decide_eq_false_iff_not]; omega
  rw [h1, show List.range 4 = [0, 1, 2, 3] from rfl, Bool.decide_and, e0, e0, ← four_cases _ _ _ _ (n0 p a) (n0 r b)]
  simp only [List.map_cons, List.map_nil, List.countP_cons, List.countP_nil, h2, Bool.decide_and]
  rfl
theorem has_in {c : CeS} {u v : Nat} (h : c.has u v = true) : c.rect.In u v := by
  unfold CeS.has at h
  rw [decide_eq_true_iff, Zm.cut_eq, Zm.cut_eq] at h
  have hp : 0 < 2 ^ (32 - lv c.l) := Nat.two_pow_pos _
  simp only [RcS.In, CeS.rect, cut, msk]
  generalize 2 ^ (32 - lv c.l) = p at *
  rw [← h.1, ← h.2]
  have e1 := Nat.div_add_mod u p
  have e2 := Nat.mod_lt u hp
  have e3 := Nat.div_add_mod v p
  have e4 := Nat.mod_lt v hp
  rw [Nat.mul_comm] at e1 e3
  omega
theorem in_has {c : CeS} {u v : Nat} (h : c.rect.In u v) : c.has u v = true := by
  unfold CeS.has
  rw [decide_eq_true_iff, Zm.cut_eq, Zm.cut_eq]
  have hp : 0 < 2 ^ (32 - lv c.l) := Nat.two_pow_pos _
  simp only [RcS.In, CeS.rect, cut, msk] at h
  generalize 2 ^ (32 - lv c.l) = p at *
  obtain ⟨h1, h2, h3, h4⟩ := h
  exact ⟨Nat.div_eq_of_lt_le h1 (by rw [Nat.add_mul]; omega), Nat.div_eq_of_lt_le h3 (by rw [Nat.add_mul]; omega)⟩
theorem in_meets {c : CeS} {r : RcS} {u v : Nat} (h : c.has u v = true) (hr : r.In u v) : c.rect.meets r = true := by
  rw [meets_iff]
  have := has_in h
  have he := rect_emp c
  simp only [RcS.emp, Bool.or_eq_false_iff, decide_eq_false_iff_not] at he
  unfold RcS.In at *
  omega
theorem split_count {c : CeS} (h : c.good) (hl : lv c.l ≠ 32) {r : RcS} {u v : Nat} (hr : r.In u v) : (split c r).countP (fun k => k.has u v) = if c.has u v then 1 else 0 := by
  rw [← kids_count h hl, split, List.countP_filter]
  refine List.countP_congr fun k _ => ?_
  rw [Bool.and_eq_true]
  exact ⟨fun h => h.1, fun h => ⟨h, in_meets h hr⟩⟩
theorem split_le (c : CeS) (r : RcS) : (split c r).length ≤ 4 := Nat.le_trans (List.length_filter_le _ _) (by simp)
theorem split_all {c : CeS} (h : c.good) (hl : lv c.l ≠ 32) {r : RcS} : ∀ k ∈ split c r, k.good ∧ lv k.l = lv c.l + 1 ∧ k.rect.meets r = true := fun k hk => by
  obtain ⟨h1, h2⟩ := List.mem_filter.1 hk
  obtain ⟨q, _, rfl⟩ := List.mem_map.1 h1
  exact ⟨(kid_good h hl q).1, (kid_good h hl q).2, h2⟩
/-- Can that cell be replaced? -/
def cand (r : RcS) (m : Nat) (n : Nat) (c : CeS) : Bool := !(c.rect.within r || decide (c.l = 32)) && decide (n - 1 + (split c r).length ≤ m)
inductive Reach (r : RcS) (m : Nat) : List CeS → Prop
  | root : Reach r m [root]
  | step {A B : List CeS} {c : CeS} : Reach r m (A ++ c :: B) → cand r m (A ++ c :: B).length c = true → Reach r m (A ++ split c r ++ B)
theorem root_meets {r : RcS} (hr : r.fine) (he : r.emp = false) : root.rect.meets r = true := by
  rw [meets_iff]
  simp only [RcS.emp, Bool.or_eq_false_iff, decide_eq_false_iff_not] at he
  obtain ⟨h1, h2, h3, h4⟩ := hr
  simp only [root, CeS.rect, lv, cut, msk]
  simp
  omega
theorem root_has {u v : Nat} (hu : u < 4294967296) (hv : v < 4294967296) : root.has u v = true := by
  apply in_has
  simp only [RcS.In, root, CeS.rect, lv, cut, msk]
  simp
  omega
structure Inv (r : RcS) (m : Nat) (L : List CeS) : Prop where
  all : ∀ c ∈ L, c.good ∧ c.rect.meets r = true
  le : L.length ≤ m
  one : ∀ u v, r.In u v → L.countP (fun k => k.has u v) = 1
theorem cand_lv {r : RcS} {m n : Nat} {c : CeS} (hg : c.good) (h : cand r m n c = true) : lv c.l ≠ 32 ∧ n - 1 + (split c r).length ≤ m := by
  simp only [cand, Bool.and_eq_true, Bool.not_eq_true', Bool.or_eq_false_iff, decide_eq_true_eq, decide_eq_false_iff_not] at h
  refine ⟨fun e => h.1.2 ?_, h.2⟩
  have := (good_x hg).2.2
  rw [e] at this
  exact this.symm
theorem reach_inv {r : RcS} {m : Nat} (hr : r.fine) (he : r.emp = false) (hm : 1 ≤ m) {L : List CeS} (h : Reach r m L) : Inv r m L := by
  induction h with
  | root =>
    refine ⟨fun c hc => ?_, hm, fun u v hin => ?_⟩
    · rw [List.mem_singleton.1 hc]; exact ⟨root_good, root_meets hr he⟩
    · simp only [List.countP_cons, List.countP_nil]
      obtain ⟨h1, h2, h3, h4⟩ := hr
      unfold RcS.In at hin
      rw [if_pos (root_has (by omega) (by omega))]
  | @step A B c _ hc ih =>
    have hcm : c ∈ A ++ c :: B := by simp
    have hg := (ih.all c hcm).1
    obtain ⟨hl, hle⟩ := cand_lv hg hc
    refine ⟨fun k hk => ?_, ?_, fun u v hin => ?_⟩
    · rcases List.mem_append.1 hk with hk | hk
      · rcases List.mem_append.1 hk with hk | hk
        · exact ih.all k (by simp [hk])
        · have := split_all hg hl k hk; exact ⟨this.1, this.2.2⟩
      · exact ih.all k (by simp [hk])
    · simp only [List.length_append, List.length_cons] at hle ⊢; omega
    · have h1 := ih.one u v hin
      have h2 := split_count hg hl hin
      simp only [List.countP_append, List.countP_cons] at h1 ⊢
      rw [h2]; omega
/-- What falls from round to round. -/
def msr (L : List CeS) : Nat := (L.map fun c => 5 ^ (32 - lv c.l)).sum
theorem msr_append (A B : List CeS) : msr (A ++ B) = msr A + msr B := by simp [msr]
theorem msr_le (K : Nat) : ∀ L : List CeS, (∀ k ∈ L, 5 ^ (32 - lv k.l) = K) → msr L = L.length * K
  | [], _ => by simp [msr]
  | c :: L, h => by
    have := msr_le K L (fun k hk => h k (by simp [hk]))
    simp only [msr, List.map_cons, List.sum_cons, List.length_cons] at *
    rw [this, h c (by simp), Nat.succ_mul]; omega
theorem msr_step {r : RcS} {m : Nat} {A B : List CeS} {c : CeS} (hg : c.good) (h : cand r m (A ++ c :: B).length c = true) : msr (A ++ split c r ++ B) < msr (A ++ c :: B) := by
  obtain ⟨hl, _⟩ := cand_lv hg h
  have h1 := lv_le c.l
  have h2 := msr_le (5 ^ (31 - lv c.l)) (split c r) (fun k hk => by rw [(split_all hg hl k hk).2.1, show 32 - (lv c.l + 1) = 31 - lv c.l by omega])
  have h3 := split_le c r
  have h4 : 5 ^ (32 - lv c.l) = 5 * 5 ^ (31 - lv c.l) := by rw [show 32 - lv c.l = (31 - lv c.l) + 1 by omega, Nat.pow_succ]; omega
  have h5 : 0 < 5 ^ (31 - lv c.l) := Nat.pow_pos (by decide)
  have h6 : (split c r).length * 5 ^ (31 - lv c.l) ≤ 4 * 5 ^ (31 - lv c.l) := Nat.mul_le_mul_right _ h3
  rw [msr_append, msr_append, msr_append, h2]
  have : msr (c :: B) = 5 ^ (32 - lv c.l) + msr B := by simp [msr]
  rw [this, h4]; omega
/-- A window that is a cell. -/
theorem nest {k c : CeS} (hk : k.good) (hc : c.good) (hl : lv k.l ≤ lv c.l) : k.rect.meets c.rect = true ↔ k.has c.x c.y = true := by
  constructor
  · intro h
    rw [meets_iff] at h
    have hx := good_x hk
    have hy := good_x hc
    unfold CeS.has
    rw [decide_eq_true_iff, Zm.cut_eq, Zm.cut_eq]
    have h2 := h.2
    simp only [CeS.rect, msk] at h2
    have hlk := lv_le k.l
    have hlc := lv_le c.l
    obtain ⟨t, ht⟩ : ∃ t, 2 ^ (32 - lv k.l) = t * 2 ^ (32 - lv c.l) := ⟨2 ^ (lv c.l - lv k.l), by rw [← Nat.pow_add]; congr 1; omega⟩
    have hs : 0 < 2 ^ (32 - lv c.l) := Nat.two_pow_pos _
    have hkp : 0 < 2 ^ (32 - lv k.l) := Nat.two_pow_pos _
    have key : ∀ X Y : Nat, cut (lv k.l) X ≤ cut (lv c.l) Y + (2 ^ (32 - lv c.l) - 1) → cut (lv c.l) Y ≤ cut (lv k.l) X + (2 ^ (32 - lv k.l) - 1) → cut (lv c.l) Y = Y → Y / 2 ^ (32 - lv k.l) = X / 2 ^ (32 - lv k.l) := fun X Y a b e => by
      unfold cut at a b e
      rw [ht] at a b ⊢
      generalize 2 ^ (32 - lv c.l) = s at *
      generalize X / (t * s) = P at *
      rw [← e]
      generalize Y / s = Q at *
      rw [Nat.mul_div_mul_right _ _ hs]
      rw [← Nat.mul_assoc] at a b
      have a1 : P * t ≤ Q := by
        rcases Nat.lt_or_ge Q (P * t) with h | h
        · exfalso
          have := Nat.mul_le_mul_right s (show Q + 1 ≤ P * t from h)
          rw [Nat.add_mul] at this; omega
        · exact h
      have b1 : Q < P * t + t := by
        rcases Nat.lt_or_ge Q (P * t + t) with h | h
        · exact h
        · exfalso
          have := Nat.mul_le_mul_right s h
          rw [Nat.add_mul] at this
          have : 0 < t * s := by rw [← ht]; exact hkp
          omega
      exact Nat.div_eq_of_lt_le a1 (by rw [Nat.add_mul]; omega)
    exact ⟨key k.x c.x h2.1 h2.2.1 hy.1, key k.y c.y h2.2.2.1 h2.2.2.2 hy.2.1⟩
  · intro h
    refine in_meets h ?_
    have hy := good_x hc
    simp only [RcS.In, CeS.rect, hy.1, hy.2.1]
    omega
theorem split_cell {k c : CeS} (hk : k.good) (hc : c.good) (hl : lv k.l < lv c.l) (hh : k.has c.x c.y = true) : ∃ d, split k c.rect = [d] ∧ d.has c.x c.y = true := by
  have h32 := lv_le c.l
  have hn : lv k.l ≠ 32 := by omega
  have e : split k c.rect = ((List.range 4).map (CeS.kid k)).filter fun d => d.has c.x c.y := by
    unfold split
    refine List.filter_congr fun d hd => ?_
    obtain ⟨q, _, rfl⟩ := List.mem_map.1 hd
    have hg := kid_good hk hn q
    rw [Bool.eq_iff_iff]
    exact nest hg.1 hc (by rw [hg.2]; omega)
  have hl1 : (split k c.rect).length = 1 := by
    rw [e, ← List.countP_eq_length_filter, kids_count hk hn, if_pos hh]
  obtain ⟨d, hd⟩ := List.length_eq_one_iff.1 hl1
  refine ⟨d, hd, ?_⟩
  have : d ∈ split k c.rect := by rw [hd]; simp
  rw [e] at this
  exact (List.mem_filter.1 this).2
theorem has_top {k c : CeS} (hk : k.good) (hc : c.good) (hl : lv k.l = lv c.l) (hh : k.has c.x c.y = true) : k = c := by
  have hx := good_x hk
  have hy := good_x hc
  unfold CeS.has at hh
  rw [decide_eq_true_iff, hl, hy.1, hy.2.1, ← hl, hx.1, hx.2.1] at hh
  obtain ⟨a, b, l⟩ := k
  obtain ⟨a', b', l'⟩ := c
  simp only at hh hx hy hl ⊢
  rw [hh.1, hh.2, ← hx.2.2, ← hy.2.2, hl]
theorem reach_cell {c : CeS} (hc : c.good) {m : Nat} {L : List CeS} (h : Reach c.rect m L) : ∃ k, L = [k] ∧ k.good ∧ lv k.l ≤ lv c.l ∧ k.has c.x c.y = true := by
  induction h with
  | root => exact ⟨_, rfl, root_good, by show lv 0 ≤ _; simp [lv], root_has hc.1.1 hc.1.2.1⟩
  | @step A B k _ hcd ih =>
    obtain ⟨k', e, hg, hl, hh⟩ := ih
    have hA : A = [] := by
      cases A with
      | nil => rfl
      | cons a A => simp at e
    subst hA
    rw [List.nil_append] at e hcd
    obtain ⟨rfl, rfl⟩ : k = k' ∧ B = [] := by simpa using e
    obtain ⟨hn, _⟩ := cand_lv hg hcd
    have hlt : lv k.l < lv c.l := by
      rcases Nat.lt_or_ge (lv k.l) (lv c.l) with h | h
      · exact h
      · exfalso
        have := has_top hg hc (by omega) hh
        subst this
        simp only [cand, Bool.and_eq_true, Bool.not_eq_true', Bool.or_eq_false_iff] at hcd
        have hw := (RcS.within_iff k.rect k.rect (rect_emp k)).2 ⟨Nat.le_refl _, Nat.le_refl _, Nat.le_refl _, Nat.le_refl _⟩
        rw [hw] at hcd
        exact absurd hcd.1.1 (by decide)
    obtain ⟨d, hd, hdh⟩ := split_cell hg hc hlt hh
    have hm : d ∈ split k c.rect := by rw [hd]; simp
    have := split_all hg hn d hm
    exact ⟨d, by rw [hd]; rfl, this.1, by rw [this.2.1]; omega, hdh⟩
theorem reach_done {c : CeS} (hc : c.good) {m : Nat} (hm : 1 ≤ m) {L : List CeS} (h : Reach c.rect m L) (hno : ∀ k ∈ L, cand c.rect m L.length k = false) : L = [c] := by
  obtain ⟨k, rfl, hg, hl, hh⟩ := reach_cell hc h
  rcases Nat.lt_or_ge (lv k.l) (lv c.l) with hlt | hge
  · exfalso
    have h0 := hno k (by simp)
    obtain ⟨d, hd, _⟩ := split_cell hg hc hlt hh
    have h32 := lv_le c.l
    have hx := good_x hg
    have hk : ¬ k.l = 32 := fun e => by rw [e, show lv 32 = 32 from rfl] at hlt; omega
    have hw : k.rect.within c.rect = false := by
      rw [Bool.eq_false_iff]
      intro hw
      rw [RcS.within_iff _ _ (rect_emp k)] at hw
      have h1 := hw.1
      have h2 := hw.2.1
      simp only [CeS.rect, msk] at h1 h2
      have : 2 ^ (32 - lv c.l) < 2 ^ (32 - lv k.l) := Nat.pow_lt_pow_right (by decide) (by omega)
      have := Nat.two_pow_pos (32 - lv c.l)
      omega
    simp [cand, hw, hk, hd] at h0
    omega
  · rw [has_top hg hc (by omega) hh]
end Go.Proofs.Ytdomngpkahgoiaa.Ti
