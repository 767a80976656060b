/- Nodes written and read, plainly. -/
import Derived.Test.YthpnlgdcijmocaaNd6
import Derived.Test.YthpnlgdcijmocaaNd7
import Derived.Test.YthpnlgdcijmocaaNd4
namespace Go.Proofs.Ythpnlgdcijmocaa.Nd
open Go.RowKit Lt Pt
set_option linter.unusedVariables false
set_option linter.unusedSimpArgs false
theorem numB_snoc (k N : Nat) : numB (k + 1) N = numB k N ++ [UInt8.ofNat (N / 256 ^ k % 256)] := by
  unfold numB; rw [List.range_succ, List.map_append]; rfl
theorem getB_numB' : ∀ (k N : Nat), getB (numB k N) = N % 256 ^ k
  | 0, N => by simp [numB, getB, Nat.mod_one]
  | k + 1, N => by
    have h3 : (UInt8.ofNat (N / 256 ^ k % 256)).toNat = N / 256 ^ k % 256 := by simp
    rw [numB_snoc, getB_snoc, getB_numB' k N, numB_len, h3, Nat.mod_pow_succ]
theorem getB_numB (k N : Nat) (h : N < 256 ^ k) : getB (numB k N) = N := by rw [getB_numB', Nat.mod_eq_of_lt h]
/-- A point's octets ahead of others: it is got, and they are left. -/
theorem rdP_put (p : PtS) (hc : p.chk = 0) (hf : p.fine) (r : List UInt8) : rdP (inOk (ptB p ++ r)) = ⟨p, inOk r⟩ := by
  obtain ⟨c1, c2, c3⟩ := chk_zero hc
  obtain ⟨_, f3, f4, _⟩ := hf
  obtain ⟨id, x, y, d⟩ := p
  simp only at c1 c2 c3 f3 f4
  obtain ⟨I, rfl⟩ := Int.eq_ofNat_of_zero_le (by omega : 0 ≤ id)
  have hlen := ptB_len ⟨(I : Int), x, y, d⟩
  rw [rdP_full (by rw [List.length_append, hlen]; omega)]
  have L1 := numB_len 4 I
  have L2 := numB_len 4 x
  have L3 := numB_len 4 y
  have hds : d.data.toList.length = d.size := by rw [Array.length_toList]; rfl
  have e : ptB ⟨(I : Int), x, y, d⟩ ++ r = numB 4 I ++ (numB 4 x ++ (numB 4 y ++ ([UInt8.ofNat (d.size % 256)] ++ (d.data.toList ++ r)))) := by unfold ptB; simp only [Int.toNat_natCast, List.append_assoc]
  rw [e]
  have g1 : (numB 4 I ++ (numB 4 x ++ (numB 4 y ++ ([UInt8.ofNat (d.size % 256)] ++ (d.data.toList ++ r))))).take 4 = numB 4 I := List.take_left' L1
  have g2 : ((numB 4 I ++ (numB 4 x ++ (numB 4 y ++ ([UInt8.ofNat (d.size % 256)] ++ (d.data.toList ++ r))))).take 8).drop 4 = numB 4 x := by
    rw [show (8 : Nat) = 4 + 4 from rfl, ← List.take_drop, List.drop_left' L1, List.take_left' L2]
  have g3 : ((numB 4 I ++ (numB 4 x ++ (numB 4 y ++ ([UInt8.ofNat (d.size % 256)] ++ (d.data.toList ++ r))))).take 12).drop 8 = numB 4 y := by
    rw [← List.append_assoc, show (12 : Nat) = 8 + 4 from rfl, ← List.take_drop, List.drop_left' (by rw [List.length_append, L1, L2]), List.take_left' L3]
  have g4 : (numB 4 I ++ (numB 4 x ++ (numB 4 y ++ ([UInt8.ofNat (d.size % 256)] ++ (d.data.toList ++ r))))).getD 12 0 = UInt8.ofNat (d.size % 256) := by
    rw [← List.append_assoc, ← List.append_assoc]
    have L123 : (numB 4 I ++ numB 4 x ++ numB 4 y).length = 12 := by simp [L1, L2, L3]
    rw [List.getD_eq_getElem?_getD, List.getElem?_append_right (by omega), L123]
    rfl
  have g5 : (numB 4 I ++ (numB 4 x ++ (numB 4 y ++ ([UInt8.ofNat (d.size % 256)] ++ (d.data.toList ++ r))))).drop 13 = d.data.toList ++ r := by
    rw [← List.append_assoc, ← List.append_assoc, ← List.append_assoc]
    exact List.drop_left' (by simp [L1, L2, L3])
  have h3 : (UInt8.ofNat (d.size % 256)).toNat = d.size := by simp; omega
  rw [g1, g2, g3, g4, g5, h3, getB_numB 4 I (by omega), getB_numB 4 x (by omega), getB_numB 4 y (by omega), inOk_got, inOk_next, if_neg (by rw [List.length_append, hds]; omega), if_neg (by rw [List.length_append, hds]; omega)]
  have t1 : (d.data.toList ++ r).take d.size = d.data.toList := by rw [← hds]; exact List.take_left
  have t2 : (d.data.toList ++ r).drop d.size = r := by rw [← hds]; exact List.drop_left
  rw [t1, t2]
  have : bstr d.data.toList = d := by unfold bstr; cases d; simp
  rw [this]
theorem ok_put {p : PtS} {r : List UInt8} (hc : p.chk = 0) : RdP.ok ⟨p, inOk r⟩ = true ∧ RdP.out ⟨p, inOk r⟩ = p := by
  have e : RdP.ok ⟨p, inOk r⟩ = true := decide_eq_true ⟨rfl, hc⟩
  exact ⟨e, by unfold RdP.out; rw [e]; rfl⟩
theorem gpt_put (p : PtS) (hc : p.chk = 0) (hf : p.fine) (r : List UInt8) : (gpt (ptB p ++ r)).1 = p ∧ (gpt (ptB p ++ r)).2 ≠ 0 ∧ (ptB p ++ r).drop (gpt (ptB p ++ r)).2 = r := by
  obtain ⟨h1, h2, h3⟩ := rdP_gpt (ptB p ++ r)
  rw [rdP_put p hc hf r] at h1 h2 h3
  obtain ⟨o1, o2⟩ := ok_put (p := p) (r := r) hc
  rw [o2] at h1
  rw [o1] at h2
  have h0 : 0 < (gpt (ptB p ++ r)).2 := of_decide_eq_true h2.symm
  refine ⟨h1.symm, by omega, ?_⟩
  have h4 : (inOk r).b = (inOk ((ptB p ++ r).drop (gpt (ptB p ++ r)).2)).b := congrArg InS.b (h3 h0).1
  exact h4.symm
theorem gTo_put (l : List PtS) (hc : ∀ p ∈ l, p.chk = 0) (hf : ∀ p ∈ l, p.fine) : ∀ k, k ≤ l.length → gTo k (l.flatMap ptB) = some (l.take k, (l.drop k).flatMap ptB)
  | 0, _ => by simp [gTo]
  | k + 1, h => by
    have ih := gTo_put l hc hf k (by omega)
    have hd : l.drop k = l[k] :: l.drop (k + 1) := List.drop_eq_getElem_cons (by omega)
    have hm := List.getElem_mem (l := l) (n := k) (by omega)
    simp only [gTo, ih]
    rw [hd, List.flatMap_cons]
    obtain ⟨g1, g2, g3⟩ := gpt_put l[k] (hc _ hm) (hf _ hm) ((l.drop (k + 1)).flatMap ptB)
    rw [if_neg g2, g1, g3, List.take_succ_eq_append_getElem (by omega)]
theorem getB_cons (c : UInt8) (l : List UInt8) : getB (c :: l) = c.toNat + 256 * getB l := rfl
theorem getB_div : ∀ (l : List UInt8) (i : Nat) (h : i < l.length), getB l / 256 ^ i % 256 = (l[i]'h).toNat
  | [], i, h => absurd h (Nat.not_lt_zero i)
  | c :: l, 0, _ => by
    have hc := c.toNat_lt
    show getB (c :: l) / 256 ^ 0 % 256 = c.toNat
    rw [getB_cons, Nat.pow_zero, Nat.div_one]
    omega
  | c :: l, i + 1, h => by
    have hc := c.toNat_lt
    have hi : i < l.length := by simpa using h
    have ih := getB_div l i hi
    show getB (c :: l) / 256 ^ (i + 1) % 256 = (l[i]'hi).toNat
    rw [← ih]
    have e : getB (c :: l) / 256 = getB l := by rw [getB_cons]; omega
    rw [Nat.pow_succ, Nat.mul_comm, ← Nat.div_div_eq_div_mul, e]
theorem numB_getB (l : List UInt8) (k : Nat) (h : l.length = k) : numB k (getB l) = l := by
  subst h
  show (List.range l.length).map (fun i => UInt8.ofNat (getB l / 256 ^ i % 256)) = l
  apply List.ext_getElem
  · simp
  · intro i h1 h2
    simp only [List.getElem_map, List.getElem_range]
    rw [getB_div l i h2]
    exact UInt8.toNat_inj.1 (by simp)
theorem bstr_list (l : List UInt8) : (bstr l).data.toList = l := by unfold bstr; simp
theorem gpt_back (r : List UInt8) (h : (gpt r).2 ≠ 0) : r = ptB (gpt r).1 ++ r.drop (gpt r).2 ∧ (gpt r).1.fine := by
  unfold gpt at h ⊢
  split
  · rename_i h1; rw [if_pos h1] at h; exact absurd rfl h
  rename_i h1
  rw [if_neg h1] at h
  split
  · rename_i h2; rw [if_pos h2] at h; exact absurd rfl h
  rename_i h2
  rw [if_neg h2] at h
  split
  · rename_i h3
    simp only
    have hn := (r.getD 12 0).toNat_lt
    obtain ⟨n, hn'⟩ : ∃ n, (r.getD 12 0).toNat = n := ⟨_, rfl⟩
    have hn2 : UInt8.ofNat (n % 256) = r.getD 12 0 := UInt8.toNat_inj.1 (by rw [← hn']; simp)
    rw [hn'] at h2 h3 hn ⊢
    have hlen : ((r.take (13 + n)).drop 13).length = n := by simp; omega
    refine ⟨?_, ?_⟩
    · unfold ptB gptP
      simp only [Int.toNat_natCast, bstr_size, hlen, bstr_list]
      rw [numB_getB (r.take 4) 4 (by simp; omega), numB_getB ((r.take 8).drop 4) 4 (by simp; omega), numB_getB ((r.take 12).drop 8) 4 (by simp; omega), hn2]
      rw [List.drop_take, List.drop_take, List.drop_take, ← List.drop_drop]
      rw [show 13 + n - 13 = n by omega]
      match r, h1 with
      | a0 :: a1 :: a2 :: a3 :: a4 :: a5 :: a6 :: a7 :: a8 :: a9 :: a10 :: a11 :: a12 :: t, _ => simp
      | [], h => exact absurd (by simp) h
      | [_], h => exact absurd (by simp) h
      | [_, _], h => exact absurd (by simp) h
      | [_, _, _], h => exact absurd (by simp) h
      | [_, _, _, _], h => exact absurd (by simp) h
      | [_, _, _, _, _], h => exact absurd (by simp) h
      | [_, _, _, _, _, _], h => exact absurd (by simp) h
      | [_, _, _, _, _, _, _], h => exact absurd (by simp) h
      | [_, _, _, _, _, _, _, _], h => exact absurd (by simp) h
      | [_, _, _, _, _, _, _, _, _], h => exact absurd (by simp) h
      | [_, _, _, _, _, _, _, _, _, _], h => exact absurd (by simp) h
      | [_, _, _, _, _, _, _, _, _, _, _], h => exact absurd (by simp) h
      | [_, _, _, _, _, _, _, _, _, _, _, _], h => exact absurd (by simp) h
    · have b1 := got4b_lt (r.take 4) (by simp; omega)
      have b2 := got4b_lt ((r.take 8).drop 4) (by simp; omega)
      have b3 := got4b_lt ((r.take 12).drop 8) (by simp; omega)
      refine ⟨⟨?_, ?_⟩, b2, b3, ?_⟩
      · show _ ≤ ((getB (r.take 4) : Nat) : Int); omega
      · show ((getB (r.take 4) : Nat) : Int) ≤ _; omega
      · show (bstr _).size ≤ _; rw [bstr_size, hlen]; omega
  · rename_i h3; rw [if_neg h3] at h; exact absurd rfl h
theorem gTo_back (r : List UInt8) : ∀ (k : Nat) (l : List PtS) (q : List UInt8), gTo k r = some (l, q) → r = l.flatMap ptB ++ q ∧ ∀ p ∈ l, p.fine
  | 0, l, q, h => by
    simp only [gTo, Option.some.injEq, Prod.mk.injEq] at h
    obtain ⟨rfl, rfl⟩ := h
    exact ⟨rfl, fun p hp => by cases hp⟩
  | k + 1, l, q, h => by
    cases hg : gTo k r with
    | none => simp only [gTo, hg] at h; cases h
    | some y =>
      obtain ⟨l1, q1⟩ := y
      obtain ⟨e, hf⟩ := gTo_back r k l1 q1 hg
      by_cases h0 : (gpt q1).2 = 0
      · simp only [gTo, hg, h0, if_true] at h; cases h
      · simp only [gTo, hg, h0, if_false, Option.some.injEq, Prod.mk.injEq] at h
        obtain ⟨rfl, rfl⟩ := h
        obtain ⟨b1, b2⟩ := gpt_back q1 h0
        refine ⟨?_, fun p hp => ?_⟩
        · rw [List.flatMap_append, List.flatMap_singleton, List.append_assoc, ← b1, ← e]
        · rcases List.mem_append.1 hp with hp | hp
          · exact hf p hp
          · rw [List.mem_singleton.1 hp]; exact b2
theorem u8_back (a : UInt8) : UInt8.ofNat (((a.toNat : Nat) : Int)).toNat = a := UInt8.toNat_inj.1 (by simp)
theorem ref_back (b : List UInt8) (d : NdD) (v : Value) (h : RefTo b d) : nodeB (d.nd v) = b ∧ (∀ p ∈ d.pts, p.fine) := by
  rcases h with ⟨h1, h2, rfl, _⟩ | ⟨h1, h2, l, hg, rfl, hm⟩
  · refine ⟨?_, fun p hp => by cases hp⟩
    match b, h1 with
    | [a0, a1, a2, a3, a4, a5, a6, a7, a8, a9, a10, a11, a12], _ =>
      have e0 : a0 = 0 := h2
      subst e0
      have k1 := numB_getB [a5, a6] 2 rfl
      have k2 := numB_getB [a7, a8] 2 rfl
      have k3 := numB_getB [a9, a10] 2 rfl
      have k4 := numB_getB [a11, a12] 2 rfl
      show [0] ++ ksB _ 4 ++ csB _ 4 = _
      unfold ksB csB
      rw [show List.range 4 = [0, 1, 2, 3] from rfl]
      simp only [List.map_cons, List.map_nil, List.flatMap_cons, List.flatMap_nil]
      show [0] ++ [UInt8.ofNat ((a1.toNat : Nat) : Int).toNat, UInt8.ofNat ((a2.toNat : Nat) : Int).toNat, UInt8.ofNat ((a3.toNat : Nat) : Int).toNat, UInt8.ofNat ((a4.toNat : Nat) : Int).toNat] ++ (numB 2 (getB [a5, a6]) ++ (numB 2 (getB [a7, a8]) ++ (numB 2 (getB [a9, a10]) ++ (numB 2 (getB [a11, a12]) ++ [])))) = _
      rw [u8_back, u8_back, u8_back, u8_back, k1, k2, k3, k4]
      rfl
  · obtain ⟨e, hf⟩ := gTo_back _ _ _ _ hg
    refine ⟨?_, hf⟩
    have hl : l.length = (b.getD 2 0).toNat := by
      have := (gTo_rd (b.drop 3) (b.getD 2 0).toNat).1 l [] hg
      have h2 := rdTo_len (b.getD 2 0).toNat (inOk (b.drop 3))
      rw [this] at h2
      exact h2
    match b, h1 with
    | a0 :: a1 :: a2 :: t, _ =>
      have e0 : a0 = 1 := h2
      subst e0
      have e2 : t = l.flatMap ptB ++ [] := e
      have hl2 : l.length = a2.toNat := hl
      show [1, UInt8.ofNat ((a1.toNat : Nat) : Int).toNat, UInt8.ofNat l.length] ++ l.flatMap ptB = _
      rw [u8_back, hl2, e2, List.append_nil]
      have : UInt8.ofNat a2.toNat = a2 := UInt8.toNat_inj.1 (by simp)
      rw [this]
      rfl
theorem may_same {a b : NdS} (h : SameP a b) (hm : May a) : May b := by
  obtain ⟨h1, h2, h3, h4, h5⟩ := h
  unfold May at hm ⊢
  rw [← h1, ← h2, ← h5]
  split
  · rename_i hl
    rw [if_pos hl] at hm
    exact ⟨hm.1, hm.2.1, hm.2.2.1, fun q hq => by rw [← h3 q hq]; exact hm.2.2.2.1 q hq, fun q hq => by rw [← h4 q hq]; exact hm.2.2.2.2 q hq⟩
  · rename_i hl
    rw [if_neg hl] at hm
    exact ⟨hm.1, hm.2.1, fun q hq => by rw [← h3 q hq, ← h4 q hq]; exact hm.2.2 q hq⟩
theorem u8_fwd (k : Int) (h0 : 0 ≤ k) (h1 : k ≤ 255) : (((UInt8.ofNat k.toNat).toNat : Nat) : Int) = k := by
  have : (UInt8.ofNat k.toNat).toNat = k.toNat := by simp; omega
  rw [this]; omega
theorem num2_fwd (k : Int) (h0 : 0 ≤ k) (h1 : k ≤ 65535) : ((getB (numB 2 k.toNat) : Nat) : Int) = k := by
  rw [getB_numB 2 k.toNat (by omega)]; omega
theorem numB2 (N : Nat) : numB 2 N = [UInt8.ofNat (N / 256 ^ 0 % 256), UInt8.ofNat (N / 256 ^ 1 % 256)] := rfl
theorem put_ref (n : NdS) (hm : May n) (hf : ∀ p ∈ n.pts, p.fine) : ∃ d, RefTo (nodeB n) d ∧ ∀ v', SameP n (d.nd v') := by
  have hm0 := hm
  unfold May at hm
  by_cases hl : n.lf = true
  · rw [if_pos hl] at hm
    obtain ⟨hp, hn0, hn1, hk, hc⟩ := hm
    have e : nodeB n = 1 :: UInt8.ofNat n.next.toNat :: UInt8.ofNat n.pts.length :: n.pts.flatMap ptB := by unfold nodeB; rw [if_pos hl]; rfl
    have hs : ∀ v', SameP n ((refLeaf (nodeB n) n.pts).nd v') := fun v' => by
      refine ⟨hl, ?_, fun q hq => hk q hq, fun q hq => hc q hq, rfl⟩
      show n.next = (((nodeB n).getD 1 0).toNat : Nat)
      rw [e]
      exact (u8_fwd n.next hn0 hn1).symm
    refine ⟨refLeaf (nodeB n) n.pts, .inr ⟨by rw [e]; simp, by rw [e]; rfl, n.pts, ?_, rfl, may_same (hs _) hm0⟩, hs⟩
    have hlen : ((nodeB n).getD 2 0).toNat = n.pts.length := by
      rw [e]
      show (UInt8.ofNat n.pts.length).toNat = _
      have := hp.2
      simp; omega
    rw [hlen, e]
    show gTo n.pts.length (n.pts.flatMap ptB) = _
    rw [gTo_put n.pts (pts_chk0 hp) hf n.pts.length (Nat.le_refl _), List.take_length, List.drop_length]
    rfl
  · rw [if_neg hl] at hm
    obtain ⟨hp, hn, hq⟩ := hm
    have hl2 : n.lf = false := by cases h : n.lf; rfl; exact absurd h hl
    have e : nodeB n = 0 :: UInt8.ofNat (n.ks 0).toNat :: UInt8.ofNat (n.ks 1).toNat :: UInt8.ofNat (n.ks 2).toNat :: UInt8.ofNat (n.ks 3).toNat :: (numB 2 (n.cs 0).toNat ++ (numB 2 (n.cs 1).toNat ++ (numB 2 (n.cs 2).toNat ++ (numB 2 (n.cs 3).toNat ++ [])))) := by unfold nodeB; rw [if_neg hl]; rfl
    have hs : ∀ v', SameP n ((refInner (nodeB n)).nd v') := fun v' => by
      refine ⟨hl2, hn, fun q h4 => ?_, fun q h4 => ?_, hp⟩
      · show n.ks q = if q < 4 then ((((nodeB n).getD (1 + q) 0).toNat : Nat) : Int) else 0
        rw [if_pos h4, e]
        have := hq q h4
        rcases (by omega : q = 0 ∨ q = 1 ∨ q = 2 ∨ q = 3) with rfl | rfl | rfl | rfl <;> exact (u8_fwd _ this.1 this.2.1).symm
      · show n.cs q = if q < 4 then ((getB (((nodeB n).drop (5 + 2 * q)).take 2) : Nat) : Int) else 0
        rw [if_pos h4, e]
        have := hq q h4
        rcases (by omega : q = 0 ∨ q = 1 ∨ q = 2 ∨ q = 3) with rfl | rfl | rfl | rfl <;> exact (num2_fwd _ this.2.2.1 this.2.2.2.1).symm
    exact ⟨refInner (nodeB n), .inl ⟨by rw [e]; simp [numB_len], by rw [e]; rfl, rfl, may_same (hs _) hm0⟩, hs⟩
theorem nodeB_len (n : NdS) (hm : May n) : (nodeB n).length ≤ 237 := by
  unfold May at hm
  unfold nodeB
  by_cases hl : n.lf = true
  · rw [if_pos hl] at hm ⊢
    have h1 := pts_len (pts_chk0 hm.1)
    have h2 := hm.1.2
    simp only [List.length_append, List.length_cons, List.length_nil]
    omega
  · rw [if_neg hl] at hm ⊢
    simp only [List.length_append, List.length_cons, List.length_nil, ksB_len, csB_len]
    omega
theorem reads_one {b : List UInt8} {d d' : NdD} (h : ReadsTo b d) (h' : ReadsTo b d') : d = d' := h.2.1.trans h'.2.1.symm
/-- What is put is read again. -/
theorem put_reads (n : NdS) (hm : May n) (hf : ∀ p ∈ n.pts, p.fine) : (∃ d, ReadsTo (nodeB n) d) ∧ ∀ d, ReadsTo (nodeB n) d → ∀ v', SameP n (d.nd v') := by
  obtain ⟨d, h1, h2⟩ := put_ref n hm hf
  exact ⟨⟨d, (reads_ref _ _).2 h1⟩, fun d' h => by rw [reads_one h ((reads_ref _ _).2 h1)]; exact h2⟩
theorem reads_back (b : List UInt8) (d : NdD) (v : Value) (h : ReadsTo b d) : nodeB (d.nd v) = b ∧ (∀ p ∈ d.pts, p.fine) ∧ d.May :=
  ⟨(ref_back b d v ((reads_ref b d).1 h)).1, (ref_back b d v ((reads_ref b d).1 h)).2, h.2.2.2.2⟩
end Go.Proofs.Ythpnlgdcijmocaa.Nd
