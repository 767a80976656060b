/- The walk over PointBack. -/
import Derived.Test.YtkjapmafipnmpaaPt8
namespace Go.Proofs.Ytkjapmafipnmpaa.Pt
open Go.RowKit Lt
set_option linter.unusedVariables false
set_option linter.unusedSimpArgs false
theorem numB_snoc (k N : Nat) : numB (k + 1) N = numB k N ++ [UInt8.ofNat (N / 256 ^ k % 256)] := by
  unfold numB; rw [List.range_succ, List.map_append]; rfl
theorem getB_numB' : ∀ (k N : Nat), getB (numB k N) = N % 256 ^ k
  | 0, N => by simp [numB, getB, Nat.mod_one]
  | k + 1, N => by
    have h3 : (UInt8.ofNat (N / 256 ^ k % 256)).toNat = N / 256 ^ k % 256 := by simp
    rw [numB_snoc, getB_snoc, getB_numB' k N, numB_len, h3, Nat.mod_pow_succ]
theorem getB_numB (k N : Nat) (h : N < 256 ^ k) : getB (numB k N) = N := by rw [getB_numB', Nat.mod_eq_of_lt h]
/-- A point's octets ahead of others: it is got, and they are left. -/
theorem rdP_put (p : PtS) (hc : p.chk = 0) (hf : p.fine) (r : List UInt8) : rdP (inOk (ptB p ++ r)) = ⟨p, inOk r⟩ := by
  obtain ⟨c1, c2, c3⟩ := chk_zero hc
  obtain ⟨_, f3, f4, _⟩ := hf
  obtain ⟨id, x, y, d⟩ := p
  simp only at c1 c2 c3 f3 f4
  obtain ⟨I, rfl⟩ := Int.eq_ofNat_of_zero_le (by omega : 0 ≤ id)
  have hlen := ptB_len ⟨(I : Int), x, y, d⟩
  rw [rdP_full (by rw [List.length_append, hlen]; omega)]
  have L1 := numB_len 4 I
  have L2 := numB_len 4 x
  have L3 := numB_len 4 y
  have hds : d.data.toList.length = d.size := by rw [Array.length_toList]; rfl
  have e : ptB ⟨(I : Int), x, y, d⟩ ++ r = numB 4 I ++ (numB 4 x ++ (numB 4 y ++ ([UInt8.ofNat (d.size % 256)] ++ (d.data.toList ++ r)))) := by unfold ptB; simp only [Int.toNat_natCast, List.append_assoc]
  rw [e]
  have g1 : (numB 4 I ++ (numB 4 x ++ (numB 4 y ++ ([UInt8.ofNat (d.size % 256)] ++ (d.data.toList ++ r))))).take 4 = numB 4 I := List.take_left' L1
  have g2 : ((numB 4 I ++ (numB 4 x ++ (numB 4 y ++ ([UInt8.ofNat (d.size % 256)] ++ (d.data.toList ++ r))))).take 8).drop 4 = numB 4 x := by
    rw [show (8 : Nat) = 4 + 4 from rfl, ← List.take_drop, List.drop_left' L1, List.take_left' L2]
  have g3 : ((numB 4 I ++ (numB 4 x ++ (numB 4 y ++ ([UInt8.ofNat (d.size % 256)] ++ (d.data.toList ++ r))))).take 12).drop 8 = numB 4 y := by
    rw [← List.append_assoc, show (12 : Nat) = 8 + 4 from rfl, ← List.take_drop, List.drop_left' (by rw [List.length_append, L1, L2]), List.take_left' L3]
  have g4 : (numB 4 I ++ (numB 4 x ++ (numB 4 y ++ ([UInt8.ofNat (d.size % 256)] ++ (d.data.toList ++ r))))).getD 12 0 = UInt8.ofNat (d.size % 256) := by
    rw [← List.append_assoc, ← List.append_assoc]
    have L123 : (numB 4 I ++ numB 4 x ++ numB 4 y).length = 12 := by simp [L1, L2, L3]
    rw [List.getD_eq_getElem?_getD, List.getElem?_append_right (by omega), L123]
    rfl
  have g5 : (numB 4 I ++ (numB 4 x ++ (numB 4 y ++ ([UInt8.ofNat (d.size % 256)] ++ (d.data.toList ++ r))))).drop 13 = d.data.toList ++ r := by
    rw [← List.append_assoc, ← List.append_assoc, ← List.append_assoc]
    exact List.drop_left' (by simp [L1, L2, L3])
  have h3 : (UInt8.ofNat (d.size % 256)).toNat = d.size := by simp; omega
  rw [g1, g2, g3, g4, g5, h3, getB_numB 4 I (by omega), getB_numB 4 x (by omega), getB_numB 4 y (by omega), inOk_got, inOk_next, if_neg (by rw [List.length_append, hds]; omega), if_neg (by rw [List.length_append, hds]; omega)]
  have t1 : (d.data.toList ++ r).take d.size = d.data.toList := by rw [← hds]; exact List.take_left
  have t2 : (d.data.toList ++ r).drop d.size = r := by rw [← hds]; exact List.drop_left
  rw [t1, t2]
  have : bstr d.data.toList = d := by unfold bstr; cases d; simp
  rw [this]
def ptsB (l : List PtS) : List UInt8 := l.flatMap ptB
theorem ptsB_len (l : List PtS) (h : ∀ p ∈ l, p.chk = 0) : (ptsB l).length ≤ 29 * l.length := by
  induction l with
  | nil => simp [ptsB]
  | cons p l ih =>
    have h1 := (chk_zero (h p (by simp))).2.2
    have h2 := ih (fun q hq => h q (by simp [hq]))
    unfold ptsB at *
    rw [List.flatMap_cons, List.length_append, ptB_len, List.length_cons]
    omega
theorem ptsB_succ (l : List PtS) (k : Nat) (h : k < l.length) : ptsB (l.take (k + 1)) = ptsB (l.take k) ++ ptB l[k] := by
  unfold ptsB; rw [List.take_succ_eq_append_getElem h, List.flatMap_append]; simp
theorem ptsB_drop (l : List PtS) (k : Nat) (h : k < l.length) : ptsB (l.drop k) = ptB l[k] ++ ptsB (l.drop (k + 1)) := by
  unfold ptsB; rw [List.drop_eq_getElem_cons h, List.flatMap_cons]
theorem KeepO.own {W W' : World} {base n size : Nat} {e : TypeId} {v : Value} {xs : List Value} (hK : KeepO W W') (h : W.ownsRow base e size v n xs) (h1 : e ≠ 114) (h2 : e ≠ 5) : W'.ownsRow base e size v n xs :=
  own_move h fun k hk => by
    obtain ⟨cells, hc⟩ := own_typed h k hk
    rw [hc]; exact hK.2 _ _ _ _ hc h1 h2
theorem KeepI.own {W W' : World} {base n size : Nat} {e : TypeId} {v : Value} {xs : List Value} (hK : KeepI W W') (h : W.ownsRow base e size v n xs) (h1 : e ≠ 117) : W'.ownsRow base e size v n xs :=
  own_move h fun k hk => by
    obtain ⟨cells, hc⟩ := own_typed h k hk
    rw [hc]; exact hK.2 _ _ _ _ hc h1
theorem ok_put {p : PtS} {r : List UInt8} (hc : p.chk = 0) : RdP.ok ⟨p, inOk r⟩ = true ∧ RdP.out ⟨p, inOk r⟩ = p := by
  have e : RdP.ok ⟨p, inOk r⟩ = true := decide_eq_true ⟨rfl, hc⟩
  exact ⟨e, by unfold RdP.out; rw [e]; rfl⟩
set_option maxHeartbeats 8000000 in
set_option maxRecDepth 100000 in
theorem pback_walk (v : Value) (l : List PtS) (w : World) (hv : PRd w v l) (hl : l.length ≤ 140737488355328) (hfine : ∀ p ∈ l, p.fine) :
    Calls Try.prog 7 #[v] w fun e w' => e = .returned (.bool true) ∧ Below w.heap.size w w' := by
  have HV := Lib.hid (And.intro hv hfine); clear hfine
  obtain ⟨A, c, rfl, _, _⟩ := hv
  go_enter Try.func7, Try.ntmps7
  go_wp2_with fail
  refine (alive_ok _).mono ?_; rintro e w1 ⟨rfl, hb1⟩
  have H1 := Lib.hid hb1; clear hb1
  have hon := once_ok _ l 30 w1 (HV.out.1.below H1.out) hl (by decide)
  have hchk : ∀ p ∈ onceL 30 l, p.chk = 0 := once_chk 30 l [] (by simp)
  have hfin : ∀ p ∈ onceL 30 l, p.fine := once_all 30 _ l [] HV.out.2 (by simp)
  have hlen := onceL_le 30 l
  rw [show ((30 : Nat) : Int) = 30 from rfl] at hon
  generalize onceL 30 l = L at *
  have HL := Lib.hid (And.intro hon (And.intro hchk hfin)); clear hon hchk hfin
  go_wp2_with fail
  refine HL.out.1.mono ?_; rintro e w2 ⟨x, rfl, hx, hb2⟩
  obtain ⟨Ax, cx, rfl, _, _, _, _⟩ := own_rd hx
  have H2 := Lib.hid (And.intro hx (below_up H1.out hb2)); clear hx hb2
  go_wp2_with fail
  refine (new_w 65536 _).mono ?_; rintro e w3 ⟨rfl, hO, hb3⟩
  rw [outNew_ok 65536 (by decide) (by decide)] at hO
  have H3 := Lib.hid (And.intro hO (And.intro (own_below H2.out.1 hb3) (below_up H2.out.2 hb3))); clear hO hb3
  go_wp2_with fail
  go_loopw [4] (fun vi W => ∃ k : Nat, k ≤ L.length ∧ vi = .int .i64 k ∧ OW w2 W w2.heap.size (outOk 65536 (ptsB (L.take k))) ∧ W.ownsRow w1.heap.size 53 4 (.slice Ax L.length cx) L.length (L.flatMap PtS.cells)) (fun vi _ => L.length - (intOf vi).toNat)
  case atStart => exact ⟨0, by omega, rfl, by simpa [ptsB] using H3.out.1, H3.out.2.1⟩
  obtain ⟨k, hk, rfl, hO, hx⟩ := hrel
  have HR := Lib.hid (And.intro hO hx)
  clear hO hx
  by_cases hlt : k < L.length
  · have d : decide ((k : Int) < L.length) = true := decide_eq_true (by omega)
    obtain ⟨g, o, rfl, _, hcc⟩ := (srd_own PtS.cells_len (by decide) HR.out.2).get PtS.cells_len (by decide) hlt
    have c0 := hcc 0 (by decide)
    have c1 := hcc 1 (by decide)
    have c2 := hcc 2 (by decide)
    have c3 := hcc 3 (by decide)
    have hs := ptsB_succ L k hlt
    have hf := HL.out.2.2 _ (List.getElem_mem hlt)
    have hc := HL.out.2.1 _ (List.getElem_mem hlt)
    have hlb := ptsB_len (L.take k) (fun p hp => HL.out.2.1 p (List.mem_of_mem_take hp))
    clear hcc
    generalize L[k] = x at *
    simp only [Nat.add_zero, PtS.cells, List.getElem?_cons_zero, List.getElem?_cons_succ] at c0 c1 c2 c3
    have hsz := (chk_zero hc).2.2
    have hpp := putP_ok (R := 65536) (b := ptsB (L.take k)) hc hf (by rw [List.length_take] at hlb; omega)
    rw [← hs] at hpp
    have HS := Lib.hid (And.intro hpp (And.intro hf hc)); clear hs hpp hf hc hlb
    go_wp2_with (go_at_call 26; refine (pput_ok HR.out.1 x HS.out.2.1).mono ?_; rintro e w5 ⟨rfl, hO, hK⟩; have H5 := Lib.hid (And.intro hO (KeepO.own hK HR.out.2 (by decide) (by decide))); clear hO hK)
    exact ⟨⟨k + 1, by omega, by simp, by rw [← HS.out.1]; exact H5.out.1, H5.out.2⟩, by simp [intOf]; omega⟩
  · have hkl : k = L.length := by omega
    subst hkl
    have d : decide ((L.length : Int) < L.length) = false := decide_eq_false (by omega)
    have hO := HR.out.1
    rw [List.take_length] at hO
    have HLB := Lib.hid (ptsB_len L HL.out.2.1)
    have H4 := Lib.hid (And.intro hO (And.intro HR.out.2 (below_up H2.out.2 hO.bel))); clear hO HR
    go_wp2_with fail
    refine (H4.out.1.done rfl).mono ?_; rintro e w5 ⟨y, bs, rfl, hbs, hy, hb5⟩
    replace hbs : bs = ptsB L := hbs
    subst hbs
    rw [show (outOk 65536 (ptsB L)).err = 0 from rfl]
    have H5 := Lib.hid (And.intro hy (And.intro (own_below H4.out.2.1 hb5) (below_up H4.out.2.2 hb5))); clear hy hb5
    obtain ⟨Ay, cy, rfl, _, _, _⟩ := id H5.out.1
    go_wp2_with fail
    refine (open_w _ _ _ H5.out.1 (by have := HLB.out; omega)).mono ?_; rintro e w6 ⟨q, rfl, hI, hb6⟩
    have H6 := Lib.hid (And.intro hI (And.intro (own_below H5.out.2.1 hb6) (below_up H5.out.2.2 hb6))); clear hI hb6
    go_wp2_with fail
    go_loopw [8] (fun vi W => ∃ k : Nat, k ≤ L.length ∧ vi = .int .i64 k ∧ IW w5 W q (inOk (ptsB (L.drop k))) ∧ W.ownsRow w1.heap.size 53 4 (.slice Ax L.length cx) L.length (L.flatMap PtS.cells)) (fun vi _ => L.length - (intOf vi).toNat)
    case atStart => exact ⟨0, by omega, rfl, by rw [List.drop_zero]; exact H6.out.1, H6.out.2.1⟩
    obtain ⟨k, hk, rfl, hI, hx⟩ := hrel
    have HR := Lib.hid (And.intro hI hx)
    clear hI hx
    by_cases hlt : k < L.length
    · have d : decide ((k : Int) < L.length) = true := decide_eq_true (by omega)
      have hs := ptsB_drop L k hlt
      have hf := HL.out.2.2 _ (List.getElem_mem hlt)
      have hc := HL.out.2.1 _ (List.getElem_mem hlt)
      have hget := pget_ok HR.out.1 (by
        have := ptsB_len (L.drop k) (fun p hp => HL.out.2.1 p (List.mem_of_mem_drop hp))
        rw [List.length_drop] at this
        show (ptsB (L.drop k)).length ≤ _
        omega)
      rw [hs, rdP_put _ hc hf, (ok_put hc).1, (ok_put hc).2] at hget
      have hcells : ∀ W : World, W.ownsRow w1.heap.size 53 4 (.slice Ax L.length cx) L.length (L.flatMap PtS.cells) → ∃ g o, Ax = some ⟨g, o, none⟩ ∧ W.cell? ⟨g, o + k * 4, none⟩ = some (.int .i64 L[k].id) ∧ W.cell? ⟨g, o + k * 4 + 1, none⟩ = some (.int .u32 (L[k].x : Nat)) ∧ W.cell? ⟨g, o + k * 4 + 2, none⟩ = some (.int .u32 (L[k].y : Nat)) ∧ W.cell? ⟨g, o + k * 4 + 3, none⟩ = some (.string L[k].d) := fun W ho => by
        obtain ⟨g, o, e, _, hcc⟩ := (srd_own PtS.cells_len (by decide) ho).get PtS.cells_len (by decide) hlt
        exact ⟨g, o, e, hcc 0 (by decide), hcc 1 (by decide), hcc 2 (by decide), hcc 3 (by decide)⟩
      generalize L[k] = x at *
      have HS := Lib.hid (And.intro hget hcells); clear hget hcells hs hf hc
      go_upto_region 15 with (go_at_call 32; refine HS.out.1.mono ?_; rintro e w7 ⟨rfl, hI, hK⟩
                              have ha := below_alloc1 w7 (.cells #[.int .i64 x.id, .int .u32 (x.x : Nat), .int .u32 (x.y : Nat), .string x.d] 53)
                              have hz := alloc_at (w := w7) (.cells #[.int .i64 x.id, .int .u32 (x.x : Nat), .int .u32 (x.y : Nat), .string x.d] 53) rfl
                              have H7 := Lib.hid (And.intro (hI.up ha) (And.intro (own_below (KeepI.own hK HR.out.2 (by decide)) ha) hz)); clear hI hK ha hz)
      generalize (w7.alloc _) = w8 at *
      obtain ⟨g, o, rfl, c0, c1, c2, c3⟩ := HS.out.2 _ H7.out.2.1
      obtain ⟨z0, z1, z2, z3⟩ := cells4 H7.out.2.2
      have hne := neqP_same x
      go_quiet (fail)
      go_wp2
      exact ⟨⟨k + 1, by omega, by simp, H7.out.1.up (below_drewN _), own_below H7.out.2.1 (below_drewN _)⟩, by simp [intOf]; omega⟩
    · have hkl : k = L.length := by omega
      subst hkl
      have d : decide ((L.length : Int) < L.length) = false := decide_eq_false (by omega)
      have hI := HR.out.1
      rw [List.drop_length] at hI
      have hle := hI.left
      rw [show ((inOk (ptsB [])).b.length : Int) = 0 from rfl] at hle
      have HE := Lib.hid (And.intro hle (below_up H5.out.2.2 hI.bel)); clear hle hI
      go_wp2_with (go_at_call 34; refine HE.out.1.mono ?_; rintro e w12 ⟨rfl, rfl⟩)
      go_ret
      exact ⟨rfl, HE.out.2⟩
end Go.Proofs.Ytkjapmafipnmpaa.Pt
