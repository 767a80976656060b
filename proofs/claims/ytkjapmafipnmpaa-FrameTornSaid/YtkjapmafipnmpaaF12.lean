/- The walk over FrameTorn. -/
import Derived.Test.YtkjapmafipnmpaaF11
import Derived.Laws.BitsAllLaws
import Derived.Laws.OwnMore
namespace Go.Proofs.Ytkjapmafipnmpaa.Fm
open Go.RowKit Lt
set_option linter.unusedVariables false
set_option linter.unusedSimpArgs false
theorem wpList_appG {P : Program} {ops : Array Oper} {rest : List Oper} {o : Oper} {a : Act} {Q : Exit → Act → World → Prop} {W : World} (hw : Region.wanted o (yielded ops a.tmps) = true) (s x : Operand) (t : TypeId)
    (ho : o.op = .call { callee := .builtin .append, args := #[s, x], argTypes := #[t, t] })
    (base : Nat) (e : TypeId) (z : Value) (size bytes : Nat) (ht : P.underlying t = some (.slice e)) (hinfo : (P.info? e).map (fun i => (i.zero, i.size, i.bytes)) = some (some z, size, bytes)) (hz : z.cells.size = size) (hsz : 0 < size) (hb0 : 0 < bytes)
    (v : Value) (n : Nat) (xs : List Value) (hs : a.eval s = v) (A : Option Addr) (m c : Nat) (news : List Value) (hx : a.eval x = .slice A m c) (HO : W.ownsRow base e size v n xs) (hl : news.length = m * size) (HR : Rd W A news) (h1 : ∀ u ∈ news, u.oneCell' = true)
    (hbytes : (n + m) * bytes ≤ 140737488355328) (hbase : base ≤ W.heap.size)
    (h : ∀ A1 c1 w1, w1.ownsRow base e size (.slice A1 (n + m) c1) (n + m) (xs ++ news) → W.grownBy w1 v.ownBlock → ((Value.slice A1 (n + m) c1).ownBlock = v.ownBlock ∨ (Value.slice A1 (n + m) c1).ownBlock = some W.heap.size) →
      wpList P ops Q rest (a.put o.dst (.slice A1 (n + m) c1)) w1) : wpList P ops Q (o :: rest) a W :=
  wpList_step fun K hK => by
    rw [if_pos hw]
    obtain ⟨A1, c1, w1, hr, h2, h3, h5⟩ := run_app (P := P) W base t o.type e z size bytes ht hinfo hz hsz hb0 v n xs HO A m c news hl HR h1 hbytes hbase
    unfold Oper.wp execOp
    simp only [ho, resolve, invoke, builtin, Sem.run_bind, Sem.run_pure, Result.andThen_ok, List.map_toArray, List.map_cons, List.map_nil, hs, hx, hr]
    exact hK _ _ (h A1 c1 w1 h2 h3 h5)
theorem brd_take {w : World} {A : Option Addr} {l : List UInt8} {N c : Nat} (hr : Rd w A (bv l)) (hN : N ≤ l.length) (hc : N ≤ c) : BRd w (.slice A N c) (l.take N) := by
  have hl : (l.take N).length = N := by simp; omega
  have h2 : Rd w A (bv (l.take N)) := by rw [← bv_take]; exact hr.take N
  exact ⟨A, c, by rw [hl], by rw [hl]; exact hc, h2, fun ad e h0 => Rd.brd 0 h2 h0 ad e⟩
theorem cut256 (z : Int) : ∃ (r : Int) (c : Nat), z.tmod 256 = r ∧ -256 < r ∧ r < 256 ∧ (r + 256) % 256 = (c : Int) ∧ (r + 256).tmod 256 = (c : Int) ∧ c < 256 := by
  have h1 := Int.tmod_lt_of_pos z (by omega : (0 : Int) < 256)
  have h2 : -256 < z.tmod 256 := by
    have h := Int.tmod_lt_of_pos (-z) (by omega : (0 : Int) < 256)
    rw [Int.neg_tmod] at h
    omega
  have h3 := Int.emod_nonneg (z.tmod 256 + 256) (by omega : (256 : Int) ≠ 0)
  have h4 := Int.emod_lt_of_pos (z.tmod 256 + 256) (by omega : (0 : Int) < 256)
  obtain ⟨c, hc⟩ := Int.eq_ofNat_of_zero_le h3
  exact ⟨_, c, rfl, h2, h1, hc, by rw [Int.tmod_eq_emod_of_nonneg (by omega)]; exact hc, by omega⟩
theorem own_at {w : World} {base : Nat} {e : TypeId} {n c : Nat} {A : Option Addr} {l : List UInt8} (h : w.ownsRow base e 1 (.slice A n c) n (bv l)) (h0 : 0 < n) : ∃ g, A = some ⟨g, 0, none⟩ ∧ base ≤ g := by
  rcases h.2 with ⟨h', _⟩ | ⟨g, cap, cur, h', hb, _⟩
  · injection h' with _ h2 _; omega
  · injection h' with h1 _ _
    exact ⟨g, h1, hb⟩
set_option maxHeartbeats 8000000 in
set_option maxRecDepth 100000 in
theorem ftorn_walk (vb : Value) (b : List UInt8) (at_ : Int) (B : Nat) (cut : Int) (w : World) (hvb : BRd w vb b) (hbl : b.length ≤ 140737488351232) (hB : B < 256) :
    Calls Try.prog 12 #[vb, .int .i64 at_, .int .u8 (B : Nat), .int .i64 cut] w fun e w' => e = .returned (.bool true) ∧ Below w.heap.size w w' := by
  have HV := Lib.hid hvb
  obtain ⟨Ab, cb, rfl, _, _, _⟩ := hvb
  go_enter Try.func12, Try.ntmps12
  go_wp2_with fail
  refine (alive_ok _).mono ?_; rintro e w1 ⟨rfl, hb⟩
  have H1 := Lib.hid hb; clear hb
  have hnb : ¬ bad 5 ⟨7, 3, 1⟩ := by decide
  obtain ⟨E, hE⟩ : ∃ e, secE 5 ⟨7, 3, 1⟩ b.length = e := ⟨_, rfl⟩
  have hse := seal_ok 5 ⟨7, 3, 1⟩ _ b w1 (HV.out.below H1.out) hbl (by decide) (fine3 7 3 1 (by decide) (by decide) (by decide))
  rw [hE] at hse
  have HE := Lib.hid (And.intro hE (And.intro hse hnb)); clear hE hse hnb
  go_wp2_with fail
  refine HE.out.2.1.mono ?_; rintro e w2 ⟨x, rfl, hx, hb⟩
  by_cases hE0 : E = 0
  · subst hE0
    obtain ⟨_, hn⟩ := secE_zero HE.out.1
    rw [if_pos rfl] at hx
    have hsl := secB_len 5 ⟨7, 3, 1⟩ b hn
    obtain ⟨SB, hSB⟩ : ∃ b', secB 5 ⟨7, 3, 1⟩ b = b' := ⟨_, rfl⟩
    rw [hSB] at hx hsl
    obtain ⟨Ax, cx, rfl, hcx, hrx, _⟩ := id hx
    have H2 := Lib.hid (And.intro hx (And.intro (below_up H1.out hb) (And.intro hcx hrx))); clear hx hb hSB hcx hrx
    have k0 : ((SB.length : Int) != 256) = false := by rw [bne_eq_false_iff_eq]; omega
    have k1 : ((SB.length : Int) == 256) = true := by rw [beq_iff_eq]; omega
    have HSL := Lib.hid (And.intro hsl hn); clear hsl hn
    obtain ⟨r, ca, e1, e2, e3, e4, e5, e6⟩ := cut256 at_
    go_upto_region 9 with (at_builtin; refine wpList_app rfl _ _ 40 rfl w2.heap.size 5 (.int .u8 0) 1 1 Try.underlying40 info_u8 rfl (by decide) (by decide) (.slice (some ⟨w2.heap.size, 0, none⟩) 0 0) 0 [] rfl Ax SB.length cx (bv SB) rfl (own_zero w2 5 1) (by rw [bv_length, Nat.mul_one]) (H2.out.2.2.2.below (below_alloc1 _ _)) (bv_one _) (by have := HSL.out.1; omega) (below_alloc1 _ _).size ?_
                           intro A1 c1 w3 hown hgrow hat
                           simp only [Nat.zero_add, List.nil_append] at hown
                           have hb3 := below_grown (below_up H2.out.2.1 (below_alloc1 w2 (.cells #[] 5))) hgrow (fun k e => by cases e; exact H2.out.2.1.size)
                           have hx3 := H2.out.1.below (below_grown (below_alloc1 w2 (.cells #[] 5)) hgrow (fun k e => by cases e; exact Nat.le_refl _))
                           have H3 := Lib.hid (And.intro hown (And.intro hb3 hx3)); clear hown hb3 hx3 hgrow hat
                           skip)
    obtain ⟨gy, rfl, hgy⟩ := own_at H3.out.1 (by have := HSL.out.1; omega)
    obtain ⟨N, hN⟩ : ∃ n, (SB.getD ca 0).toNat = n := ⟨_, rfl⟩
    have hNb : N < 256 := by rw [← hN]; exact UInt8.toNat_lt _
    have d0 : w3.cell? ⟨gy, ca, none⟩ = some (.int .u8 (N : Nat)) := by
      have h256 := HSL.out.1
      rw [H3.out.1.cellAt ca (by omega), bv_get, List.getElem?_eq_getElem (by omega), ← hN]
      simp [List.getD, List.getElem?_eq_getElem (show ca < SB.length by omega)]
    have d1 := H3.out.1.frozenAt ca
    have hxv := u8_xor_nat N B hNb hB
    have hst := H3.out.1.stored ca (.int .u8 ((N ^^^ B : Nat) : Int))
    have hXb : N ^^^ B < 256 := Nat.xor_lt_two_pow (n := 8) (by omega) (by omega)
    obtain ⟨X, hX⟩ : ∃ x, N ^^^ B = x := ⟨_, rfl⟩
    rw [hX] at hxv hst hXb
    obtain ⟨Y, hY⟩ : ∃ y, SB.set ca (UInt8.ofNat X) = y := ⟨_, rfl⟩
    have hset : (bv SB).set ca (.int .u8 (X : Nat)) = bv Y := by
      rw [← hY]
      unfold bv
      rw [List.map_set]
      congr 2
      simp; omega
    have hYl : Y.length = SB.length := by rw [← hY, List.length_set]
    rw [hset] at hst
    have hb4 := below_grown H3.out.2.1 hst.2 (fun k e => by cases e; exact Nat.le_trans H2.out.2.1.size hgy)
    have hyr : BRd (w3.setCell ⟨gy, ca, none⟩ (.int .u8 (X : Nat))) (.slice (some ⟨gy, 0, none⟩) SB.length c1) Y := brd_own hst.1
    have hx4 : BRd (w3.setCell ⟨gy, ca, none⟩ (.int .u8 (X : Nat))) (.slice Ax SB.length cx) SB := by
      obtain ⟨A, c, e, j1, j2, j3⟩ := H2.out.1
      injection e with e1 e2 e3
      have hax : ∀ ad, Ax = some ad → ad.block < w2.heap.size := fun ad ha => by
        have := H2.out.2.2.2
        rw [ha] at this
        exact this.lt (by rw [bv_length]; have := HSL.out.1; omega)
      refine ⟨Ax, cx, rfl, H2.out.2.2.1, fun i hi => ?_, fun ad ha h0 => j3 ad (by rw [← e1]; exact ha) h0⟩
      obtain ⟨A', c', e', _, k2, _⟩ := H3.out.2.2
      injection e' with e1' _ _
      obtain ⟨ad, ha, hcl⟩ := k2 i hi
      rw [← e1'] at ha
      refine ⟨ad, ha, ?_⟩
      have hlt := hax ad ha
      rw [World.cell?_setCell_far _ _ _ _ (by rw [add_block]; show gy ≠ ad.block; omega)]
      exact hcl
    have HY := Lib.hid (And.intro hst.1 (And.intro hb4 (And.intro hyr (And.intro hx4 hYl)))); clear hst hb4 hyr hx4 hYl hset hY hN
    have k2 : (ca : Int) < SB.length := by have := HSL.out.1; omega
    have k3 : ca < SB.length := by have := HSL.out.1; omega
    go_upto_region 11 with (fail)
    generalize (w3.setCell _ _) = w4 at *
    have hop := open_any _ Y w4 HY.out.2.2.1 (by have h1 := HSL.out.1; have h2 := HY.out.2.2.2.2; omega)
    obtain ⟨r', cc, e1', e2', e3', e4', e5', e6'⟩ := cut256 cut
    have hs1 := fun (W : World) (hb : Below w4.heap.size w4 W) => refsound_ok _ Y W (HY.out.2.2.1.below hb) (by have h1 := HSL.out.1; have h2 := HY.out.2.2.2.2; omega)
    have hs2 : ∀ W : World, Below w4.heap.size w4 W → Calls Try.prog 49 #[.slice Ax cc cx] W fun e w' => e = .returned (.bool false) ∧ Below W.heap.size W w' := fun W hb => by
      obtain ⟨A', c', e', _, kr, _⟩ := HY.out.2.2.2.1.below hb
      injection e' with q1 q2 q3
      rw [← q1] at kr
      have h1 := HSL.out.1
      have h2 := H2.out.2.2.1
      have := sound_ok (.slice Ax cc cx) (SB.take cc) W (brd_take kr (by omega) (by omega)) (by have := List.length_take_le cc SB; omega)
      rw [snd_len (by rw [List.length_take]; omega)] at this
      exact this
    have hs3 : ∀ (W : World) (v : Value), BRd W v (Y ++ [0]) → Calls Try.prog 49 #[v] W fun e w' => e = .returned (.bool false) ∧ Below W.heap.size W w' := fun W v hv => by
      have h1 := HSL.out.1
      have h2 := HY.out.2.2.2.2
      have := sound_ok v (Y ++ [0]) W hv (by simp; omega)
      rw [snd_len (by simp; omega)] at this
      exact this
    obtain ⟨YS, hYS⟩ : ∃ z, snd Y = z := ⟨_, rfl⟩
    rw [hYS] at hs1
    have hle : w2.heap.size ≤ w4.heap.size := by
      have := own_lt HY.out.1 gy rfl
      omega
    have HLE := Lib.hid hle; clear hle
    have HC := Lib.hid (And.intro hs1 (And.intro hs2 hs3)); clear hs1 hs2 hs3
    have k5 : (cc : Int) ≤ cx := by have := HSL.out.1; have := H2.out.2.2.1; omega
    have k6 : cc ≤ cx := by omega
    have k7 : (0 : Int) ≤ cc := by omega
    by_cases ho : okR Y
    · obtain ⟨o1, o2, o3, o4⟩ := o_yes ho
      have hys : YS = true := by rw [← hYS]; exact ho.1
      subst hys
      rw [o1, o2, o3, o4] at hop
      have HO := Lib.hid hop; clear hop ho o1 o2 o3 o4 hYS
      go_wp2_with fail
      (with_reducible refine HO.out.mono ?_); rintro e w5 ⟨u, rfl, hu, hb⟩
      have hb5 := below_up hb (below_alloc1 w5 (.cells #[.int .i64 (sOf Y).ep, .int .i64 (sOf Y).sq, .int .i64 (sOf Y).pos] 84))
      have H5 := Lib.hid (And.intro trivial hb5); clear hb5 hu hb
      by_cases hB0 : B = 0
      · subst hB0
        go_wp2_with (first
          | (go_at_call 50; (with_reducible refine (HC.out.1 _ H5.out.2).mono ?_); rintro e w6 ⟨rfl, hb⟩; have HS6 := Lib.hid (below_up H5.out.2 hb); clear hb)
          | (go_at_call 49; (with_reducible refine (HC.out.2.1 _ H5.out.2).mono ?_); rintro e w7 ⟨rfl, hb⟩; have HS7 := Lib.hid (below_up H5.out.2 hb); clear hb)
          | (at_builtin; refine wpList_appG rfl _ _ 40 rfl w2.heap.size 5 (.int .u8 0) 1 1 Try.underlying40 info_u8 rfl (by decide) (by decide) (.slice (some ⟨gy, 0, none⟩) SB.length c1) SB.length (bv Y) rfl (some ⟨w7.heap.size, 0, none⟩) 1 1 (bv [0]) rfl (own_below HY.out.1 (below_alloc HS7.out _)) rfl (rd_new _ _ _ _ rfl) (bv_one _) (by have := HSL.out.1; omega) (Nat.le_trans HLE.out (below_alloc HS7.out _).size) ?_
             intro A8 c8 w8 hown hgrow hat
             rw [← bv_append] at hown
             have hb8 := below_grown (below_up HY.out.2.1 (below_alloc HS7.out _)) hgrow (fun k e => by cases e; exact Nat.le_trans H2.out.2.1.size hgy)
             have H8 := Lib.hid (And.intro (brd_own (l := Y ++ [0]) hown) hb8); clear hown hb8 hgrow hat)
          | (go_at_call 49; (with_reducible refine (HC.out.2.2 _ _ H8.out.1).mono ?_); rintro e w9 ⟨rfl, hb⟩; have H9 := Lib.hid (below_up H8.out.2 hb); clear hb))
        go_ret
        exact ⟨ret_bool (by first | rfl | simp), H9.out⟩
      · have kB : (((B : Nat) : Int) == 0) = false := by rw [beq_eq_false_iff_ne]; omega
        clear hB0
        go_wp2_with (first
          | (go_at_call 50; (with_reducible refine (HC.out.1 _ H5.out.2).mono ?_); rintro e w6 ⟨rfl, hb⟩; have HS6 := Lib.hid (below_up H5.out.2 hb); clear hb)
          | (go_at_call 49; (with_reducible refine (HC.out.2.1 _ HS6.out).mono ?_); rintro e w7 ⟨rfl, hb⟩; have HS7 := Lib.hid (below_up HS6.out hb); clear hb)
          | (at_builtin; refine wpList_appG rfl _ _ 40 rfl w2.heap.size 5 (.int .u8 0) 1 1 Try.underlying40 info_u8 rfl (by decide) (by decide) (.slice (some ⟨gy, 0, none⟩) SB.length c1) SB.length (bv Y) rfl (some ⟨w7.heap.size, 0, none⟩) 1 1 (bv [0]) rfl (own_below HY.out.1 (below_alloc HS7.out _)) rfl (rd_new _ _ _ _ rfl) (bv_one _) (by have := HSL.out.1; omega) (Nat.le_trans HLE.out (below_alloc HS7.out _).size) ?_
             intro A8 c8 w8 hown hgrow hat
             rw [← bv_append] at hown
             have hb8 := below_grown (below_up HY.out.2.1 (below_alloc HS7.out _)) hgrow (fun k e => by cases e; exact Nat.le_trans H2.out.2.1.size hgy)
             have H8 := Lib.hid (And.intro (brd_own (l := Y ++ [0]) hown) hb8); clear hown hb8 hgrow hat)
          | (go_at_call 49; (with_reducible refine (HC.out.2.2 _ _ H8.out.1).mono ?_); rintro e w9 ⟨rfl, hb⟩; have H9 := Lib.hid (below_up H8.out.2 hb); clear hb))
        go_ret
        exact ⟨ret_bool (by first | rfl | simp), H9.out⟩
    · obtain ⟨o1, o2, o3, o4⟩ := o_no ho
      rw [o1, o2, o3, o4] at hop
      have HO := Lib.hid hop; clear hop ho o1 o2 o3 o4 hYS
      go_wp2_with fail
      (with_reducible refine HO.out.mono ?_); rintro e w5 ⟨u, rfl, hu, hb⟩
      have hb5 := below_up hb (below_alloc1 w5 (.cells #[.int .i64 StS.zero.ep, .int .i64 StS.zero.sq, .int .i64 StS.zero.pos] 84))
      have H5 := Lib.hid (And.intro trivial hb5); clear hb5 hu hb
      go_wp2_with (first
        | (go_at_call 50; (with_reducible refine (HC.out.1 _ H5.out.2).mono ?_); rintro e w6 ⟨rfl, hb⟩; have HS6 := Lib.hid (below_up H5.out.2 hb); clear hb)
        | (go_at_call 49; (with_reducible refine (HC.out.2.1 _ H5.out.2).mono ?_); rintro e w7 ⟨rfl, hb⟩; have HS7 := Lib.hid (below_up H5.out.2 hb); clear hb)
        | (at_builtin; refine wpList_appG rfl _ _ 40 rfl w2.heap.size 5 (.int .u8 0) 1 1 Try.underlying40 info_u8 rfl (by decide) (by decide) (.slice (some ⟨gy, 0, none⟩) SB.length c1) SB.length (bv Y) rfl (some ⟨w7.heap.size, 0, none⟩) 1 1 (bv [0]) rfl (own_below HY.out.1 (below_alloc HS7.out _)) rfl (rd_new _ _ _ _ rfl) (bv_one _) (by have := HSL.out.1; omega) (Nat.le_trans HLE.out (below_alloc HS7.out _).size) ?_
           intro A8 c8 w8 hown hgrow hat
           rw [← bv_append] at hown
           have hb8 := below_grown (below_up HY.out.2.1 (below_alloc HS7.out _)) hgrow (fun k e => by cases e; exact Nat.le_trans H2.out.2.1.size hgy)
           have H8 := Lib.hid (And.intro (brd_own (l := Y ++ [0]) hown) hb8); clear hown hb8 hgrow hat)
        | (go_at_call 49; (with_reducible refine (HC.out.2.2 _ _ H8.out.1).mono ?_); rintro e w9 ⟨rfl, hb⟩; have H9 := Lib.hid (below_up H8.out.2 hb); clear hb))
      go_ret
      exact ⟨ret_bool (by first | rfl | simp), H9.out⟩
  · rw [if_neg hE0] at hx
    have e1 : (E != 0) = true := by simpa using hE0
    have hlong : 238 < b.length := by
      have h := HE.out.1
      unfold secE at h
      rw [if_neg HE.out.2.2] at h
      by_cases hn : 238 < b.length
      · exact hn
      · rw [if_neg hn] at h; exact absurd h.symm hE0
    have d1 : decide ((238 : Int) < b.length) = true := decide_eq_true (by omega)
    obtain ⟨Ax, cx, rfl, _, _, _⟩ := id hx
    have H2 := Lib.hid (below_up H1.out hb); clear hx hb hE0
    go_wp2
    go_ret
    exact ⟨ret_bool (by first | rfl | simp), H2.out⟩
end Go.Proofs.Ytkjapmafipnmpaa.Fm
