/- The walk over ModelRuns. -/
import Derived.Test.YtdomngpkahgoiaaMd6
namespace Go.Proofs.Ytdomngpkahgoiaa.Md
open Go.RowKit Pt St Rg Ti Wi
set_option linter.unusedVariables false
set_option linter.unusedSimpArgs false
set_option maxHeartbeats 20000000 in
set_option maxRecDepth 100000 in
theorem runs_walk (v : Value) (l : List PtS) (vops : Value) (ops : List OpS) (r : RcS) (x0 y0 : Nat) (K0 : Int) (w : World) (hv : PRow w v l) (hl : l.length ≤ 4398046511000) (hf : ∀ p ∈ l, p.fine) (hvo : SRd 5 OpS.cells w vops ops) (hlo : ops.length ≤ 4398046511000) (hfo : ∀ o ∈ ops, (-9223372036854775808 ≤ o.kind ∧ o.kind ≤ 9223372036854775807) ∧ o.p.fine)
    (hx : x0 < 4294967296) (hy : y0 < 4294967296) (hk0 : -9223372036854775808 ≤ K0 ∧ K0 ≤ 9223372036854775807) :
    Calls Try.prog 7 #[v, vops, rcv r, .int .u32 (x0 : Nat), .int .u32 (y0 : Nat), .int .i64 K0] w fun e w' => e = .returned (.bool true) ∧ Below w.heap.size w w' := by
  have HV := Lib.hid hv
  have HVo := Lib.hid hvo
  have HFl := Lib.hid hf
  have HFo := Lib.hid hfo
  have HXY := Lib.hid (And.intro hx (And.intro hy hk0))
  have HAl := Lib.hid (fun W => alive_ok W)
  have hq := alloc_at (w := w) (.cells #[.int .u32 (r.x0 : Nat), .int .u32 (r.y0 : Nat), .int .u32 (r.x1 : Nat), .int .u32 (r.y1 : Nat)] 24) rfl
  have hb := below_alloc1 w (.cells #[.int .u32 (r.x0 : Nat), .int .u32 (r.y0 : Nat), .int .u32 (r.x1 : Nat), .int .u32 (r.y1 : Nat)] 24)
  have H0 := Lib.hid (And.intro (show CPr w.heap.size r _ from hq) hb)
  obtain ⟨A, cap, rfl, hcap, _⟩ := hv
  obtain ⟨Ap, cp, rfl, _, _⟩ := hvo
  clear hq hb hf hfo hx hy hk0
  go_enter Try.func7, Try.ntmps7
  go_wp2_with fail
  (with_reducible refine (HAl.out _).mono ?_); rintro e w1 ⟨rfl, hb⟩
  have H1 : Hid (CPr w.heap.size r w1 ∧ Below w.heap.size w w1) := Lib.hid ⟨block_up H0.out.1 hb, below_up H0.out.2 hb⟩
  clear hb H0 HAl
  have HB30 := Lib.hid (show ∀ p ∈ l.take 30, p.fine from fun p hp => HFl.out p (List.mem_of_mem_take hp))
  have ht30 : (l.take 30).length ≤ 30 := List.length_take_le _ _
  go_upto_if 27 with (fail)
  go_cut [0] from 27 to 29 (fun v0 wx => (∃ c, v0 = .slice A (l.take 30).length c ∧ PRow w (.slice A (l.take 30).length c) (l.take 30)) ∧ w1 = wx)
  case first =>
    by_cases h30 : 30 < l.length
    · have d1 : decide ((30 : Int) < l.length) = true := decide_eq_true (by omega)
      have e1 : (l.take 30).length = 30 := by rw [List.length_take]; omega
      have b1 : (30 : Int) ≤ cap := by omega
      have HS := Lib.hid (take_prow HV.out (n := 30) (by omega))
      have HE := Lib.hid e1; clear e1 ht30
      go_wp2
      go_meet
      case rel => exact ⟨⟨cap, by rw [HE.out], by rw [HE.out]; exact HS.out⟩, rfl⟩
    · have d1 : decide ((30 : Int) < l.length) = false := decide_eq_false (by omega)
      have e1 : l.take 30 = l := List.take_of_length_le (by omega)
      have HE := Lib.hid e1; clear e1 ht30
      go_wp2
      go_meet
      case rel => exact ⟨⟨cap, by rw [HE.out], by rw [HE.out]; exact HV.out⟩, rfl⟩
  case rest =>
  obtain ⟨⟨c0, rfl, hp0⟩, hw⟩ := hcut
  subst hw
  obtain ⟨l0, hl0⟩ : ∃ l0, l.take 30 = l0 := ⟨_, rfl⟩
  rw [hl0] at ht30 HB30 hp0
  have HP0 := Lib.hid hp0
  rw [hl0]
  clear hp0 hl0 HV HFl hl hcap
  have HNw := Lib.hid (new_ok (.slice A l0.length c0) l0 w1 (HP0.out.below H1.out.2) (by omega))
  rw [new_is l0 ht30] at HNw
  go_wp2_with fail
  (with_reducible refine HNw.out.mono ?_); rintro e w2 ⟨vm, rfl, hm2, hb2⟩
  have HM2 := Lib.hid hm2
  have H2 : Hid (CPr w.heap.size r w2 ∧ Below w.heap.size w w2) := Lib.hid ⟨block_up H1.out.1 hb2, below_up H1.out.2 hb2⟩
  have HGe := Lib.hid H1.out.2.size
  generalize w1.heap.size = g at *
  clear hm2 hb2 HNw
  have HOn := Lib.hid (once_ok (.slice A l0.length c0) l0 30 w2 (HP0.out.below H2.out.2) (by omega) (by decide))
  rw [show ((30 : Nat) : Int) = 30 from rfl] at HOn
  go_wp2_with fail
  (with_reducible refine HOn.out.mono ?_); rintro e w3 ⟨v3, rfl, ho3, hb3⟩
  have HM3 := Lib.hid (HM2.out.below hb3)
  have H3 : Hid (CPr w.heap.size r w3 ∧ Below w.heap.size w w3) := Lib.hid ⟨block_up H2.out.1 hb3, below_up H2.out.2 hb3⟩
  have hol := onceL_le 30 l0
  have HSr := Lib.hid (sort23_ok v3 (onceL 30 l0) w3 (srd_own PtS.cells_len (by decide) ho3) (by omega))
  obtain ⟨A3, c3, rfl, _, _, _, _⟩ := own_rd ho3
  clear ho3 hb3 HOn
  go_wp2_with fail
  (with_reducible refine HSr.out.mono ?_); rintro e w4 ⟨v4, rfl, ho4, hb4⟩
  have HR4 : Hid (MR w w4 g r vm v4 (byId (onceL 30 l0))) := Lib.hid ⟨⟨block_up HM3.out.blk hb4, own_lower (own_below HM3.out.row hb4) HGe.out⟩, by
      rw [byId_length]; exact own_lower ho4 (H3.out.2.size), fun k h1 h2 => by
      have a1 := own_lt HM3.out.row k h1
      have a2 := own_base ho4 k h2
      omega, block_up H3.out.1 hb4, fun p hp => by
      have h1 := (byId_perm _).mem_iff.1 hp
      exact once_all 30 PtS.fine l0 [] HB30.out (by simp) p h1, below_up H3.out.2 hb4⟩
  have hO4 : (byId (onceL 30 l0)).length ≤ 30 := by rw [byId_length]; exact hol
  generalize byId (onceL 30 l0) = O4 at *
  clear ho4 hb4 hol HSr HM3 HM2 H3 H2 HP0 HB30 ht30
  go_wp2_with fail
  go_loopw [14, 15] (fun vo vi W' => ∃ (i : Nat) (O : List PtS) (vm : Value), vi = .int .i64 i ∧ i ≤ ops.length ∧ O.length ≤ 30 + i ∧ i ≤ 30 ∧ MR w W' g r vm vo O) (fun _ vi _ => ops.length - (intOf vi).toNat)
  case atStart => exact ⟨0, O4, vm, rfl, Nat.zero_le _, by omega, by omega, HR4.out⟩
  case round =>
  obtain ⟨i, O, vm, rfl, hi, hOl, hi30, hR⟩ := hrel
  have HR := Lib.hid hR
  obtain ⟨Ao, co, rfl, hco, _, _, _⟩ := own_rd hR.o
  clear hR HR4 hO4
  obtain ⟨w5, rfl⟩ : ∃ W, W = wr := ⟨_, rfl⟩
  obtain ⟨bb, hbb⟩ : ∃ b, decide (i < ops.length ∧ i < 30) = b := ⟨_, rfl⟩
  have HBB := Lib.hid hbb
  clear hbb
  go_upto_region 8 with (fail)
  go_cut [42] from 35 to 42 (fun v42 wx => v42 = .bool bb ∧ w5 = wx)
  case first =>
    by_cases h1 : i < ops.length
    · have d : decide (i < ops.length) = true := decide_eq_true h1
      have di : decide ((i : Int) < ops.length) = true := decide_eq_true (by omega)
      by_cases h2 : i < 30
      · have d3 : decide (i < 30) = true := decide_eq_true h2
        have d3i : decide ((i : Int) < 30) = true := decide_eq_true (by omega)
        obtain rfl : bb = true := by rw [← HBB.out]; exact decide_eq_true ⟨h1, h2⟩
        clear h1 h2
        go_wp2
        go_meet
        case rel => exact ⟨rfl, rfl⟩
      · have d3 : decide (i < 30) = false := decide_eq_false h2
        have d3i : decide ((i : Int) < 30) = false := decide_eq_false (by omega)
        obtain rfl : bb = false := by rw [← HBB.out]; exact decide_eq_false (fun h => h2 h.2)
        clear h1 h2
        go_wp2
        go_meet
        case rel => exact ⟨rfl, rfl⟩
    · have d : decide (i < ops.length) = false := decide_eq_false h1
      have di : decide ((i : Int) < ops.length) = false := decide_eq_false (by omega)
      obtain rfl : bb = false := by rw [← HBB.out]; exact decide_eq_false (fun h => h1 h.1)
      clear h1
      go_wp2
      go_meet
      case rel => exact ⟨rfl, rfl⟩
  case rest =>
  obtain ⟨rfl, hw⟩ := hcut
  subst hw
  rw [← HBB.out]
  clear HBB
  by_cases hlt : i < ops.length ∧ i < 30
  · rw [decide_eq_true hlt]
    obtain ⟨hlt, hlt30⟩ := hlt
    have d : decide (i < ops.length) = true := decide_eq_true hlt
    have di : decide ((i : Int) < ops.length) = true := decide_eq_true (by omega)
    have d3 : decide (i < 30) = true := decide_eq_true hlt30
    have d3i : decide ((i : Int) < 30) = true := decide_eq_true (by omega)
    have bi : (i : Int) < ops.length := by omega
    obtain ⟨gp, op, rfl, _, hcc⟩ := (HVo.out.below HR.out.be).get OpS.cells_len (by decide) hlt
    have c0 := hcc 0 (by decide)
    have c1 := hcc 1 (by decide)
    have c2 := hcc 2 (by decide)
    have c3 := hcc 3 (by decide)
    have c4 := hcc 4 (by decide)
    have hfx := HFo.out _ (List.getElem_mem hlt)
    clear hcc
    generalize ops[i] = oo at *
    obtain ⟨kd, x⟩ := oo
    simp only [OpS.cells, PtS.cells, Nat.add_zero, List.getElem?_cons_zero, List.getElem?_cons_succ] at c0 c1 c2 c3 c4 hfx
    have HFx := Lib.hid hfx
    have hkd := hfx.1
    have ba := below_alloc1 w5 (.cells #[.int .i64 x.id, .int .u32 (x.x : Nat), .int .u32 (x.y : Nat), .string x.d] 56)
    have HRa := Lib.hid (HR.out.below ba)
    have HPq := Lib.hid (alloc_at (w := w5) (.cells #[.int .i64 x.id, .int .u32 (x.x : Nat), .int .u32 (x.y : Nat), .string x.d] 56) rfl)
    have c0' := cell_alloc c0 (.cells #[.int .i64 x.id, .int .u32 (x.x : Nat), .int .u32 (x.y : Nat), .string x.d] 56)
    have HNew : Hid (∀ k, (Value.slice Ao O.length co).ownBlock = some k → k ≠ w5.heap.size) := Lib.hid (fun k e => by have := own_lt HR.out.o k e; omega)
    have HNem : Hid (∀ k, vm.ownBlock = some k → k ≠ w5.heap.size) := Lib.hid (fun k e => by have := own_lt HR.out.m.row k e; omega)
    have HNg : Hid (g ≠ w5.heap.size) := Lib.hid (by have := md_ge HR.out.m; omega)
    have HFd := Lib.hid (find_ok (.slice Ao O.length co) O x.id _ (srd_own PtS.cells_len (by decide) HRa.out.o) (by omega))
    obtain ⟨z, hz⟩ : ∃ z, at_ O x.id = z := ⟨_, rfl⟩
    rw [hz] at HFd
    have HZ := Lib.hid hz
    clear ba hfx hz
    go_upto_region 13 with ((with_reducible refine HFd.out.mono ?_); rintro e w6 ⟨rfl, hw6⟩; subst hw6)
    obtain ⟨kk, hkk, hk3⟩ : ∃ kk : Int, kd.tmod 3 = kk ∧ -2 ≤ kk ∧ kk ≤ 2 := ⟨_, rfl, by have := Int.lt_tmod_of_pos kd (show (0 : Int) < 3 by decide); omega, by have := Int.tmod_lt_of_pos kd (show (0 : Int) < 3 by decide); omega⟩
    go_cut [61] from 54 to 61 (fun v61 wx => (v61 = .int .i64 0 ∨ v61 = .int .i64 1 ∨ v61 = .int .i64 2) ∧ (w5.alloc (.cells #[.int .i64 x.id, .int .u32 (x.x : Nat), .int .u32 (x.y : Nat), .string x.d] 56)) = wx)
    case first =>
      go_wp2
      go_meet
      case rel =>
        refine ⟨?_, rfl⟩
        have h3 : (kk + 3) % 3 = 0 ∨ (kk + 3) % 3 = 1 ∨ (kk + 3) % 3 = 2 := by omega
        rcases h3 with h | h | h
        · exact .inl (by rw [h])
        · exact .inr (.inl (by rw [h]))
        · exact .inr (.inr (by rw [h]))
    case rest =>
    obtain ⟨h61, hw⟩ := hcut
    subst hw
    clear c0 c1 c2 c3 c4 c0' hkk hk3 hkd
    generalize (World.alloc w5 _) = w6 at *
    go_upto_block 2 with (fail)
    go_cut [14, 18, 19] from 62 to 133 (fun v14 v18 v19 wx => ∃ (vm' : Value) (O' : List PtS) (c : Int), v18 = .int .i64 c ∧ v19 = .int .i64 c ∧ O'.length ≤ O.length + 1 ∧ MR w wx g r vm' v14 O' ∧ wx.heap[w5.heap.size]? = some (.cells #[.int .i64 x.id, .int .u32 (x.x : Nat), .int .u32 (x.y : Nat), .string x.d] 56 (0, 0)))
    case first =>
      obtain ⟨p0, p1, p2, p3⟩ := cells4 HPq.out
      rcases h61 with rfl | rfl | rfl
      · -- Insert
        have HIn := Lib.hid (insert_ok HRa.out.m HRa.out.be.size (by omega) x)
        go_wp2_with fail
        (with_reducible refine HIn.out.mono ?_); rintro e w7 ⟨vm', rfl, hm7, hf7, hv7⟩
        obtain ⟨ho7, hrc7, hb7⟩ := MR.turn HRa.out HGe.out hm7 hf7 (fun k h => .inl h)
        have HPq7 := Lib.hid (blk_fr HPq.out hf7 (fun e => HNg.out e.symm))
        have HM7 := Lib.hid (And.intro hm7 (And.intro ho7 (And.intro hrc7 hb7)))
        have HA7 : Hid (∀ k, vm'.ownBlock = some k → (Value.slice Ao O.length co).ownBlock ≠ some k) := Lib.hid (fun k h1 h2 => by
          rcases hv7 with rfl | hv7
          · exact HRa.out.ap k h1 h2
          · have a1 := hv7 k h1
            have a2 := own_lt HRa.out.o k h2
            omega)
        clear hm7 ho7 hrc7 hb7 hf7 hv7 p0 p1 p2 p3
        have HFinI : Hid (∀ (wx : World) (v14 : Value), wx.ownsRow w.heap.size 56 4 v14 (insL x O).length ((insL x O).flatMap PtS.cells) → (∀ k, v14.ownBlock = some k → (Value.slice Ao O.length co).ownBlock = some k ∨ w7.heap.size ≤ k) → Below w7.heap.size w7 wx →
            (insL x O).length ≤ O.length + 1 ∧ MR w wx g r vm' v14 (insL x O) ∧ wx.heap[w5.heap.size]? = some (.cells #[.int .i64 x.id, .int .u32 (x.x : Nat), .int .u32 (x.y : Nat), .string x.d] 56 (0, 0))) := Lib.hid (fun wx v14 ho8 hn8 hb8 => ⟨insL_len x O, ⟨HM7.out.1.below hb8, ho8, fun k h1 h2 => by
          rcases hn8 k h2 with h3 | h3
          · exact HA7.out k h1 h3
          · have := own_lt HM7.out.1.row k h1
            omega, block_up HM7.out.2.2.1 hb8, insL_fine HFx.out.2 HRa.out.fi, below_up HM7.out.2.2.2 hb8⟩, block_up HPq7.out hb8⟩)
        obtain ⟨p0, p1, p2, p3⟩ := cells4 HPq7.out
        obtain ⟨ec, hec⟩ : ∃ c, insC x O = c := ⟨_, rfl⟩
        rw [hec]
        have HE := Lib.hid hec
        clear hec
        have hkeep : ∀ c, c ≠ 0 → insC x O = c → (insL x O) = O := fun c hc he => by unfold insL; rw [if_neg (by rw [he]; exact hc)]
        by_cases k1 : x.id < 1
        · have d1 : decide (x.id < 1) = true := decide_eq_true k1
          have he : insC x O = 4 := by
            have hch : x.chk = 4 := by unfold PtS.chk; rw [if_pos (.inl k1)]
            unfold insC; rw [hch, if_pos (by decide)]
          have HL := Lib.hid (hkeep 4 (by decide) he)
          obtain rfl : ec = 4 := by rw [← HE.out]; exact he
          clear k1 he hkeep
          go_wp2
          go_meet
          case rel => exact ⟨vm', insL x O, _, rfl, rfl, HFinI.out w7 _ (by rw [HL.out]; exact HM7.out.2.1) (fun k h => .inl h) (Below.refl _ _)⟩
        · have d1 : decide (x.id < 1) = false := decide_eq_false k1
          by_cases k2 : 2147483648 ≤ x.id
          · have d2 : decide (2147483648 ≤ x.id) = true := decide_eq_true k2
            have he : insC x O = 4 := by
              have hch : x.chk = 4 := by unfold PtS.chk; rw [if_pos (.inr (by omega))]
              unfold insC; rw [hch, if_pos (by decide)]
            have HL := Lib.hid (hkeep 4 (by decide) he)
            obtain rfl : ec = 4 := by rw [← HE.out]; exact he
            clear k1 k2 he hkeep
            go_wp2
            go_meet
            case rel => exact ⟨vm', insL x O, _, rfl, rfl, HFinI.out w7 _ (by rw [HL.out]; exact HM7.out.2.1) (fun k h => .inl h) (Below.refl _ _)⟩
          · have d2 : decide (2147483648 ≤ x.id) = false := decide_eq_false k2
            by_cases k3 : 16 < x.d.size
            · have d3' : decide (16 < x.d.size) = true := decide_eq_true k3
              have d3'' : decide ((16 : Int) < x.d.size) = true := decide_eq_true (by omega)
              have he : insC x O = 5 := by
                have hch : x.chk = 5 := by unfold PtS.chk; rw [if_neg (by omega), if_pos k3]
                unfold insC; rw [hch, if_pos (by decide)]
              have HL := Lib.hid (hkeep 5 (by decide) he)
              obtain rfl : ec = 5 := by rw [← HE.out]; exact he
              clear k1 k2 k3 he hkeep
              go_wp2
              go_meet
              case rel => exact ⟨vm', insL x O, _, rfl, rfl, HFinI.out w7 _ (by rw [HL.out]; exact HM7.out.2.1) (fun k h => .inl h) (Below.refl _ _)⟩
            · have d3' : decide (16 < x.d.size) = false := decide_eq_false k3
              have d3'' : decide ((16 : Int) < x.d.size) = false := decide_eq_false (by omega)
              have hch : x.chk = 0 := by unfold PtS.chk; rw [if_neg (by omega), if_neg k3]
              by_cases k4 : 0 ≤ z
              · have d4 : decide (0 ≤ z) = true := decide_eq_true k4
                have he : insC x O = 22 := by unfold insC; rw [if_neg (fun h => h hch), HZ.out, if_pos k4]
                have HL := Lib.hid (hkeep 22 (by decide) he)
                obtain rfl : ec = 22 := by rw [← HE.out]; exact he
                clear k1 k2 k3 k4 he hkeep hch
                go_wp2
                go_meet
                case rel => exact ⟨vm', insL x O, _, rfl, rfl, HFinI.out w7 _ (by rw [HL.out]; exact HM7.out.2.1) (fun k h => .inl h) (Below.refl _ _)⟩
              · have d4 : decide (0 ≤ z) = false := decide_eq_false k4
                have he : insC x O = 0 := by unfold insC; rw [if_neg (fun h => h hch), HZ.out, if_neg k4]
                have HL : Hid (insL x O = byId (O ++ [x])) := Lib.hid (by unfold insL; rw [if_pos he])
                obtain rfl : ec = 0 := by rw [← HE.out]; exact he
                clear k1 k2 k3 k4 he hkeep hch
                go_upto_region 21 with (fail)
                clear p0 p1 p2 p3
                have HD7 := Lib.hid (below_drew1 (w := w7))
                have HQ : Hid (∀ W', Below w7.heap.size w7 W' → (W'.cell? ⟨w5.heap.size, 0, none⟩ = some (.int .i64 x.id) ∧ W'.cell? ⟨w5.heap.size, 1, none⟩ = some (.int .u32 (x.x : Nat)) ∧ W'.cell? ⟨w5.heap.size, 2, none⟩ = some (.int .u32 (x.y : Nat)) ∧ W'.cell? ⟨w5.heap.size, 3, none⟩ = some (.string x.d))) := Lib.hid (fun W' hb => cells4 (block_up HPq7.out hb))
                have HRt : Hid (∀ W', Below w7.heap.size w7 W' → Rd W' Ao (O.flatMap PtS.cells)) := Lib.hid (fun W' hb => by
                  obtain ⟨A', c', e, _, hr⟩ := srd_own PtS.cells_len (by decide) (own_below HM7.out.2.1 hb)
                  injection e with e1 _ _
                  rw [e1]; exact hr)
                refine beginS (S := fun W' => (W'.cell? ⟨w5.heap.size, 0, none⟩ = some (.int .i64 x.id) ∧ W'.cell? ⟨w5.heap.size, 1, none⟩ = some (.int .u32 (x.x : Nat)) ∧ W'.cell? ⟨w5.heap.size, 2, none⟩ = some (.int .u32 (x.y : Nat)) ∧ W'.cell? ⟨w5.heap.size, 3, none⟩ = some (.string x.d))) [] (by kernel_rfl) (HQ.out _ HD7.out) (fun hHeld0 => ?_)
                have Hb := HD7
                clear HD7
                generalize (World.drew w7) = Wc at *
                refine takeF (i := 1) (v := ?_) rfl (by kernel_rfl) (fun _ _ _ h => h) (Or.inl ⟨by kernel_rfl, ?_⟩) (by assumption) ?_; rotate_left; (focus (intro w _; go_simp; (try with_reducible rfl); done)); (try simp only [Act.put, List.getElem_toArray, List.getElem_cons_succ, List.getElem_cons_zero, List.setIfInBounds_toArray, List.set_cons_zero, List.set_cons_succ])
                refine takeH (i := 3) (v := ?_) rfl (by kernel_rfl) (fun _ _ _ h => h) (Or.inl ⟨by kernel_rfl, ?_⟩) (by assumption) ?_; rotate_left; (focus (intro w hSw; (try dsimp only at hSw); go_simp; (try with_reducible rfl); done)); (try simp only [Act.put, List.getElem_toArray, List.getElem_cons_succ, List.getElem_cons_zero, List.setIfInBounds_toArray, List.set_cons_zero, List.set_cons_succ])
                refine readyS (rs := [0, 4]) (by kernel_rfl) (by simp) ?_
                refine ReadyS.consH rfl (fun K hK => ?_) (ReadyS.consH rfl (fun K hK => ?_) ReadyS.nil)
                (try simp only [List.getElem_toArray, List.getElem_cons_succ, List.getElem_cons_zero])
                · go_simp
                  have H0' := Lib.hid (own_lower (own_zero Wc 56 4) Hb.out.size)
                  have Hb' := Lib.hid (below_alloc Hb.out (.cells #[] 56))
                  clear hHeld0
                  refine hK.out _ _ (HQ.out _ Hb'.out) (fun hHeld0 => ?_)
                  clear hK K
                  clear Hb
                  have H0 := H0'; have Hb := Hb'; clear H0' Hb'
                  generalize (World.alloc Wc _) = Wd at *
                  obtain ⟨Wc, rfl⟩ : ∃ W, W = Wd := ⟨_, rfl⟩
                  (try simp only [Act.put, List.getElem_toArray, List.getElem_cons_succ, List.getElem_cons_zero, List.setIfInBounds_toArray, List.set_cons_zero, List.set_cons_succ])
                  refine readyS (rs := [2, 4]) (by kernel_rfl) (by simp) ?_
                  refine ReadyS.consH rfl (fun K hK => ?_) (ReadyS.consH rfl (fun K hK => ?_) ReadyS.nil)
                  (try simp only [List.getElem_toArray, List.getElem_cons_succ, List.getElem_cons_zero])
                  · rw [if_pos (by kernel_rfl)]
                    refine wp_app _ _ 49 (by rfl) w7.heap.size 56 (.agg #[.int .i64 0, .int .u32 0, .int .u32 0, .string ⟨#[]⟩]) 4 32 Try.underlying49 info_pt4 rfl (by decide) (by decide) _ 0 [] (by rfl) Ao O.length co (O.flatMap PtS.cells) (by rfl) H0.out (by rw [flat_len PtS.cells_len]) (HRt.out _ Hb.out) (flat_one PtS.cells_one _) (by omega) Hb.out.size ?_
                    intro A4 c4 Wd hown hgrow hat
                    rw [Nat.zero_add] at hown hat ⊢
                    rw [List.nil_append] at hown
                    have Hb' := Lib.hid (below_grown Hb.out hgrow (fun k e => own_base H0.out k e))
                    have H4 := Lib.hid hown
                    clear hown hgrow hat
                    clear hHeld0
                    refine hK.out _ _ (HQ.out _ Hb'.out) (fun hHeld0 => ?_)
                    clear hK K
                    clear Hb H0
                    have Hb := Hb'; clear Hb'
                    obtain ⟨Wc, rfl⟩ : ∃ W, W = Wd := ⟨_, rfl⟩
                    (try simp only [Act.put, List.getElem_toArray, List.getElem_cons_succ, List.getElem_cons_zero, List.setIfInBounds_toArray, List.set_cons_zero, List.set_cons_succ])
                    refine readyS (rs := [4]) (by kernel_rfl) (by simp) ?_
                    refine ReadyS.consH rfl (fun K hK => ?_) ReadyS.nil
                    (try simp only [List.getElem_toArray, List.getElem_cons_succ, List.getElem_cons_zero])
                    go_simp
                    have H9' := Lib.hid (rd_new Wc #[.int .i64 x.id, .int .u32 (x.x : Nat), .int .u32 (x.y : Nat), .string x.d] 56 ([x].flatMap PtS.cells) rfl)
                    have Hb' := Lib.hid (below_alloc Hb.out (.cells #[.int .i64 x.id, .int .u32 (x.x : Nat), .int .u32 (x.y : Nat), .string x.d] 56))
                    have H4' := Lib.hid (own_below H4.out (below_alloc1 Wc (.cells #[.int .i64 x.id, .int .u32 (x.x : Nat), .int .u32 (x.y : Nat), .string x.d] 56)))
                    clear hHeld0
                    refine hK.out _ _ (HQ.out _ Hb'.out) (fun hHeld0 => ?_)
                    clear hK K
                    clear Hb H4
                    have H9 := H9'; have Hb := Hb'; clear H9' Hb'
                    have H4 := H4'; clear H4'
                    generalize (World.alloc Wc _) = Wd at *
                    obtain ⟨Wc, rfl⟩ : ∃ W, W = Wd := ⟨_, rfl⟩
                    (try simp only [Act.put, List.getElem_toArray, List.getElem_cons_succ, List.getElem_cons_zero, List.setIfInBounds_toArray, List.set_cons_zero, List.set_cons_succ])
                    refine readyS (rs := [5]) (by kernel_rfl) (by simp) ?_
                    refine ReadyS.consH rfl (fun K hK => ?_) ReadyS.nil
                    (try simp only [List.getElem_toArray, List.getElem_cons_succ, List.getElem_cons_zero])
                    rw [if_pos (by kernel_rfl)]
                    refine wp_app _ _ 49 (by rfl) w7.heap.size 56 (.agg #[.int .i64 0, .int .u32 0, .int .u32 0, .string ⟨#[]⟩]) 4 32 Try.underlying49 info_pt4 rfl (by decide) (by decide) (.slice A4 O.length c4) O.length (O.flatMap PtS.cells) (by rfl) _ 1 1 ([x].flatMap PtS.cells) (by rfl) H4.out rfl H9.out (flat_one PtS.cells_one _) (by omega) Hb.out.size ?_
                    intro A10 c10 Wd hown hgrow hat
                    have Hb' := Lib.hid (below_grown Hb.out hgrow (fun k e => own_base H4.out k e))
                    rw [← List.flatMap_append] at hown
                    have H10 := Lib.hid hown
                    clear hown hgrow hat
                    clear hHeld0
                    refine hK.out _ _ (HQ.out _ Hb'.out) (fun hHeld0 => ?_)
                    clear hK K
                    clear Hb H4 H9
                    have Hb := Hb'; clear Hb'
                    obtain ⟨Wc, rfl⟩ : ∃ W, W = Wd := ⟨_, rfl⟩
                    (try simp only [Act.put, List.getElem_toArray, List.getElem_cons_succ, List.getElem_cons_zero, List.setIfInBounds_toArray, List.set_cons_zero, List.set_cons_succ])
                    clear hHeld0
                    refine readyS (rs := [6]) (by kernel_rfl) (by simp) ?_
                    refine ReadyS.consH rfl (fun K hK => ?_) ReadyS.nil
                    (try simp only [List.getElem_toArray, List.getElem_cons_succ, List.getElem_cons_zero])
                    go_simp
                    have HSr := Lib.hid (sort23_ok (.slice A10 (O.length + 1) c10) (O ++ [x]) Wc (by
                      have h0 : Wc.ownsRow w7.heap.size 56 4 (.slice A10 (O.length + 1) c10) (O.length + 1) ((O ++ [x]).flatMap PtS.cells) := H10.out
                      exact srd_own PtS.cells_len (by decide) h0) (by rw [List.length_append, List.length_singleton]; omega))
                    (with_reducible refine HSr.out.mono ?_); rintro e W11 ⟨v11, rfl, ho11, hb11⟩
                    have Hb11 := Lib.hid (below_up Hb.out hb11)
                    rw [show (O ++ [x]).length = O.length + 1 by simp] at ho11
                    have HO11 : Hid (W11.ownsRow w.heap.size 56 4 v11 (byId (O ++ [x])).length ((byId (O ++ [x])).flatMap PtS.cells)) := Lib.hid (by rw [byId_length, List.length_append, List.length_singleton]; exact own_lower ho11 (Nat.le_trans HM7.out.2.2.2.size Hb.out.size))
                    have HB11 : Hid (∀ k, v11.ownBlock = some k → w7.heap.size ≤ k) := Lib.hid (fun k h => Nat.le_trans Hb.out.size (own_base ho11 k h))
                    obtain ⟨A11, c11, rfl, _, _, _, _⟩ := own_rd ho11
                    clear ho11 hb11 HSr
                    refine hK.out _ _ (HQ.out _ Hb11.out) (fun hHeld0 => ?_)
                    clear hK K
                    (try simp only [Act.put, List.getElem_toArray, List.getElem_cons_succ, List.getElem_cons_zero, List.setIfInBounds_toArray, List.set_cons_zero, List.set_cons_succ])
                    refine takeF (i := 7) (v := ?_) rfl (by kernel_rfl) (fun _ _ _ h => h) (Or.inl ⟨by kernel_rfl, ?_⟩) (by assumption) ?_; rotate_left; (focus (intro w _; go_simp; (try with_reducible rfl); done)); (try simp only [Act.put, List.getElem_toArray, List.getElem_cons_succ, List.getElem_cons_zero, List.setIfInBounds_toArray, List.set_cons_zero, List.set_cons_succ])
                    clear hHeld0
                    refine doneS (by kernel_rfl) ?_ _
                    go_wp2
                    go_meet
                    case rel => exact ⟨vm', insL x O, _, rfl, rfl, HFinI.out W11 _ (by rw [HL.out]; exact HO11.out) (fun k h => .inr (HB11.out k h)) Hb11.out⟩
                  · go_simp
                    have H9' := Lib.hid (rd_new Wc #[.int .i64 x.id, .int .u32 (x.x : Nat), .int .u32 (x.y : Nat), .string x.d] 56 ([x].flatMap PtS.cells) rfl)
                    have Hb' := Lib.hid (below_alloc Hb.out (.cells #[.int .i64 x.id, .int .u32 (x.x : Nat), .int .u32 (x.y : Nat), .string x.d] 56))
                    have Hne := Lib.hid (own_lt H0.out _ rfl)
                    have H0' := Lib.hid (own_below H0.out (below_alloc1 Wc (.cells #[.int .i64 x.id, .int .u32 (x.x : Nat), .int .u32 (x.y : Nat), .string x.d] 56)))
                    clear hHeld0
                    refine hK.out _ _ (HQ.out _ Hb'.out) (fun hHeld0 => ?_)
                    clear hK K
                    clear Hb H0
                    have H9 := H9'; have Hb := Hb'; clear H9' Hb'
                    have H0 := H0'; clear H0'
                    generalize (World.alloc Wc _) = Wd at *
                    obtain ⟨Wc, rfl⟩ : ∃ W, W = Wd := ⟨_, rfl⟩
                    (try simp only [Act.put, List.getElem_toArray, List.getElem_cons_succ, List.getElem_cons_zero, List.setIfInBounds_toArray, List.set_cons_zero, List.set_cons_succ])
                    refine readyS (rs := [2]) (by kernel_rfl) (by simp) ?_
                    refine ReadyS.consH rfl (fun K hK => ?_) ReadyS.nil
                    (try simp only [List.getElem_toArray, List.getElem_cons_succ, List.getElem_cons_zero])
                    rw [if_pos (by kernel_rfl)]
                    refine wp_app _ _ 49 (by rfl) w7.heap.size 56 (.agg #[.int .i64 0, .int .u32 0, .int .u32 0, .string ⟨#[]⟩]) 4 32 Try.underlying49 info_pt4 rfl (by decide) (by decide) _ 0 [] (by rfl) Ao O.length co (O.flatMap PtS.cells) (by rfl) H0.out (by rw [flat_len PtS.cells_len]) (HRt.out _ Hb.out) (flat_one PtS.cells_one _) (by omega) Hb.out.size ?_
                    intro A4 c4 Wd hown hgrow hat
                    rw [Nat.zero_add] at hown hat ⊢
                    rw [List.nil_append] at hown
                    have Hb' := Lib.hid (below_grown Hb.out hgrow (fun k e => own_base H0.out k e))
                    have H4 := Lib.hid hown
                    have H9' := Lib.hid (rd_grown H9.out hgrow (fun ad e hk => by cases e; have h1 := Option.some.inj hk; have h2 := Hne.out; (try dsimp only at h1 h2); omega))
                    clear hown hgrow hat
                    clear hHeld0
                    refine hK.out _ _ (HQ.out _ Hb'.out) (fun hHeld0 => ?_)
                    clear hK K
                    clear Hb H0 H9 Hne
                    have Hb := Hb'; clear Hb'
                    have H9 := H9'; clear H9'
                    obtain ⟨Wc, rfl⟩ : ∃ W, W = Wd := ⟨_, rfl⟩
                    (try simp only [Act.put, List.getElem_toArray, List.getElem_cons_succ, List.getElem_cons_zero, List.setIfInBounds_toArray, List.set_cons_zero, List.set_cons_succ])
                    refine readyS (rs := [5]) (by kernel_rfl) (by simp) ?_
                    refine ReadyS.consH rfl (fun K hK => ?_) ReadyS.nil
                    (try simp only [List.getElem_toArray, List.getElem_cons_succ, List.getElem_cons_zero])
                    rw [if_pos (by kernel_rfl)]
                    refine wp_app _ _ 49 (by rfl) w7.heap.size 56 (.agg #[.int .i64 0, .int .u32 0, .int .u32 0, .string ⟨#[]⟩]) 4 32 Try.underlying49 info_pt4 rfl (by decide) (by decide) (.slice A4 O.length c4) O.length (O.flatMap PtS.cells) (by rfl) _ 1 1 ([x].flatMap PtS.cells) (by rfl) H4.out rfl H9.out (flat_one PtS.cells_one _) (by omega) Hb.out.size ?_
                    intro A10 c10 Wd hown hgrow hat
                    have Hb' := Lib.hid (below_grown Hb.out hgrow (fun k e => own_base H4.out k e))
                    rw [← List.flatMap_append] at hown
                    have H10 := Lib.hid hown
                    clear hown hgrow hat
                    clear hHeld0
                    refine hK.out _ _ (HQ.out _ Hb'.out) (fun hHeld0 => ?_)
                    clear hK K
                    clear Hb H4 H9
                    have Hb := Hb'; clear Hb'
                    obtain ⟨Wc, rfl⟩ : ∃ W, W = Wd := ⟨_, rfl⟩
                    (try simp only [Act.put, List.getElem_toArray, List.getElem_cons_succ, List.getElem_cons_zero, List.setIfInBounds_toArray, List.set_cons_zero, List.set_cons_succ])
                    clear hHeld0
                    refine readyS (rs := [6]) (by kernel_rfl) (by simp) ?_
                    refine ReadyS.consH rfl (fun K hK => ?_) ReadyS.nil
                    (try simp only [List.getElem_toArray, List.getElem_cons_succ, List.getElem_cons_zero])
                    go_simp
                    have HSr := Lib.hid (sort23_ok (.slice A10 (O.length + 1) c10) (O ++ [x]) Wc (by
                      have h0 : Wc.ownsRow w7.heap.size 56 4 (.slice A10 (O.length + 1) c10) (O.length + 1) ((O ++ [x]).flatMap PtS.cells) := H10.out
                      exact srd_own PtS.cells_len (by decide) h0) (by rw [List.length_append, List.length_singleton]; omega))
                    (with_reducible refine HSr.out.mono ?_); rintro e W11 ⟨v11, rfl, ho11, hb11⟩
                    have Hb11 := Lib.hid (below_up Hb.out hb11)
                    rw [show (O ++ [x]).length = O.length + 1 by simp] at ho11
                    have HO11 : Hid (W11.ownsRow w.heap.size 56 4 v11 (byId (O ++ [x])).length ((byId (O ++ [x])).flatMap PtS.cells)) := Lib.hid (by rw [byId_length, List.length_append, List.length_singleton]; exact own_lower ho11 (Nat.le_trans HM7.out.2.2.2.size Hb.out.size))
                    have HB11 : Hid (∀ k, v11.ownBlock = some k → w7.heap.size ≤ k) := Lib.hid (fun k h => Nat.le_trans Hb.out.size (own_base ho11 k h))
                    obtain ⟨A11, c11, rfl, _, _, _, _⟩ := own_rd ho11
                    clear ho11 hb11 HSr
                    refine hK.out _ _ (HQ.out _ Hb11.out) (fun hHeld0 => ?_)
                    clear hK K
                    (try simp only [Act.put, List.getElem_toArray, List.getElem_cons_succ, List.getElem_cons_zero, List.setIfInBounds_toArray, List.set_cons_zero, List.set_cons_succ])
                    refine takeF (i := 7) (v := ?_) rfl (by kernel_rfl) (fun _ _ _ h => h) (Or.inl ⟨by kernel_rfl, ?_⟩) (by assumption) ?_; rotate_left; (focus (intro w _; go_simp; (try with_reducible rfl); done)); (try simp only [Act.put, List.getElem_toArray, List.getElem_cons_succ, List.getElem_cons_zero, List.setIfInBounds_toArray, List.set_cons_zero, List.set_cons_succ])
                    clear hHeld0
                    refine doneS (by kernel_rfl) ?_ _
                    go_wp2
                    go_meet
                    case rel => exact ⟨vm', insL x O, _, rfl, rfl, HFinI.out W11 _ (by rw [HL.out]; exact HO11.out) (fun k h => .inr (HB11.out k h)) Hb11.out⟩
                · go_simp
                  have H9' := Lib.hid (rd_new Wc #[.int .i64 x.id, .int .u32 (x.x : Nat), .int .u32 (x.y : Nat), .string x.d] 56 ([x].flatMap PtS.cells) rfl)
                  have Hb' := Lib.hid (below_alloc Hb.out (.cells #[.int .i64 x.id, .int .u32 (x.x : Nat), .int .u32 (x.y : Nat), .string x.d] 56))
                  clear hHeld0
                  refine hK.out _ _ (HQ.out _ Hb'.out) (fun hHeld0 => ?_)
                  clear hK K
                  clear Hb
                  have H9 := H9'; have Hb := Hb'; clear H9' Hb'
                  generalize (World.alloc Wc _) = Wd at *
                  obtain ⟨Wc, rfl⟩ : ∃ W, W = Wd := ⟨_, rfl⟩
                  (try simp only [Act.put, List.getElem_toArray, List.getElem_cons_succ, List.getElem_cons_zero, List.setIfInBounds_toArray, List.set_cons_zero, List.set_cons_succ])
                  refine readyS (rs := [0]) (by kernel_rfl) (by simp) ?_
                  refine ReadyS.consH rfl (fun K hK => ?_) ReadyS.nil
                  (try simp only [List.getElem_toArray, List.getElem_cons_succ, List.getElem_cons_zero])
                  go_simp
                  have H0' := Lib.hid (own_lower (own_zero Wc 56 4) Hb.out.size)
                  have Hb' := Lib.hid (below_alloc Hb.out (.cells #[] 56))
                  have Hne := Lib.hid (H9.out.lt (by simp [PtS.cells]))
                  have H9' := Lib.hid (H9.out.below (below_alloc1 Wc (.cells #[] 56)))
                  clear hHeld0
                  refine hK.out _ _ (HQ.out _ Hb'.out) (fun hHeld0 => ?_)
                  clear hK K
                  clear Hb H9
                  have H0 := H0'; have Hb := Hb'; clear H0' Hb'
                  have H9 := H9'; clear H9'
                  generalize (World.alloc Wc _) = Wd at *
                  obtain ⟨Wc, rfl⟩ : ∃ W, W = Wd := ⟨_, rfl⟩
                  (try simp only [Act.put, List.getElem_toArray, List.getElem_cons_succ, List.getElem_cons_zero, List.setIfInBounds_toArray, List.set_cons_zero, List.set_cons_succ])
                  refine readyS (rs := [2]) (by kernel_rfl) (by simp) ?_
                  refine ReadyS.consH rfl (fun K hK => ?_) ReadyS.nil
                  (try simp only [List.getElem_toArray, List.getElem_cons_succ, List.getElem_cons_zero])
                  rw [if_pos (by kernel_rfl)]
                  refine wp_app _ _ 49 (by rfl) w7.heap.size 56 (.agg #[.int .i64 0, .int .u32 0, .int .u32 0, .string ⟨#[]⟩]) 4 32 Try.underlying49 info_pt4 rfl (by decide) (by decide) _ 0 [] (by rfl) Ao O.length co (O.flatMap PtS.cells) (by rfl) H0.out (by rw [flat_len PtS.cells_len]) (HRt.out _ Hb.out) (flat_one PtS.cells_one _) (by omega) Hb.out.size ?_
                  intro A4 c4 Wd hown hgrow hat
                  rw [Nat.zero_add] at hown hat ⊢
                  rw [List.nil_append] at hown
                  have Hb' := Lib.hid (below_grown Hb.out hgrow (fun k e => own_base H0.out k e))
                  have H4 := Lib.hid hown
                  have H9' := Lib.hid (rd_grown H9.out hgrow (fun ad e hk => by cases e; have h1 := Option.some.inj hk; have h2 := Hne.out; (try dsimp only at h1 h2); omega))
                  clear hown hgrow hat
                  clear hHeld0
                  refine hK.out _ _ (HQ.out _ Hb'.out) (fun hHeld0 => ?_)
                  clear hK K
                  clear Hb H0 H9 Hne
                  have Hb := Hb'; clear Hb'
                  have H9 := H9'; clear H9'
                  obtain ⟨Wc, rfl⟩ : ∃ W, W = Wd := ⟨_, rfl⟩
                  (try simp only [Act.put, List.getElem_toArray, List.getElem_cons_succ, List.getElem_cons_zero, List.setIfInBounds_toArray, List.set_cons_zero, List.set_cons_succ])
                  refine readyS (rs := [5]) (by kernel_rfl) (by simp) ?_
                  refine ReadyS.consH rfl (fun K hK => ?_) ReadyS.nil
                  (try simp only [List.getElem_toArray, List.getElem_cons_succ, List.getElem_cons_zero])
                  rw [if_pos (by kernel_rfl)]
                  refine wp_app _ _ 49 (by rfl) w7.heap.size 56 (.agg #[.int .i64 0, .int .u32 0, .int .u32 0, .string ⟨#[]⟩]) 4 32 Try.underlying49 info_pt4 rfl (by decide) (by decide) (.slice A4 O.length c4) O.length (O.flatMap PtS.cells) (by rfl) _ 1 1 ([x].flatMap PtS.cells) (by rfl) H4.out rfl H9.out (flat_one PtS.cells_one _) (by omega) Hb.out.size ?_
                  intro A10 c10 Wd hown hgrow hat
                  have Hb' := Lib.hid (below_grown Hb.out hgrow (fun k e => own_base H4.out k e))
                  rw [← List.flatMap_append] at hown
                  have H10 := Lib.hid hown
                  clear hown hgrow hat
                  clear hHeld0
                  refine hK.out _ _ (HQ.out _ Hb'.out) (fun hHeld0 => ?_)
                  clear hK K
                  clear Hb H4 H9
                  have Hb := Hb'; clear Hb'
                  obtain ⟨Wc, rfl⟩ : ∃ W, W = Wd := ⟨_, rfl⟩
                  (try simp only [Act.put, List.getElem_toArray, List.getElem_cons_succ, List.getElem_cons_zero, List.setIfInBounds_toArray, List.set_cons_zero, List.set_cons_succ])
                  clear hHeld0
                  refine readyS (rs := [6]) (by kernel_rfl) (by simp) ?_
                  refine ReadyS.consH rfl (fun K hK => ?_) ReadyS.nil
                  (try simp only [List.getElem_toArray, List.getElem_cons_succ, List.getElem_cons_zero])
                  go_simp
                  have HSr := Lib.hid (sort23_ok (.slice A10 (O.length + 1) c10) (O ++ [x]) Wc (by
                    have h0 : Wc.ownsRow w7.heap.size 56 4 (.slice A10 (O.length + 1) c10) (O.length + 1) ((O ++ [x]).flatMap PtS.cells) := H10.out
                    exact srd_own PtS.cells_len (by decide) h0) (by rw [List.length_append, List.length_singleton]; omega))
                  (with_reducible refine HSr.out.mono ?_); rintro e W11 ⟨v11, rfl, ho11, hb11⟩
                  have Hb11 := Lib.hid (below_up Hb.out hb11)
                  rw [show (O ++ [x]).length = O.length + 1 by simp] at ho11
                  have HO11 : Hid (W11.ownsRow w.heap.size 56 4 v11 (byId (O ++ [x])).length ((byId (O ++ [x])).flatMap PtS.cells)) := Lib.hid (by rw [byId_length, List.length_append, List.length_singleton]; exact own_lower ho11 (Nat.le_trans HM7.out.2.2.2.size Hb.out.size))
                  have HB11 : Hid (∀ k, v11.ownBlock = some k → w7.heap.size ≤ k) := Lib.hid (fun k h => Nat.le_trans Hb.out.size (own_base ho11 k h))
                  obtain ⟨A11, c11, rfl, _, _, _, _⟩ := own_rd ho11
                  clear ho11 hb11 HSr
                  refine hK.out _ _ (HQ.out _ Hb11.out) (fun hHeld0 => ?_)
                  clear hK K
                  (try simp only [Act.put, List.getElem_toArray, List.getElem_cons_succ, List.getElem_cons_zero, List.setIfInBounds_toArray, List.set_cons_zero, List.set_cons_succ])
                  refine takeF (i := 7) (v := ?_) rfl (by kernel_rfl) (fun _ _ _ h => h) (Or.inl ⟨by kernel_rfl, ?_⟩) (by assumption) ?_; rotate_left; (focus (intro w _; go_simp; (try with_reducible rfl); done)); (try simp only [Act.put, List.getElem_toArray, List.getElem_cons_succ, List.getElem_cons_zero, List.setIfInBounds_toArray, List.set_cons_zero, List.set_cons_succ])
                  clear hHeld0
                  refine doneS (by kernel_rfl) ?_ _
                  go_wp2
                  go_meet
                  case rel => exact ⟨vm', insL x O, _, rfl, rfl, HFinI.out W11 _ (by rw [HL.out]; exact HO11.out) (fun k h => .inr (HB11.out k h)) Hb11.out⟩
      · -- Delete
        have HDl := Lib.hid (delete_ok HRa.out.m (by omega) x.id)
        rw [HZ.out] at HDl
        go_wp2_with fail
        (with_reducible refine HDl.out.mono ?_); rintro e w7 ⟨vm', rfl, hm7, hf7, hv7⟩
        obtain ⟨ho7, hrc7, hb7⟩ := MR.turn HRa.out HGe.out hm7 hf7 (fun k h => h)
        have HPq7 := Lib.hid (blk_fr HPq.out hf7 (fun e => by
          rcases e with e | e
          · exact HNg.out e.symm
          · exact HNem.out _ e rfl))
        have HM7 := Lib.hid (And.intro hm7 (And.intro ho7 (And.intro hrc7 hb7)))
        have HA7 : Hid (∀ k, vm'.ownBlock = some k → (Value.slice Ao O.length co).ownBlock ≠ some k) := Lib.hid (fun k h1 h2 => HRa.out.ap k (by rw [← hv7]; exact h1) h2)
        clear hm7 ho7 hrc7 hb7 hf7 hv7 p0 p1 p2 p3 HDl
        unfold plE
        by_cases hz0 : z < 0
        · have dz : decide (z < 0) = true := decide_eq_true hz0
          rw [if_pos hz0]
          have hm := HM7.out.1
          rw [if_pos hz0] at hm
          have HN : Hid (MR w w7 g r vm' (.slice Ao O.length co) O) := Lib.hid ⟨hm, HM7.out.2.1, HA7.out, HM7.out.2.2.1, HRa.out.fi, HM7.out.2.2.2⟩
          clear hm hz0
          go_wp2
          go_meet
          case rel => exact ⟨vm', O, _, rfl, rfl, by omega, HN.out, HPq7.out⟩
        · have dz : decide (z < 0) = false := decide_eq_false hz0
          rw [if_neg hz0]
          have hm := HM7.out.1
          rw [if_neg hz0] at hm
          have hzl := at_lt O x.id (by rw [HZ.out]; omega)
          rw [HZ.out] at hzl
          obtain ⟨n, rfl⟩ := Int.eq_ofNat_of_zero_le (show 0 ≤ z by omega)
          rw [Int.toNat_natCast] at hm hzl
          have HMn := Lib.hid hm
          have HLn : Hid ((O.eraseIdx n).length = O.length - 1) := Lib.hid (List.length_eraseIdx_of_lt hzl)
          have HFn : Hid (∀ p ∈ O.eraseIdx n, p.fine) := Lib.hid (fun p hp => HRa.out.fi p (List.mem_of_mem_eraseIdx hp))
          clear hm hz0
          obtain ⟨J, hJ⟩ : ∃ J, n + 1 = J := ⟨_, rfl⟩
          have kJ : IntKind.i64.wrap ((n : Int) + 1) = (J : Int) := by rw [IntWalk.i64_in _ (by omega)]; omega
          have kJ2 : (n : Int) + 1 = (J : Int) := by omega
          have kJ0 : IntKind.i64.wrap (J : Int) = (J : Int) := by rw [IntWalk.i64_in _ (by omega)]
          have b1 : n ≤ co := by omega
          have b2 : J ≤ co := by omega
          have b3 : J ≤ O.length := by omega
          have b1i : (n : Int) ≤ co := by omega
          have b2i : (J : Int) ≤ O.length := by omega
          have b4 : n ≤ O.length := by omega
          have HFl2 := Lib.hid (flat_erase O n hzl)
          rw [hJ] at HFl2
          have HJ := Lib.hid hJ
          clear hJ
          go_upto_region 32 with (fail)
          have HD7 := Lib.hid (below_drew1 (w := w7))
          have HRt : Hid (∀ W', Below w7.heap.size w7 W' → Rd W' Ao ((O.take n).flatMap PtS.cells) ∧ Rd W' (if co = J then Ao else Option.map (fun x => x.add (J * 4)) Ao) ((O.drop J).flatMap PtS.cells)) := Lib.hid (fun W' hb => by
            have h0 := srd_own PtS.cells_len (by decide) (own_below HM7.out.2.1 hb)
            exact ⟨(prow_parts h0 b4).1, (prow_parts h0 b3).2⟩)
          refine beginS (S := fun W' => True) [] (by kernel_rfl) trivial (fun hHeld0 => ?_)
          have Hb := HD7
          clear HD7
          generalize (World.drew w7) = Wc at *
          refine takeF (i := 1) (v := ?_) rfl (by kernel_rfl) (fun _ _ _ h => h) (Or.inl ⟨by kernel_rfl, ?_⟩) (by assumption) ?_; rotate_left; (focus (intro w _; go_simp; (try with_reducible rfl); done)); (try simp only [Act.put, List.getElem_toArray, List.getElem_cons_succ, List.getElem_cons_zero, List.setIfInBounds_toArray, List.set_cons_zero, List.set_cons_succ])
          refine takeF (i := 2) (v := ?_) rfl (by kernel_rfl) (fun _ _ _ h => h) (Or.inl ⟨by kernel_rfl, ?_⟩) (by assumption) ?_; rotate_left; (focus (intro w _; go_simp; (try with_reducible rfl); done)); (try simp only [Act.put, List.getElem_toArray, List.getElem_cons_succ, List.getElem_cons_zero, List.setIfInBounds_toArray, List.set_cons_zero, List.set_cons_succ])
          refine takeF (i := 3) (v := ?_) rfl (by kernel_rfl) (fun _ _ _ h => h) (Or.inl ⟨by kernel_rfl, ?_⟩) (by assumption) ?_; rotate_left; (focus (intro w _; go_simp; (try with_reducible rfl); done)); (try simp only [Act.put, List.getElem_toArray, List.getElem_cons_succ, List.getElem_cons_zero, List.setIfInBounds_toArray, List.set_cons_zero, List.set_cons_succ])
          refine takeF (i := 5) (v := ?_) rfl (by kernel_rfl) (fun _ _ _ h => h) (Or.inl ⟨by kernel_rfl, ?_⟩) (by assumption) ?_; rotate_left; (focus (intro w _; go_simp; (try with_reducible rfl); done)); (try simp only [Act.put, List.getElem_toArray, List.getElem_cons_succ, List.getElem_cons_zero, List.setIfInBounds_toArray, List.set_cons_zero, List.set_cons_succ])
          refine takeF (i := 6) (v := ?_) rfl (by kernel_rfl) (fun _ _ _ h => h) (Or.inl ⟨by kernel_rfl, ?_⟩) (by assumption) ?_; rotate_left; (focus (intro w _; go_simp; (try with_reducible rfl); done)); (try simp only [Act.put, List.getElem_toArray, List.getElem_cons_succ, List.getElem_cons_zero, List.setIfInBounds_toArray, List.set_cons_zero, List.set_cons_succ])
          refine takeF (i := 7) (v := ?_) rfl (by kernel_rfl) (fun _ _ _ h => h) (Or.inl ⟨by kernel_rfl, ?_⟩) (by assumption) ?_; rotate_left; (focus (intro w _; go_simp; (try with_reducible rfl); done)); (try simp only [Act.put, List.getElem_toArray, List.getElem_cons_succ, List.getElem_cons_zero, List.setIfInBounds_toArray, List.set_cons_zero, List.set_cons_succ])
          refine takeF (i := 8) (v := ?_) rfl (by kernel_rfl) (fun _ _ _ h => h) (Or.inl ⟨by kernel_rfl, ?_⟩) (by assumption) ?_; rotate_left; (focus (intro w _; go_simp; (try with_reducible rfl); done)); (try simp only [Act.put, List.getElem_toArray, List.getElem_cons_succ, List.getElem_cons_zero, List.setIfInBounds_toArray, List.set_cons_zero, List.set_cons_succ])
          obtain ⟨A2, hA2⟩ : ∃ A2, (if co = J then Ao else Option.map (fun x => x.add (J * 4)) Ao) = A2 := ⟨_, rfl⟩
          rw [hA2] at HRt ⊢
          clear hA2 hHeld0
          refine readyS (rs := [0]) (by kernel_rfl) (by simp) ?_
          refine ReadyS.consH rfl (fun K hK => ?_) ReadyS.nil
          (try simp only [List.getElem_toArray, List.getElem_cons_succ, List.getElem_cons_zero])
          go_simp
          have H0 := Lib.hid (own_lower (own_zero Wc 56 4) Hb.out.size)
          have Hb1 := Lib.hid (below_alloc Hb.out (.cells #[] 56))
          refine hK.out _ _ trivial (fun hHeld0 => ?_)
          clear hK K hHeld0 Hb
          generalize (World.alloc Wc _) = Wd at *
          (try simp only [Act.put, List.getElem_toArray, List.getElem_cons_succ, List.getElem_cons_zero, List.setIfInBounds_toArray, List.set_cons_zero, List.set_cons_succ])
          refine readyS (rs := [4]) (by kernel_rfl) (by simp) ?_
          refine ReadyS.consH rfl (fun K hK => ?_) ReadyS.nil
          (try simp only [List.getElem_toArray, List.getElem_cons_succ, List.getElem_cons_zero])
          rw [if_pos (by kernel_rfl)]
          refine wp_app _ _ 49 (by rfl) w7.heap.size 56 (.agg #[.int .i64 0, .int .u32 0, .int .u32 0, .string ⟨#[]⟩]) 4 32 Try.underlying49 info_pt4 rfl (by decide) (by decide) _ 0 [] (by rfl) Ao n co ((O.take n).flatMap PtS.cells) (by rfl) H0.out (by rw [flat_len PtS.cells_len, List.length_take, Nat.min_eq_left b4]) (HRt.out _ Hb1.out).1 (flat_one PtS.cells_one _) (by omega) Hb1.out.size ?_
          intro A4 c4 We hown hgrow hat
          rw [Nat.zero_add] at hown hat ⊢
          rw [List.nil_append] at hown
          have Hb2 := Lib.hid (below_grown Hb1.out hgrow (fun k e => own_base H0.out k e))
          have H4 := Lib.hid hown
          clear hown hgrow hat
          refine hK.out _ _ trivial (fun hHeld0 => ?_)
          clear hK K hHeld0 Hb1 H0
          (try simp only [Act.put, List.getElem_toArray, List.getElem_cons_succ, List.getElem_cons_zero, List.setIfInBounds_toArray, List.set_cons_zero, List.set_cons_succ])
          refine readyS (rs := [9]) (by kernel_rfl) (by simp) ?_
          refine ReadyS.consH rfl (fun K hK => ?_) ReadyS.nil
          (try simp only [List.getElem_toArray, List.getElem_cons_succ, List.getElem_cons_zero])
          rw [if_pos (by kernel_rfl)]
          refine wp_app _ _ 49 (by rfl) w7.heap.size 56 (.agg #[.int .i64 0, .int .u32 0, .int .u32 0, .string ⟨#[]⟩]) 4 32 Try.underlying49 info_pt4 rfl (by decide) (by decide) (.slice A4 n c4) n ((O.take n).flatMap PtS.cells) (by rfl) A2 (O.length - J) (co - J) ((O.drop J).flatMap PtS.cells) (by rfl) H4.out (by rw [flat_len PtS.cells_len, List.length_drop]) (HRt.out _ Hb2.out).2 (flat_one PtS.cells_one _) (by omega) Hb2.out.size ?_
          intro A9 c9 Wf hown hgrow hat
          have Hb3 := Lib.hid (below_grown Hb2.out hgrow (fun k e => own_base H4.out k e))
          rw [HFl2.out] at hown
          have H9 := Lib.hid hown
          have hln : n + (O.length - J) = (O.eraseIdx n).length := by rw [HLn.out, ← HJ.out]; omega
          rw [hln] at H9 ⊢
          clear hown hgrow hat
          refine hK.out _ _ trivial (fun hHeld0 => ?_)
          clear hK K Hb2 H4
          (try simp only [Act.put, List.getElem_toArray, List.getElem_cons_succ, List.getElem_cons_zero, List.setIfInBounds_toArray, List.set_cons_zero, List.set_cons_succ])
          refine takeF (i := 10) (v := ?_) rfl (by kernel_rfl) (fun _ _ _ h => h) (Or.inl ⟨by kernel_rfl, ?_⟩) (by assumption) ?_; rotate_left; (focus (intro w _; go_simp; (try with_reducible rfl); done)); (try simp only [Act.put, List.getElem_toArray, List.getElem_cons_succ, List.getElem_cons_zero, List.setIfInBounds_toArray, List.set_cons_zero, List.set_cons_succ])
          clear hHeld0
          refine doneS (by kernel_rfl) ?_ _
          have HN : Hid (MR w Wf g r vm' (.slice A9 (O.eraseIdx n).length c9) (O.eraseIdx n)) := Lib.hid ⟨HMn.out.below Hb3.out, own_lower H9.out HM7.out.2.2.2.size, fun k h1 h2 => by
            have a1 := own_lt HM7.out.1.row k h1
            have a2 := own_base H9.out k h2
            omega, block_up HM7.out.2.2.1 Hb3.out, HFn.out, below_up HM7.out.2.2.2 Hb3.out⟩
          have HPf := Lib.hid (block_up HPq7.out Hb3.out)
          clear hln
          go_wp2
          go_meet
          case rel => exact ⟨vm', O.eraseIdx n, _, rfl, rfl, by rw [HLn.out]; omega, HN.out, HPf.out⟩
      · -- Move
        have HMv := Lib.hid (move_ok HRa.out.m (by omega) x.id x.x x.y)
        rw [HZ.out] at HMv
        go_wp2_with fail
        (with_reducible refine HMv.out.mono ?_); rintro e w7 ⟨rfl, hm7, hf7⟩
        obtain ⟨ho7, hrc7, hb7⟩ := MR.turn HRa.out HGe.out hm7 hf7 (fun k h => .inr h)
        have HPq7 := Lib.hid (blk_fr HPq.out hf7 (fun e => HNem.out _ e rfl))
        have HM7 := Lib.hid (And.intro hm7 (And.intro ho7 (And.intro hrc7 hb7)))
        have HA7 := Lib.hid HRa.out.ap
        clear hm7 ho7 hrc7 hb7 hf7 p0 p1 p2 p3 HMv
        obtain ⟨p0, p1, p2, p3⟩ := cells4 HPq7.out
        unfold plE
        by_cases hz0 : z < 0
        · have dz : decide (z < 0) = true := decide_eq_true hz0
          rw [if_pos hz0]
          have hm := HM7.out.1
          rw [if_pos hz0] at hm
          have HN : Hid (MR w w7 g r vm (.slice Ao O.length co) O) := Lib.hid ⟨hm, HM7.out.2.1, HA7.out, HM7.out.2.2.1, HRa.out.fi, HM7.out.2.2.2⟩
          clear hm hz0
          go_wp2
          go_meet
          case rel => exact ⟨vm, O, _, rfl, rfl, by omega, HN.out, HPq7.out⟩
        · have dz : decide (z < 0) = false := decide_eq_false hz0
          rw [if_neg hz0]
          have hm := HM7.out.1
          rw [if_neg hz0] at hm
          have hzl := at_lt O x.id (by rw [HZ.out]; omega)
          rw [HZ.out] at hzl
          obtain ⟨n, rfl⟩ := Int.eq_ofNat_of_zero_le (show 0 ≤ z by omega)
          rw [Int.toNat_natCast] at hm hzl
          rw [show O.getD n PtS.zero = O[n] by simp [hzl]] at hm
          have HMn := Lib.hid hm
          have HOM : Hid (∀ (W' : World) (r4 n4 c4 : Nat), W'.ownsRow w7.heap.size 56 4 (.slice (some ⟨r4, 0, none⟩) n4 c4) n4 (O.flatMap PtS.cells) → ((W'.setCell ⟨r4, n * 4 + 1, none⟩ (.int .u32 (x.x : Nat))).setCell ⟨r4, n * 4 + 2, none⟩ (.int .u32 (x.y : Nat))).ownsRow w7.heap.size 56 4 (.slice (some ⟨r4, 0, none⟩) n4 c4) n4 ((O.set n (mvd O[n] x.x x.y)).flatMap PtS.cells)) := Lib.hid (fun W' r4 n4 c4 h => own_mv h n hzl x.x x.y)
          have HLn : Hid ((O.set n (mvd O[n] x.x x.y)).length = O.length) := Lib.hid (by rw [List.length_set])
          have HFn : Hid (∀ p ∈ O.set n (mvd O[n] x.x x.y), p.fine) := Lib.hid (fun p hp => by
            rcases List.mem_or_eq_of_mem_set hp with h | h
            · exact HRa.out.fi p h
            · subst h
              have h1 := HRa.out.fi _ (List.getElem_mem hzl)
              have h2 := HFx.out.2
              exact ⟨h1.1, h2.2.1, h2.2.2.1, h1.2.2.2⟩)
          clear hm hz0
          generalize O.set n (mvd O[n] x.x x.y) = O' at *
          have bn : (n : Int) < O.length := by omega
          have kn0 : IntKind.i64.wrap (n : Int) = (n : Int) := by rw [IntWalk.i64_in _ (by omega)]
          have HRt : Hid (∀ W', Below w7.heap.size w7 W' → Rd W' Ao (O.flatMap PtS.cells)) := Lib.hid (fun W' hb => by
            obtain ⟨A', c', e, _, hr⟩ := srd_own PtS.cells_len (by decide) (own_below HM7.out.2.1 hb)
            injection e with e1 _ _
            rw [e1]; exact hr)
          have H0 := Lib.hid (own_zero w7 56 4)
          have Hb1 := Lib.hid (below_alloc1 w7 (.cells #[] 56))
          go_wp2_with (at_builtin; refine wpList_app rfl _ _ 49 rfl w7.heap.size 56 (.agg #[.int .i64 0, .int .u32 0, .int .u32 0, .string ⟨#[]⟩]) 4 32 Try.underlying49 info_pt4 rfl (by decide) (by decide) (.slice (some ⟨w7.heap.size, 0, none⟩) 0 0) 0 [] rfl Ao O.length co (O.flatMap PtS.cells) rfl H0.out (by rw [flat_len PtS.cells_len]) (HRt.out _ Hb1.out) (flat_one PtS.cells_one _) (by omega) Hb1.out.size ?_)
          intro A4 c4 We hown hgrow hat
          (try rw [Nat.zero_add] at hown hat)
          (try rw [Nat.zero_add])
          (try rw [List.nil_append] at hown)
          have Hb2 := Lib.hid (below_grown Hb1.out hgrow (fun k e => own_base H0.out k e))
          have H4 := Lib.hid hown
          clear hown hgrow hat Hb1 H0 p0 p1 p2 p3
          rcases H4.out.2 with ⟨_, hn0⟩ | ⟨r4, c4', cur, e4, hr4, _⟩
          · omega
          · injection e4 with e4 _ e5
            subst e4 e5
            clear hr4
            have Hb3 := Lib.hid (below_up Hb2.out (below_drew1 (w := We)))
            have H5 := Lib.hid (own_below H4.out (below_drew1 (w := We)))
            have HPf := Lib.hid (cells4 (block_up HPq7.out Hb3.out))
            have hbr := own_base H5.out r4 rfl
            have HNr : Hid (w7.heap.size ≤ r4) := Lib.hid hbr
            have HPl : Hid (w5.heap.size < w7.heap.size) := Lib.hid (Array.getElem?_eq_some_iff.1 HPq7.out).1
            clear hbr
            go_upto_region 18 with (fail)
            refine beginS (S := fun W' => (W'.cell? ⟨w5.heap.size, 0, none⟩ = some (.int .i64 x.id) ∧ W'.cell? ⟨w5.heap.size, 1, none⟩ = some (.int .u32 (x.x : Nat)) ∧ W'.cell? ⟨w5.heap.size, 2, none⟩ = some (.int .u32 (x.y : Nat)) ∧ W'.cell? ⟨w5.heap.size, 3, none⟩ = some (.string x.d))) [13] (by kernel_rfl) HPf.out (fun hHeld0 => ?_)
            generalize (World.drew We) = W8 at *
            have HOw := Lib.hid (HOM.out W8 r4 _ c4 H5.out)
            obtain ⟨⟨c0, c1, c2, c3⟩, fz⟩ := own_at4 H5.out n hzl
            have HFr := Lib.hid ((Hb3.out.setCell (p := ⟨r4, n * 4 + 1, none⟩) HNr.out (.int .u32 (x.x : Nat))))
            have HFr2 := Lib.hid ((HFr.out.setCell (p := ⟨r4, n * 4 + 2, none⟩) HNr.out (.int .u32 (x.y : Nat))))
            have d2 : (W8.setCell ⟨r4, n * 4 + 1, none⟩ (.int .u32 (x.x : Nat))).cell? ⟨r4, n * 4 + 2, none⟩ = some (.int .u32 (O[n].y : Nat)) := by rw [World.cell?_setCell_other _ _ _ _ (fun e => by injection e with _ e2 _; omega)]; exact c2
            have dz2 : ∀ j, (W8.setCell ⟨r4, n * 4 + 1, none⟩ (.int .u32 (x.x : Nat))).frozen? ⟨r4, j, none⟩ = false := fun j => by simp [fz]
            have HD2 := Lib.hid (And.intro d2 dz2)
            clear d2 dz2
            generalize O[n] = y at *
            refine takeF (i := 0) (v := ?_) rfl (by kernel_rfl) (fun _ _ _ h => h) (Or.inl ⟨by kernel_rfl, ?_⟩) (by assumption) ?_; rotate_left; (focus (intro w _; go_simp; (try with_reducible rfl); done)); (try simp only [Act.put, List.getElem_toArray, List.getElem_cons_succ, List.getElem_cons_zero, List.setIfInBounds_toArray, List.set_cons_zero, List.set_cons_succ])
            refine takeF (i := 1) (v := ?_) rfl (by kernel_rfl) (fun _ _ _ h => h) (Or.inl ⟨by kernel_rfl, ?_⟩) (by assumption) ?_; rotate_left; (focus (intro w _; go_simp; (try with_reducible rfl); done)); (try simp only [Act.put, List.getElem_toArray, List.getElem_cons_succ, List.getElem_cons_zero, List.setIfInBounds_toArray, List.set_cons_zero, List.set_cons_succ])
            refine takeF (i := 2) (v := ?_) rfl (by kernel_rfl) (fun _ _ _ h => h) (Or.inl ⟨by kernel_rfl, ?_⟩) (by assumption) ?_; rotate_left; (focus (intro w _; go_simp; (try with_reducible rfl); done)); (try simp only [Act.put, List.getElem_toArray, List.getElem_cons_succ, List.getElem_cons_zero, List.setIfInBounds_toArray, List.set_cons_zero, List.set_cons_succ])
            refine takeF (i := 3) (v := ?_) rfl (by kernel_rfl) (fun _ _ _ h => h) (Or.inl ⟨by kernel_rfl, ?_⟩) (by assumption) ?_; rotate_left; (focus (intro w _; go_simp; (try with_reducible rfl); done)); (try simp only [Act.put, List.getElem_toArray, List.getElem_cons_succ, List.getElem_cons_zero, List.setIfInBounds_toArray, List.set_cons_zero, List.set_cons_succ])
            refine takeF (i := 4) (v := ?_) rfl (by kernel_rfl) (fun _ _ _ h => h) (Or.inl ⟨by kernel_rfl, ?_⟩) (by assumption) ?_; rotate_left; (focus (intro w _; go_simp; (try with_reducible rfl); done)); (try simp only [Act.put, List.getElem_toArray, List.getElem_cons_succ, List.getElem_cons_zero, List.setIfInBounds_toArray, List.set_cons_zero, List.set_cons_succ])
            refine takeH (i := 5) (v := ?_) rfl (by kernel_rfl) (fun _ _ _ h => h) (Or.inl ⟨by kernel_rfl, ?_⟩) (by assumption) ?_; rotate_left; (focus (intro w hSw; (try dsimp only at hSw); go_simp; (try with_reducible rfl); done)); (try simp only [Act.put, List.getElem_toArray, List.getElem_cons_succ, List.getElem_cons_zero, List.setIfInBounds_toArray, List.set_cons_zero, List.set_cons_succ])
            refine takeF (i := 6) (v := ?_) rfl (by kernel_rfl) (fun _ _ _ h => h) (Or.inl ⟨by kernel_rfl, ?_⟩) (by assumption) ?_; rotate_left; (focus (intro w _; go_simp; (try with_reducible rfl); done)); (try simp only [Act.put, List.getElem_toArray, List.getElem_cons_succ, List.getElem_cons_zero, List.setIfInBounds_toArray, List.set_cons_zero, List.set_cons_succ])
            refine takeH (i := 7) (v := ?_) rfl (by kernel_rfl) (fun _ _ _ h => h) (Or.inl ⟨by kernel_rfl, ?_⟩) (by assumption) ?_; rotate_left; (focus (intro w hSw; (try dsimp only at hSw); go_simp; (try with_reducible rfl); done)); (try simp only [Act.put, List.getElem_toArray, List.getElem_cons_succ, List.getElem_cons_zero, List.setIfInBounds_toArray, List.set_cons_zero, List.set_cons_succ])
            refine takeF (i := 8) (v := ?_) rfl (by kernel_rfl) (fun _ _ _ h => h) (Or.inl ⟨by kernel_rfl, ?_⟩) (by assumption) ?_; rotate_left; (focus (intro w _; go_simp; (try with_reducible rfl); done)); (try simp only [Act.put, List.getElem_toArray, List.getElem_cons_succ, List.getElem_cons_zero, List.setIfInBounds_toArray, List.set_cons_zero, List.set_cons_succ])
            refine takeF (i := 9) (v := ?_) rfl (by kernel_rfl) (fun _ _ _ h => h) (Or.inl ⟨by kernel_rfl, ?_⟩) (by assumption) ?_; rotate_left; (focus (intro w _; go_simp; (try with_reducible rfl); done)); (try simp only [Act.put, List.getElem_toArray, List.getElem_cons_succ, List.getElem_cons_zero, List.setIfInBounds_toArray, List.set_cons_zero, List.set_cons_succ])
            clear hHeld0
            refine readyS (rs := [10]) (by kernel_rfl) (by simp) ?_
            refine ReadyS.consH rfl (fun K hK => ?_) ReadyS.nil
            (try simp only [List.getElem_toArray, List.getElem_cons_succ, List.getElem_cons_zero])
            go_simp
            refine hK.out _ (W8.setCell ⟨r4, n * 4 + 1, none⟩ (.int .u32 (x.x : Nat))) (cells4 (block_up HPq7.out HFr.out)) (fun hHeld0 => ?_)
            clear hK K c0 c1 c2 c3 fz
            obtain ⟨d2, dz2⟩ := HD2.out
            generalize W8.setCell ⟨r4, n * 4 + 1, none⟩ (.int .u32 (x.x : Nat)) = W9 at *
            (try simp only [Act.put, List.getElem_toArray, List.getElem_cons_succ, List.getElem_cons_zero, List.setIfInBounds_toArray, List.set_cons_zero, List.set_cons_succ])
            refine takeF (i := 11) (v := ?_) rfl (by kernel_rfl) (fun _ _ _ h => h) (Or.inl ⟨by kernel_rfl, ?_⟩) (by assumption) ?_; rotate_left; (focus (intro w _; go_simp; (try with_reducible rfl); done)); (try simp only [Act.put, List.getElem_toArray, List.getElem_cons_succ, List.getElem_cons_zero, List.setIfInBounds_toArray, List.set_cons_zero, List.set_cons_succ])
            refine takeF (i := 12) (v := ?_) rfl (by kernel_rfl) (fun _ _ _ h => h) (Or.inl ⟨by kernel_rfl, ?_⟩) (by assumption) ?_; rotate_left; (focus (intro w _; go_simp; (try with_reducible rfl); done)); (try simp only [Act.put, List.getElem_toArray, List.getElem_cons_succ, List.getElem_cons_zero, List.setIfInBounds_toArray, List.set_cons_zero, List.set_cons_succ])
            clear hHeld0
            refine readyS (rs := [13]) (by kernel_rfl) (by simp) ?_
            refine ReadyS.consP rfl (by kernel_rfl) (fun K hK => ?_) ReadyS.nil
            (try simp only [List.getElem_toArray, List.getElem_cons_succ, List.getElem_cons_zero])
            go_simp
            refine hK.out _ (W9.setCell ⟨r4, n * 4 + 2, none⟩ (.int .u32 (x.y : Nat))) ?_
            clear hK K d2 dz2
            generalize W9.setCell ⟨r4, n * 4 + 2, none⟩ (.int .u32 (x.y : Nat)) = W10 at *
            refine doneS (by kernel_rfl) ?_ _
            have HN : Hid (MR w W10 g r vm (.slice (some ⟨r4, 0, none⟩) O.length c4) O') := Lib.hid ⟨HMn.out.below HFr2.out, by rw [HLn.out]; exact own_lower HOw.out HM7.out.2.2.2.size, fun k h1 h2 => by
              have a1 := own_lt HM7.out.1.row k h1
              have a2 : r4 = k := by simpa [Value.ownBlock] using h2
              have a3 := HNr.out
              omega, block_up HM7.out.2.2.1 HFr2.out, HFn.out, below_up HM7.out.2.2.2 HFr2.out⟩
            have HPf2 := Lib.hid (block_up HPq7.out HFr2.out)
            go_wp2
            go_meet
            case rel => exact ⟨vm, O', _, rfl, rfl, by rw [HLn.out]; omega, HN.out, HPf2.out⟩
    case rest =>
    obtain ⟨vm', O', ec, rfl, rfl, hlen, hMR, hPb⟩ := hcut
    have HR8 := Lib.hid hMR
    have HP8 := Lib.hid hPb
    obtain ⟨A8, c8, rfl, hc8, _, _, _⟩ := own_rd hMR.o
    obtain ⟨p0, p1, p2, p3⟩ := cells4 hPb
    clear hMR hPb HRa HPq HNew HNem HNg HZ HFx
    have HGt := Lib.hid (get_ok HR8.out.m (by omega) x.id)
    obtain ⟨q, hq⟩ : ∃ q, getP O' x.id = q := ⟨_, rfl⟩
    obtain ⟨z8, hz8⟩ : ∃ z, at_ O' x.id = z := ⟨_, rfl⟩
    rw [hq, hz8] at HGt
    have HZ8 := Lib.hid (And.intro hq hz8)
    clear hq hz8
    go_wp2_with fail
    (with_reducible refine HGt.out.mono ?_); rintro e w9 ⟨rfl, hb9⟩
    have HR9 := Lib.hid (HR8.out.below hb9)
    have HP9 := Lib.hid (block_up HP8.out hb9)
    clear hb9 p0 p1 p2 p3
    have HBa := Lib.hid (below_alloc1 w9 (.cells #[.int .i64 q.id, .int .u32 (q.x : Nat), .int .u32 (q.y : Nat), .string q.d] 56))
    have HQq := Lib.hid (alloc_at (w := w9) (.cells #[.int .i64 q.id, .int .u32 (q.x : Nat), .int .u32 (q.y : Nat), .string q.d] 56) rfl)
    have HRb := Lib.hid (HR9.out.below HBa.out)
    obtain ⟨p0, p1, p2, p3⟩ := cells4 (block_up HP9.out HBa.out)
    have HF8 := Lib.hid (find_ok (.slice A8 O'.length c8) O' x.id _ (srd_own PtS.cells_len (by decide) HRb.out.o) (by omega))
    rw [HZ8.out.2] at HF8
    clear p1 p2 p3
    go_wp2_with fail
    (with_reducible refine HF8.out.mono ?_); rintro e w10 ⟨rfl, hw10⟩
    subst hw10
    clear p0
    generalize w9.heap.size = Q at *
    go_upto_region 35 with (fail)
    have HSame := Lib.hid (fun (v1 : Value) W (h1 : PRow W v1 O') (h2 : PRow W (.slice A8 O'.length c8) O') => points_same v1 (.slice A8 O'.length c8) O' W h1 h2 (by omega))
    generalize (World.alloc w9 _) = w10 at *
    have hne : (ec != ec) = false := by simp
    by_cases hz0 : 0 ≤ z8
    · have dz : decide (0 ≤ z8) = true := decide_eq_true hz0
      rw [dz]
      have hzl := at_lt O' x.id (by rw [HZ8.out.2]; exact hz0)
      rw [HZ8.out.2] at hzl
      obtain ⟨n, rfl⟩ := Int.eq_ofNat_of_zero_le hz0
      rw [Int.toNat_natCast] at hzl
      have hqe : q = O'[n] := by
        rw [← HZ8.out.1]; unfold getP; rw [HZ8.out.2, if_neg (by omega), Int.toNat_natCast]; simp [hzl]
      have bn : (n : Int) < O'.length := by omega
      have HD0 := Lib.hid (below_drew1 (w := w10))
      have HXn : Hid (∀ W', Below w10.heap.size w10 W' → ∃ g8 o8, A8 = some ⟨g8, o8, none⟩ ∧ AtP W' g8 o8 n (O'[n]'hzl)) := Lib.hid (fun W' hb => p_at (srd_own PtS.cells_len (by decide) (own_below HRb.out.o hb)) hzl)
      rw [← hqe] at HXn
      obtain ⟨g8, o8, rfl, _⟩ := HXn.out _ (Below.refl _ _)
      have HSt : Hid (∀ W', Below w10.heap.size w10 W' → AtP W' g8 o8 n q ∧ (W'.cell? ⟨Q, 0, none⟩ = some (.int .i64 q.id) ∧ W'.cell? ⟨Q, 1, none⟩ = some (.int .u32 (q.x : Nat)) ∧ W'.cell? ⟨Q, 2, none⟩ = some (.int .u32 (q.y : Nat)) ∧ W'.cell? ⟨Q, 3, none⟩ = some (.string q.d))) := Lib.hid (fun W' hb => by
        obtain ⟨g9, o9, e, f⟩ := HXn.out _ hb
        cases e
        exact ⟨f, cells4 (block_up HQq.out hb)⟩)
      clear HXn hqe hz0
      have hnn := neqPt_same q
      refine beginS (S := fun W' => AtP W' g8 o8 n q ∧ (W'.cell? ⟨Q, 0, none⟩ = some (.int .i64 q.id) ∧ W'.cell? ⟨Q, 1, none⟩ = some (.int .u32 (q.x : Nat)) ∧ W'.cell? ⟨Q, 2, none⟩ = some (.int .u32 (q.y : Nat)) ∧ W'.cell? ⟨Q, 3, none⟩ = some (.string q.d))) [] (by kernel_rfl) (HSt.out _ HD0.out) (fun hHeld0 => ?_)
      generalize (World.drew w10) = W0 at *
      refine takeF (i := 0) (v := ?_) rfl (by kernel_rfl) (fun _ _ _ h => h) (Or.inl ⟨by kernel_rfl, ?_⟩) (by assumption) ?_; rotate_left; (focus (intro w _; go_simp; (try with_reducible rfl); done)); (try simp only [Act.put, List.getElem_toArray, List.getElem_cons_succ, List.getElem_cons_zero, List.setIfInBounds_toArray, List.set_cons_zero, List.set_cons_succ])
      refine takeF (i := 1) (v := ?_) rfl (by kernel_rfl) (fun _ _ _ h => h) (Or.inl ⟨by kernel_rfl, ?_⟩) (by assumption) ?_; rotate_left; (focus (intro w _; go_simp; (try with_reducible rfl); done)); (try simp only [Act.put, List.getElem_toArray, List.getElem_cons_succ, List.getElem_cons_zero, List.setIfInBounds_toArray, List.set_cons_zero, List.set_cons_succ])
      refine takeF (i := 2) (v := ?_) rfl (by kernel_rfl) (fun _ _ _ h => h) (Or.inl ⟨by kernel_rfl, ?_⟩) (by assumption) ?_; rotate_left; (focus (intro w _; go_simp; (try with_reducible rfl); done)); (try simp only [Act.put, List.getElem_toArray, List.getElem_cons_succ, List.getElem_cons_zero, List.setIfInBounds_toArray, List.set_cons_zero, List.set_cons_succ])
      refine takeF (i := 3) (v := ?_) rfl (by kernel_rfl) (fun _ _ _ h => h) (Or.inl ⟨by kernel_rfl, ?_⟩) (by assumption) ?_; rotate_left; (focus (intro w _; go_simp; (try with_reducible rfl); done)); (try simp only [Act.put, List.getElem_toArray, List.getElem_cons_succ, List.getElem_cons_zero, List.setIfInBounds_toArray, List.set_cons_zero, List.set_cons_succ])
      refine takeF (i := 4) (v := ?_) rfl (by kernel_rfl) (fun _ _ _ h => h) (Or.inl ⟨by kernel_rfl, ?_⟩) (by assumption) ?_; rotate_left; (focus (intro w _; go_simp; (try with_reducible rfl); done)); (try simp only [Act.put, List.getElem_toArray, List.getElem_cons_succ, List.getElem_cons_zero, List.setIfInBounds_toArray, List.set_cons_zero, List.set_cons_succ])
      refine takeF (i := 5) (v := ?_) rfl (by kernel_rfl) (fun _ _ _ h => h) (Or.inl ⟨by kernel_rfl, ?_⟩) (by assumption) ?_; rotate_left; (focus (intro w _; go_simp; (try with_reducible rfl); done)); (try simp only [Act.put, List.getElem_toArray, List.getElem_cons_succ, List.getElem_cons_zero, List.setIfInBounds_toArray, List.set_cons_zero, List.set_cons_succ])
      refine takeF (i := 6) (v := ?_) rfl (by kernel_rfl) (fun _ _ _ h => h) (Or.inl ⟨by kernel_rfl, ?_⟩) (by assumption) ?_; rotate_left; (focus (intro w _; go_simp; (try with_reducible rfl); done)); (try simp only [Act.put, List.getElem_toArray, List.getElem_cons_succ, List.getElem_cons_zero, List.setIfInBounds_toArray, List.set_cons_zero, List.set_cons_succ])
      refine takeF (i := 7) (v := ?_) rfl (by kernel_rfl) (fun _ _ _ h => h) (Or.inl ⟨by kernel_rfl, ?_⟩) (by assumption) ?_; rotate_left; (focus (intro w _; go_simp; (try with_reducible rfl); done)); (try simp only [Act.put, List.getElem_toArray, List.getElem_cons_succ, List.getElem_cons_zero, List.setIfInBounds_toArray, List.set_cons_zero, List.set_cons_succ])
      refine takeF (i := 8) (v := ?_) rfl (by kernel_rfl) (fun _ _ _ h => h) (Or.inl ⟨by kernel_rfl, ?_⟩) (by assumption) ?_; rotate_left; (focus (intro w _; go_simp; (try with_reducible rfl); done)); (try simp only [Act.put, List.getElem_toArray, List.getElem_cons_succ, List.getElem_cons_zero, List.setIfInBounds_toArray, List.set_cons_zero, List.set_cons_succ])
      refine takeF (i := 9) (v := ?_) rfl (by kernel_rfl) (fun _ _ _ h => h) (Or.inl ⟨by kernel_rfl, ?_⟩) (by assumption) ?_; rotate_left; (focus (intro w _; go_simp; (try with_reducible rfl); done)); (try simp only [Act.put, List.getElem_toArray, List.getElem_cons_succ, List.getElem_cons_zero, List.setIfInBounds_toArray, List.set_cons_zero, List.set_cons_succ])
      refine takeF (i := 10) (v := ?_) rfl (by kernel_rfl) (fun _ _ _ h => h) (Or.inl ⟨by kernel_rfl, ?_⟩) (by assumption) ?_; rotate_left; (focus (intro w _; go_simp; (try with_reducible rfl); done)); (try simp only [Act.put, List.getElem_toArray, List.getElem_cons_succ, List.getElem_cons_zero, List.setIfInBounds_toArray, List.set_cons_zero, List.set_cons_succ])
      refine takeF (i := 11) (v := ?_) rfl (by kernel_rfl) (fun _ _ _ h => h) (Or.inl ⟨by kernel_rfl, ?_⟩) (by assumption) ?_; rotate_left; (focus (intro w _; go_simp; (try with_reducible rfl); done)); (try simp only [Act.put, List.getElem_toArray, List.getElem_cons_succ, List.getElem_cons_zero, List.setIfInBounds_toArray, List.set_cons_zero, List.set_cons_succ])
      refine takeH (i := 12) (v := ?_) rfl (by kernel_rfl) (fun _ _ _ h => h) (Or.inl ⟨by kernel_rfl, ?_⟩) (by assumption) ?_; rotate_left; (focus (intro w hSw; (try dsimp only at hSw); go_simp; (try with_reducible rfl); done)); (try simp only [Act.put, List.getElem_toArray, List.getElem_cons_succ, List.getElem_cons_zero, List.setIfInBounds_toArray, List.set_cons_zero, List.set_cons_succ])
      refine takeF (i := 13) (v := ?_) rfl (by kernel_rfl) (fun _ _ _ h => h) (Or.inl ⟨by kernel_rfl, ?_⟩) (by assumption) ?_; rotate_left; (focus (intro w _; go_simp; (try with_reducible rfl); done)); (try simp only [Act.put, List.getElem_toArray, List.getElem_cons_succ, List.getElem_cons_zero, List.setIfInBounds_toArray, List.set_cons_zero, List.set_cons_succ])
      refine takeF (i := 14) (v := ?_) rfl (by kernel_rfl) (fun _ _ _ h => h) (Or.inl ⟨by kernel_rfl, ?_⟩) (by assumption) ?_; rotate_left; (focus (intro w _; go_simp; (try with_reducible rfl); done)); (try simp only [Act.put, List.getElem_toArray, List.getElem_cons_succ, List.getElem_cons_zero, List.setIfInBounds_toArray, List.set_cons_zero, List.set_cons_succ])
      refine takeF (i := 15) (v := ?_) rfl (by kernel_rfl) (fun _ _ _ h => h) (Or.inl ⟨by kernel_rfl, ?_⟩) (by assumption) ?_; rotate_left; (focus (intro w _; go_simp; (try with_reducible rfl); done)); (try simp only [Act.put, List.getElem_toArray, List.getElem_cons_succ, List.getElem_cons_zero, List.setIfInBounds_toArray, List.set_cons_zero, List.set_cons_succ])
      refine takeH (i := 16) (v := ?_) rfl (by kernel_rfl) (fun _ _ _ h => h) (Or.inl ⟨by kernel_rfl, ?_⟩) (by assumption) ?_; rotate_left; (focus (intro w hSw; (try dsimp only at hSw); go_simp; (try with_reducible rfl); done)); (try simp only [Act.put, List.getElem_toArray, List.getElem_cons_succ, List.getElem_cons_zero, List.setIfInBounds_toArray, List.set_cons_zero, List.set_cons_succ])
      refine takeF (i := 17) (v := ?_) rfl (by kernel_rfl) (fun _ _ _ h => h) (Or.inl ⟨by kernel_rfl, ?_⟩) (by assumption) ?_; rotate_left; (focus (intro w _; go_simp; (try with_reducible rfl); done)); (try simp only [Act.put, List.getElem_toArray, List.getElem_cons_succ, List.getElem_cons_zero, List.setIfInBounds_toArray, List.set_cons_zero, List.set_cons_succ])
      refine takeF (i := 18) (v := ?_) rfl (by kernel_rfl) (fun _ _ _ h => h) (Or.inl ⟨by kernel_rfl, ?_⟩) (by assumption) ?_; rotate_left; (focus (intro w _; go_simp; (try with_reducible rfl); done)); (try simp only [Act.put, List.getElem_toArray, List.getElem_cons_succ, List.getElem_cons_zero, List.setIfInBounds_toArray, List.set_cons_zero, List.set_cons_succ])
      refine takeF (i := 19) (v := ?_) rfl (by kernel_rfl) (fun _ _ _ h => h) (Or.inl ⟨by kernel_rfl, ?_⟩) (by assumption) ?_; rotate_left; (focus (intro w _; go_simp; (try with_reducible rfl); done)); (try simp only [Act.put, List.getElem_toArray, List.getElem_cons_succ, List.getElem_cons_zero, List.setIfInBounds_toArray, List.set_cons_zero, List.set_cons_succ])
      refine takeF (i := 20) (v := ?_) rfl (by kernel_rfl) (fun _ _ _ h => h) (Or.inl ⟨by kernel_rfl, ?_⟩) (by assumption) ?_; rotate_left; (focus (intro w _; go_simp; (try with_reducible rfl); done)); (try simp only [Act.put, List.getElem_toArray, List.getElem_cons_succ, List.getElem_cons_zero, List.setIfInBounds_toArray, List.set_cons_zero, List.set_cons_succ])
      refine takeF (i := 21) (v := ?_) rfl (by kernel_rfl) (fun _ _ _ h => h) (Or.inl ⟨by kernel_rfl, ?_⟩) (by assumption) ?_; rotate_left; (focus (intro w _; go_simp; (try with_reducible rfl); done)); (try simp only [Act.put, List.getElem_toArray, List.getElem_cons_succ, List.getElem_cons_zero, List.setIfInBounds_toArray, List.set_cons_zero, List.set_cons_succ])
      refine takeF (i := 23) (v := ?_) rfl (by kernel_rfl) (fun _ _ _ h => h) (Or.inl ⟨by kernel_rfl, ?_⟩) (by assumption) ?_; rotate_left; (focus (intro w _; go_simp; (try with_reducible rfl); done)); (try simp only [Act.put, List.getElem_toArray, List.getElem_cons_succ, List.getElem_cons_zero, List.setIfInBounds_toArray, List.set_cons_zero, List.set_cons_succ])
      clear hHeld0 hnn
      refine readyS (rs := [22]) (by kernel_rfl) (by simp) ?_
      refine ReadyS.consH rfl (fun K hK => ?_) ReadyS.nil
      (try simp only [List.getElem_toArray, List.getElem_cons_succ, List.getElem_cons_zero])
      go_simp
      (with_reducible refine (points_ok (HRb.out.below HD0.out).m (by omega)).mono ?_); rintro e W1 ⟨v22, rfl, ho22, hb22⟩
      have HD1 := Lib.hid (below_up HD0.out hb22)
      have HS22 := Lib.hid (HSame.out v22 W1 (srd_own PtS.cells_len (by decide) ho22) (srd_own PtS.cells_len (by decide) (HRb.out.below HD1.out).o))
      obtain ⟨A22, c22, rfl, _, _, _, _⟩ := own_rd ho22
      clear ho22 hb22
      refine hK.out _ _ (HSt.out _ HD1.out) (fun hHeld0 => ?_)
      clear hK K hHeld0
      (try simp only [Act.put, List.getElem_toArray, List.getElem_cons_succ, List.getElem_cons_zero, List.setIfInBounds_toArray, List.set_cons_zero, List.set_cons_succ])
      refine readyS (rs := [24]) (by kernel_rfl) (by simp) ?_
      refine ReadyS.consH rfl (fun K hK => ?_) ReadyS.nil
      (try simp only [List.getElem_toArray, List.getElem_cons_succ, List.getElem_cons_zero])
      go_simp
      (with_reducible refine HS22.out.mono ?_); rintro e W2 ⟨rfl, hb2⟩
      have HD2 := Lib.hid (below_up HD1.out hb2)
      clear hb2
      refine hK.out _ _ (HSt.out _ HD2.out) (fun hHeld0 => ?_)
      clear hK K
      (try simp only [Act.put, List.getElem_toArray, List.getElem_cons_succ, List.getElem_cons_zero, List.setIfInBounds_toArray, List.set_cons_zero, List.set_cons_succ])
      refine takeF (i := 25) (v := ?_) rfl (by kernel_rfl) (fun _ _ _ h => h) (Or.inl ⟨by kernel_rfl, ?_⟩) (by assumption) ?_; rotate_left; (focus (intro w _; go_simp; (try with_reducible rfl); done)); (try simp only [Act.put, List.getElem_toArray, List.getElem_cons_succ, List.getElem_cons_zero, List.setIfInBounds_toArray, List.set_cons_zero, List.set_cons_succ])
      refine takeF (i := 26) (v := ?_) rfl (by kernel_rfl) (fun _ _ _ h => h) (Or.inl ⟨by kernel_rfl, ?_⟩) (by assumption) ?_; rotate_left; (focus (intro w _; go_simp; (try with_reducible rfl); done)); (try simp only [Act.put, List.getElem_toArray, List.getElem_cons_succ, List.getElem_cons_zero, List.setIfInBounds_toArray, List.set_cons_zero, List.set_cons_succ])
      clear hHeld0
      refine doneS (by kernel_rfl) ?_ _
      have HEnd := Lib.hid (HRb.out.below HD2.out)
      go_wp2
      exact ⟨⟨i + 1, O', vm', by go_num, by omega, by omega, by omega, HEnd.out⟩, by simp [intOf]; omega⟩
    · have dz : decide (0 ≤ z8) = false := decide_eq_false hz0
      rw [dz]
      have HD0 := Lib.hid (below_drew1 (w := w10))
      refine beginS (S := fun W' => True) [] (by kernel_rfl) trivial (fun hHeld0 => ?_)
      generalize (World.drew w10) = W0 at *
      refine takeF (i := 0) (v := ?_) rfl (by kernel_rfl) (fun _ _ _ h => h) (Or.inl ⟨by kernel_rfl, ?_⟩) (by assumption) ?_; rotate_left; (focus (intro w _; go_simp; (try with_reducible rfl); done)); (try simp only [Act.put, List.getElem_toArray, List.getElem_cons_succ, List.getElem_cons_zero, List.setIfInBounds_toArray, List.set_cons_zero, List.set_cons_succ])
      refine takeF (i := 1) (v := ?_) rfl (by kernel_rfl) (fun _ _ _ h => h) (Or.inl ⟨by kernel_rfl, ?_⟩) (by assumption) ?_; rotate_left; (focus (intro w _; go_simp; (try with_reducible rfl); done)); (try simp only [Act.put, List.getElem_toArray, List.getElem_cons_succ, List.getElem_cons_zero, List.setIfInBounds_toArray, List.set_cons_zero, List.set_cons_succ])
      refine takeF (i := 2) (v := ?_) rfl (by kernel_rfl) (fun _ _ _ h => h) (Or.inl ⟨by kernel_rfl, ?_⟩) (by assumption) ?_; rotate_left; (focus (intro w _; go_simp; (try with_reducible rfl); done)); (try simp only [Act.put, List.getElem_toArray, List.getElem_cons_succ, List.getElem_cons_zero, List.setIfInBounds_toArray, List.set_cons_zero, List.set_cons_succ])
      refine takeF (i := 3) (v := ?_) rfl (by kernel_rfl) (fun _ _ _ h => h) (Or.inl ⟨by kernel_rfl, ?_⟩) (by assumption) ?_; rotate_left; (focus (intro w _; go_simp; (try with_reducible rfl); done)); (try simp only [Act.put, List.getElem_toArray, List.getElem_cons_succ, List.getElem_cons_zero, List.setIfInBounds_toArray, List.set_cons_zero, List.set_cons_succ])
      refine takeF (i := 4) (v := ?_) rfl (by kernel_rfl) (fun _ _ _ h => h) (Or.inl ⟨by kernel_rfl, ?_⟩) (by assumption) ?_; rotate_left; (focus (intro w _; go_simp; (try with_reducible rfl); done)); (try simp only [Act.put, List.getElem_toArray, List.getElem_cons_succ, List.getElem_cons_zero, List.setIfInBounds_toArray, List.set_cons_zero, List.set_cons_succ])
      refine takeF (i := 5) (v := ?_) rfl (by kernel_rfl) (fun _ _ _ h => h) (Or.inl ⟨by kernel_rfl, ?_⟩) (by assumption) ?_; rotate_left; (focus (intro w _; go_simp; (try with_reducible rfl); done)); (try simp only [Act.put, List.getElem_toArray, List.getElem_cons_succ, List.getElem_cons_zero, List.setIfInBounds_toArray, List.set_cons_zero, List.set_cons_succ])
      refine takeF (i := 6) (v := ?_) rfl (by kernel_rfl) (fun _ _ _ h => h) (Or.inl ⟨by kernel_rfl, ?_⟩) (by assumption) ?_; rotate_left; (focus (intro w _; go_simp; (try with_reducible rfl); done)); (try simp only [Act.put, List.getElem_toArray, List.getElem_cons_succ, List.getElem_cons_zero, List.setIfInBounds_toArray, List.set_cons_zero, List.set_cons_succ])
      refine takeF (i := 7) (v := ?_) rfl (by kernel_rfl) (fun _ _ _ h => h) (Or.inl ⟨by kernel_rfl, ?_⟩) (by assumption) ?_; rotate_left; (focus (intro w _; go_simp; (try with_reducible rfl); done)); (try simp only [Act.put, List.getElem_toArray, List.getElem_cons_succ, List.getElem_cons_zero, List.setIfInBounds_toArray, List.set_cons_zero, List.set_cons_succ])
      refine takeF (i := 8) (v := ?_) rfl (by kernel_rfl) (fun _ _ _ h => h) (Or.inl ⟨by kernel_rfl, ?_⟩) (by assumption) ?_; rotate_left; (focus (intro w _; go_simp; (try with_reducible rfl); done)); (try simp only [Act.put, List.getElem_toArray, List.getElem_cons_succ, List.getElem_cons_zero, List.setIfInBounds_toArray, List.set_cons_zero, List.set_cons_succ])
      refine takeF (i := 9) (v := ?_) rfl (by kernel_rfl) (fun _ _ _ h => h) (Or.inl ⟨by kernel_rfl, ?_⟩) (by assumption) ?_; rotate_left; (focus (intro w _; go_simp; (try with_reducible rfl); done)); (try simp only [Act.put, List.getElem_toArray, List.getElem_cons_succ, List.getElem_cons_zero, List.setIfInBounds_toArray, List.set_cons_zero, List.set_cons_succ])
      refine takeF (i := 10) (v := ?_) rfl (by kernel_rfl) (fun _ _ _ h => h) (Or.inl ⟨by kernel_rfl, ?_⟩) (by assumption) ?_; rotate_left; (focus (intro w _; go_simp; (try with_reducible rfl); done)); (try simp only [Act.put, List.getElem_toArray, List.getElem_cons_succ, List.getElem_cons_zero, List.setIfInBounds_toArray, List.set_cons_zero, List.set_cons_succ])
      refine takeF (i := 11) (v := ?_) rfl (by kernel_rfl) (fun _ _ _ h => h) (Or.inl ⟨by kernel_rfl, ?_⟩) (by assumption) ?_; rotate_left; (focus (intro w _; go_simp; (try with_reducible rfl); done)); (try simp only [Act.put, List.getElem_toArray, List.getElem_cons_succ, List.getElem_cons_zero, List.setIfInBounds_toArray, List.set_cons_zero, List.set_cons_succ])
      refine takeF (i := 12) (v := undef) rfl (by kernel_rfl) (fun _ _ _ h => h) (Or.inr ⟨by kernel_rfl, rfl⟩) (by assumption) ?_; (try simp only [Act.put, List.getElem_toArray, List.getElem_cons_succ, List.getElem_cons_zero, List.setIfInBounds_toArray, List.set_cons_zero, List.set_cons_succ])
      refine takeF (i := 13) (v := undef) rfl (by kernel_rfl) (fun _ _ _ h => h) (Or.inr ⟨by kernel_rfl, rfl⟩) (by assumption) ?_; (try simp only [Act.put, List.getElem_toArray, List.getElem_cons_succ, List.getElem_cons_zero, List.setIfInBounds_toArray, List.set_cons_zero, List.set_cons_succ])
      refine takeF (i := 14) (v := undef) rfl (by kernel_rfl) (fun _ _ _ h => h) (Or.inr ⟨by kernel_rfl, rfl⟩) (by assumption) ?_; (try simp only [Act.put, List.getElem_toArray, List.getElem_cons_succ, List.getElem_cons_zero, List.setIfInBounds_toArray, List.set_cons_zero, List.set_cons_succ])
      refine takeF (i := 15) (v := undef) rfl (by kernel_rfl) (fun _ _ _ h => h) (Or.inr ⟨by kernel_rfl, rfl⟩) (by assumption) ?_; (try simp only [Act.put, List.getElem_toArray, List.getElem_cons_succ, List.getElem_cons_zero, List.setIfInBounds_toArray, List.set_cons_zero, List.set_cons_succ])
      refine takeF (i := 16) (v := undef) rfl (by kernel_rfl) (fun _ _ _ h => h) (Or.inr ⟨by kernel_rfl, rfl⟩) (by assumption) ?_; (try simp only [Act.put, List.getElem_toArray, List.getElem_cons_succ, List.getElem_cons_zero, List.setIfInBounds_toArray, List.set_cons_zero, List.set_cons_succ])
      refine takeF (i := 17) (v := undef) rfl (by kernel_rfl) (fun _ _ _ h => h) (Or.inr ⟨by kernel_rfl, rfl⟩) (by assumption) ?_; (try simp only [Act.put, List.getElem_toArray, List.getElem_cons_succ, List.getElem_cons_zero, List.setIfInBounds_toArray, List.set_cons_zero, List.set_cons_succ])
      refine takeF (i := 18) (v := ?_) rfl (by kernel_rfl) (fun _ _ _ h => h) (Or.inl ⟨by kernel_rfl, ?_⟩) (by assumption) ?_; rotate_left; (focus (intro w _; go_simp; (try with_reducible rfl); done)); (try simp only [Act.put, List.getElem_toArray, List.getElem_cons_succ, List.getElem_cons_zero, List.setIfInBounds_toArray, List.set_cons_zero, List.set_cons_succ])
      refine takeF (i := 19) (v := ?_) rfl (by kernel_rfl) (fun _ _ _ h => h) (Or.inl ⟨by kernel_rfl, ?_⟩) (by assumption) ?_; rotate_left; (focus (intro w _; go_simp; (try with_reducible rfl); done)); (try simp only [Act.put, List.getElem_toArray, List.getElem_cons_succ, List.getElem_cons_zero, List.setIfInBounds_toArray, List.set_cons_zero, List.set_cons_succ])
      refine takeF (i := 20) (v := ?_) rfl (by kernel_rfl) (fun _ _ _ h => h) (Or.inl ⟨by kernel_rfl, ?_⟩) (by assumption) ?_; rotate_left; (focus (intro w _; go_simp; (try with_reducible rfl); done)); (try simp only [Act.put, List.getElem_toArray, List.getElem_cons_succ, List.getElem_cons_zero, List.setIfInBounds_toArray, List.set_cons_zero, List.set_cons_succ])
      refine takeF (i := 21) (v := ?_) rfl (by kernel_rfl) (fun _ _ _ h => h) (Or.inl ⟨by kernel_rfl, ?_⟩) (by assumption) ?_; rotate_left; (focus (intro w _; go_simp; (try with_reducible rfl); done)); (try simp only [Act.put, List.getElem_toArray, List.getElem_cons_succ, List.getElem_cons_zero, List.setIfInBounds_toArray, List.set_cons_zero, List.set_cons_succ])
      refine takeF (i := 23) (v := ?_) rfl (by kernel_rfl) (fun _ _ _ h => h) (Or.inl ⟨by kernel_rfl, ?_⟩) (by assumption) ?_; rotate_left; (focus (intro w _; go_simp; (try with_reducible rfl); done)); (try simp only [Act.put, List.getElem_toArray, List.getElem_cons_succ, List.getElem_cons_zero, List.setIfInBounds_toArray, List.set_cons_zero, List.set_cons_succ])
      clear hHeld0
      refine readyS (rs := [22]) (by kernel_rfl) (by simp) ?_
      refine ReadyS.consH rfl (fun K hK => ?_) ReadyS.nil
      (try simp only [List.getElem_toArray, List.getElem_cons_succ, List.getElem_cons_zero])
      go_simp
      (with_reducible refine (points_ok (HRb.out.below HD0.out).m (by omega)).mono ?_); rintro e W1 ⟨v22, rfl, ho22, hb22⟩
      have HD1 := Lib.hid (below_up HD0.out hb22)
      have HS22 := Lib.hid (HSame.out v22 W1 (srd_own PtS.cells_len (by decide) ho22) (srd_own PtS.cells_len (by decide) (HRb.out.below HD1.out).o))
      obtain ⟨A22, c22, rfl, _, _, _, _⟩ := own_rd ho22
      clear ho22 hb22
      refine hK.out _ _ trivial (fun hHeld0 => ?_)
      clear hK K hHeld0
      (try simp only [Act.put, List.getElem_toArray, List.getElem_cons_succ, List.getElem_cons_zero, List.setIfInBounds_toArray, List.set_cons_zero, List.set_cons_succ])
      refine readyS (rs := [24]) (by kernel_rfl) (by simp) ?_
      refine ReadyS.consH rfl (fun K hK => ?_) ReadyS.nil
      (try simp only [List.getElem_toArray, List.getElem_cons_succ, List.getElem_cons_zero])
      go_simp
      (with_reducible refine HS22.out.mono ?_); rintro e W2 ⟨rfl, hb2⟩
      have HD2 := Lib.hid (below_up HD1.out hb2)
      clear hb2
      refine hK.out _ _ trivial (fun hHeld0 => ?_)
      clear hK K
      (try simp only [Act.put, List.getElem_toArray, List.getElem_cons_succ, List.getElem_cons_zero, List.setIfInBounds_toArray, List.set_cons_zero, List.set_cons_succ])
      refine takeF (i := 25) (v := ?_) rfl (by kernel_rfl) (fun _ _ _ h => h) (Or.inl ⟨by kernel_rfl, ?_⟩) (by assumption) ?_; rotate_left; (focus (intro w _; go_simp; (try with_reducible rfl); done)); (try simp only [Act.put, List.getElem_toArray, List.getElem_cons_succ, List.getElem_cons_zero, List.setIfInBounds_toArray, List.set_cons_zero, List.set_cons_succ])
      refine takeF (i := 26) (v := ?_) rfl (by kernel_rfl) (fun _ _ _ h => h) (Or.inl ⟨by kernel_rfl, ?_⟩) (by assumption) ?_; rotate_left; (focus (intro w _; go_simp; (try with_reducible rfl); done)); (try simp only [Act.put, List.getElem_toArray, List.getElem_cons_succ, List.getElem_cons_zero, List.setIfInBounds_toArray, List.set_cons_zero, List.set_cons_succ])
      clear hHeld0
      refine doneS (by kernel_rfl) ?_ _
      have HEnd := Lib.hid (HRb.out.below HD2.out)
      go_wp2
      exact ⟨⟨i + 1, O', vm', by go_num, by omega, by omega, by omega, HEnd.out⟩, by simp [intOf]; omega⟩
  · rw [decide_eq_false hlt]
    clear hlt
    have hOL : O.length ≤ 60 := by omega
    obtain ⟨M, hM⟩ : ∃ M, (byNear x0 y0 O).take (nearK K0 O.length) = M := ⟨_, rfl⟩
    have HMl : Hid (M.length ≤ 60) := Lib.hid (by rw [← hM, List.length_take, byNear_length]; omega)
    have HNr : Hid (∀ W', Below w5.heap.size w5 W' → Calls Try.prog 36 #[.pointer (some ⟨g, 0, none⟩), .int .u32 (x0 : Nat), .int .u32 (y0 : Nat), .int .i64 K0] W' fun e w' => ∃ v', e = .returned v' ∧ PRow w' v' M ∧ Below W'.heap.size W' w') := Lib.hid (fun W' hb => by rw [← hM]; exact near_ok (HR.out.below hb).m (by omega) HR.out.fi x0 y0 HXY.out.1 HXY.out.2.1 K0 HXY.out.2.2)
    have HNx : Hid (∀ W', Below w5.heap.size w5 W' → Calls Try.prog 37 #[.slice Ao O.length co, .int .u32 (x0 : Nat), .int .u32 (y0 : Nat), .int .i64 K0] W' fun e w' => ∃ v', e = .returned v' ∧ PRow w' v' M ∧ Below W'.heap.size W' w') := Lib.hid (fun W' hb => by rw [← hM]; exact near03_ok (.slice Ao O.length co) O x0 y0 K0 W' (srd_own PtS.cells_len (by decide) (HR.out.below hb).o) (by omega) HR.out.fi HXY.out.1 HXY.out.2.1 HXY.out.2.2)
    clear hM
    go_upto_region 37 with (fail)
    have HD0 := Lib.hid (below_drew1 (w := w5))
    have HSame := Lib.hid (fun (v1 v2 : Value) (M : List PtS) W (h1 : PRow W v1 M) (h2 : PRow W v2 M) (hM : M.length ≤ 60) => points_same v1 v2 M W h1 h2 (by omega))
    have HSt : Hid (∀ W', Below w5.heap.size w5 W' → (W'.cell? ⟨w.heap.size, 0, none⟩ = some (.int .u32 (r.x0 : Nat)) ∧ W'.cell? ⟨w.heap.size, 1, none⟩ = some (.int .u32 (r.y0 : Nat)) ∧ W'.cell? ⟨w.heap.size, 2, none⟩ = some (.int .u32 (r.x1 : Nat)) ∧ W'.cell? ⟨w.heap.size, 3, none⟩ = some (.int .u32 (r.y1 : Nat)))) := Lib.hid (fun W' hb => cells4 (block_up HR.out.rc hb))
    refine beginS (S := fun W' => (W'.cell? ⟨w.heap.size, 0, none⟩ = some (.int .u32 (r.x0 : Nat)) ∧ W'.cell? ⟨w.heap.size, 1, none⟩ = some (.int .u32 (r.y0 : Nat)) ∧ W'.cell? ⟨w.heap.size, 2, none⟩ = some (.int .u32 (r.x1 : Nat)) ∧ W'.cell? ⟨w.heap.size, 3, none⟩ = some (.int .u32 (r.y1 : Nat)))) [] (by kernel_rfl) (HSt.out _ HD0.out) (fun hHeld0 => ?_)
    generalize (World.drew w5) = W0 at *
    refine takeF (i := 0) (v := ?_) rfl (by kernel_rfl) (fun _ _ _ h => h) (Or.inl ⟨by kernel_rfl, ?_⟩) (by assumption) ?_; rotate_left; (focus (intro w _; go_simp; (try with_reducible rfl); done)); (try simp only [Act.put, List.getElem_toArray, List.getElem_cons_succ, List.getElem_cons_zero, List.setIfInBounds_toArray, List.set_cons_zero, List.set_cons_succ])
    refine takeH (i := 1) (v := ?_) rfl (by kernel_rfl) (fun _ _ _ h => h) (Or.inl ⟨by kernel_rfl, ?_⟩) (by assumption) ?_; rotate_left; (focus (intro w hSw; (try dsimp only at hSw); go_simp; (try with_reducible rfl); done)); (try simp only [Act.put, List.getElem_toArray, List.getElem_cons_succ, List.getElem_cons_zero, List.setIfInBounds_toArray, List.set_cons_zero, List.set_cons_succ])
    refine takeF (i := 3) (v := ?_) rfl (by kernel_rfl) (fun _ _ _ h => h) (Or.inl ⟨by kernel_rfl, ?_⟩) (by assumption) ?_; rotate_left; (focus (intro w _; go_simp; (try with_reducible rfl); done)); (try simp only [Act.put, List.getElem_toArray, List.getElem_cons_succ, List.getElem_cons_zero, List.setIfInBounds_toArray, List.set_cons_zero, List.set_cons_succ])
    refine takeH (i := 4) (v := ?_) rfl (by kernel_rfl) (fun _ _ _ h => h) (Or.inl ⟨by kernel_rfl, ?_⟩) (by assumption) ?_; rotate_left; (focus (intro w hSw; (try dsimp only at hSw); go_simp; (try with_reducible rfl); done)); (try simp only [Act.put, List.getElem_toArray, List.getElem_cons_succ, List.getElem_cons_zero, List.setIfInBounds_toArray, List.set_cons_zero, List.set_cons_succ])
    clear hHeld0
    refine readyS (rs := [2]) (by kernel_rfl) (by simp) ?_
    refine ReadyS.consH rfl (fun K hK => ?_) ReadyS.nil
    (try simp only [List.getElem_toArray, List.getElem_cons_succ, List.getElem_cons_zero])
    go_simp
    (with_reducible refine (range_ok (HR.out.below HD0.out).m (by omega) r).mono ?_); rintro e W1 ⟨v1, rfl, ho1, hb1⟩
    have HD1 := Lib.hid (below_up HD0.out hb1)
    have HO1 := Lib.hid (srd_own PtS.cells_len (by decide) ho1)
    obtain ⟨A1, c1, rfl, _, _, _, _⟩ := own_rd ho1
    clear ho1 hb1
    refine hK.out _ _ (HSt.out _ HD1.out) (fun hHeld0 => ?_)
    clear hK K hHeld0
    (try simp only [Act.put, List.getElem_toArray, List.getElem_cons_succ, List.getElem_cons_zero, List.setIfInBounds_toArray, List.set_cons_zero, List.set_cons_succ])
    refine readyS (rs := [5]) (by kernel_rfl) (by simp) ?_
    refine ReadyS.consH rfl (fun K hK => ?_) ReadyS.nil
    (try simp only [List.getElem_toArray, List.getElem_cons_succ, List.getElem_cons_zero])
    go_simp
    (with_reducible refine (pick_ok (.slice Ao O.length co) O r W1 (srd_own PtS.cells_len (by decide) (HR.out.below HD1.out).o) (by omega)).mono ?_); rintro e W2 ⟨v2, rfl, ho2, hb2⟩
    have HD2 := Lib.hid (below_up HD1.out hb2)
    have HS2 := Lib.hid (HSame.out _ v2 _ W2 (HO1.out.below hb2) (srd_own PtS.cells_len (by decide) ho2) (Nat.le_trans (List.length_filter_le _ _) hOL))
    obtain ⟨A2, c2, rfl, _, _, _, _⟩ := own_rd ho2
    clear ho2 hb2 HO1
    refine hK.out _ _ (HSt.out _ HD2.out) (fun hHeld0 => ?_)
    clear hK K hHeld0
    (try simp only [Act.put, List.getElem_toArray, List.getElem_cons_succ, List.getElem_cons_zero, List.setIfInBounds_toArray, List.set_cons_zero, List.set_cons_succ])
    refine readyS (rs := [6]) (by kernel_rfl) (by simp) ?_
    refine ReadyS.consH rfl (fun K hK => ?_) ReadyS.nil
    (try simp only [List.getElem_toArray, List.getElem_cons_succ, List.getElem_cons_zero])
    go_simp
    (with_reducible refine HS2.out.mono ?_); rintro e W3 ⟨rfl, hb3⟩
    have HD3 := Lib.hid (below_up HD2.out hb3)
    clear hb3
    refine hK.out _ _ (HSt.out _ HD3.out) (fun hHeld0 => ?_)
    clear hK K
    (try simp only [Act.put, List.getElem_toArray, List.getElem_cons_succ, List.getElem_cons_zero, List.setIfInBounds_toArray, List.set_cons_zero, List.set_cons_succ])
    refine takeF (i := 7) (v := ?_) rfl (by kernel_rfl) (fun _ _ _ h => h) (Or.inl ⟨by kernel_rfl, ?_⟩) (by assumption) ?_; rotate_left; (focus (intro w _; go_simp; (try with_reducible rfl); done)); (try simp only [Act.put, List.getElem_toArray, List.getElem_cons_succ, List.getElem_cons_zero, List.setIfInBounds_toArray, List.set_cons_zero, List.set_cons_succ])
    refine takeF (i := 8) (v := ?_) rfl (by kernel_rfl) (fun _ _ _ h => h) (Or.inl ⟨by kernel_rfl, ?_⟩) (by assumption) ?_; rotate_left; (focus (intro w _; go_simp; (try with_reducible rfl); done)); (try simp only [Act.put, List.getElem_toArray, List.getElem_cons_succ, List.getElem_cons_zero, List.setIfInBounds_toArray, List.set_cons_zero, List.set_cons_succ])
    refine takeF (i := 9) (v := ?_) rfl (by kernel_rfl) (fun _ _ _ h => h) (Or.inl ⟨by kernel_rfl, ?_⟩) (by assumption) ?_; rotate_left; (focus (intro w _; go_simp; (try with_reducible rfl); done)); (try simp only [Act.put, List.getElem_toArray, List.getElem_cons_succ, List.getElem_cons_zero, List.setIfInBounds_toArray, List.set_cons_zero, List.set_cons_succ])
    refine takeF (i := 10) (v := ?_) rfl (by kernel_rfl) (fun _ _ _ h => h) (Or.inl ⟨by kernel_rfl, ?_⟩) (by assumption) ?_; rotate_left; (focus (intro w _; go_simp; (try with_reducible rfl); done)); (try simp only [Act.put, List.getElem_toArray, List.getElem_cons_succ, List.getElem_cons_zero, List.setIfInBounds_toArray, List.set_cons_zero, List.set_cons_succ])
    refine takeF (i := 11) (v := ?_) rfl (by kernel_rfl) (fun _ _ _ h => h) (Or.inl ⟨by kernel_rfl, ?_⟩) (by assumption) ?_; rotate_left; (focus (intro w _; go_simp; (try with_reducible rfl); done)); (try simp only [Act.put, List.getElem_toArray, List.getElem_cons_succ, List.getElem_cons_zero, List.setIfInBounds_toArray, List.set_cons_zero, List.set_cons_succ])
    refine takeF (i := 13) (v := ?_) rfl (by kernel_rfl) (fun _ _ _ h => h) (Or.inl ⟨by kernel_rfl, ?_⟩) (by assumption) ?_; rotate_left; (focus (intro w _; go_simp; (try with_reducible rfl); done)); (try simp only [Act.put, List.getElem_toArray, List.getElem_cons_succ, List.getElem_cons_zero, List.setIfInBounds_toArray, List.set_cons_zero, List.set_cons_succ])
    refine takeF (i := 14) (v := ?_) rfl (by kernel_rfl) (fun _ _ _ h => h) (Or.inl ⟨by kernel_rfl, ?_⟩) (by assumption) ?_; rotate_left; (focus (intro w _; go_simp; (try with_reducible rfl); done)); (try simp only [Act.put, List.getElem_toArray, List.getElem_cons_succ, List.getElem_cons_zero, List.setIfInBounds_toArray, List.set_cons_zero, List.set_cons_succ])
    refine takeF (i := 15) (v := ?_) rfl (by kernel_rfl) (fun _ _ _ h => h) (Or.inl ⟨by kernel_rfl, ?_⟩) (by assumption) ?_; rotate_left; (focus (intro w _; go_simp; (try with_reducible rfl); done)); (try simp only [Act.put, List.getElem_toArray, List.getElem_cons_succ, List.getElem_cons_zero, List.setIfInBounds_toArray, List.set_cons_zero, List.set_cons_succ])
    refine takeF (i := 16) (v := ?_) rfl (by kernel_rfl) (fun _ _ _ h => h) (Or.inl ⟨by kernel_rfl, ?_⟩) (by assumption) ?_; rotate_left; (focus (intro w _; go_simp; (try with_reducible rfl); done)); (try simp only [Act.put, List.getElem_toArray, List.getElem_cons_succ, List.getElem_cons_zero, List.setIfInBounds_toArray, List.set_cons_zero, List.set_cons_succ])
    clear hHeld0
    refine readyS (rs := [12]) (by kernel_rfl) (by simp) ?_
    refine ReadyS.consH rfl (fun K hK => ?_) ReadyS.nil
    (try simp only [List.getElem_toArray, List.getElem_cons_succ, List.getElem_cons_zero])
    go_simp
    (with_reducible refine (HNr.out _ HD3.out).mono ?_); rintro e W4 ⟨v4, rfl, ho4, hb4⟩
    have HD4 := Lib.hid (below_up HD3.out hb4)
    have HO4 := Lib.hid ho4
    obtain ⟨A4, c4, rfl, _, _⟩ := ho4
    clear hb4
    refine hK.out _ _ (HSt.out _ HD4.out) (fun hHeld0 => ?_)
    clear hK K hHeld0
    (try simp only [Act.put, List.getElem_toArray, List.getElem_cons_succ, List.getElem_cons_zero, List.setIfInBounds_toArray, List.set_cons_zero, List.set_cons_succ])
    refine readyS (rs := [17]) (by kernel_rfl) (by simp) ?_
    refine ReadyS.consH rfl (fun K hK => ?_) ReadyS.nil
    (try simp only [List.getElem_toArray, List.getElem_cons_succ, List.getElem_cons_zero])
    go_simp
    (with_reducible refine (HNx.out _ HD4.out).mono ?_); rintro e W5 ⟨v5, rfl, ho5, hb5⟩
    have HD5 := Lib.hid (below_up HD4.out hb5)
    have HS5 := Lib.hid (HSame.out _ v5 _ W5 (HO4.out.below hb5) ho5 HMl.out)
    obtain ⟨A5, c5, rfl, _, _⟩ := ho5
    clear hb5 HO4
    refine hK.out _ _ (HSt.out _ HD5.out) (fun hHeld0 => ?_)
    clear hK K hHeld0
    (try simp only [Act.put, List.getElem_toArray, List.getElem_cons_succ, List.getElem_cons_zero, List.setIfInBounds_toArray, List.set_cons_zero, List.set_cons_succ])
    refine readyS (rs := [18]) (by kernel_rfl) (by simp) ?_
    refine ReadyS.consH rfl (fun K hK => ?_) ReadyS.nil
    (try simp only [List.getElem_toArray, List.getElem_cons_succ, List.getElem_cons_zero])
    go_simp
    (with_reducible refine HS5.out.mono ?_); rintro e W6 ⟨rfl, hb6⟩
    have HD6 := Lib.hid (below_up HD5.out hb6)
    clear hb6
    refine hK.out _ _ (HSt.out _ HD6.out) (fun hHeld0 => ?_)
    clear hK K
    (try simp only [Act.put, List.getElem_toArray, List.getElem_cons_succ, List.getElem_cons_zero, List.setIfInBounds_toArray, List.set_cons_zero, List.set_cons_succ])
    refine takeF (i := 19) (v := ?_) rfl (by kernel_rfl) (fun _ _ _ h => h) (Or.inl ⟨by kernel_rfl, ?_⟩) (by assumption) ?_; rotate_left; (focus (intro w _; go_simp; (try with_reducible rfl); done)); (try simp only [Act.put, List.getElem_toArray, List.getElem_cons_succ, List.getElem_cons_zero, List.setIfInBounds_toArray, List.set_cons_zero, List.set_cons_succ])
    refine takeF (i := 20) (v := ?_) rfl (by kernel_rfl) (fun _ _ _ h => h) (Or.inl ⟨by kernel_rfl, ?_⟩) (by assumption) ?_; rotate_left; (focus (intro w _; go_simp; (try with_reducible rfl); done)); (try simp only [Act.put, List.getElem_toArray, List.getElem_cons_succ, List.getElem_cons_zero, List.setIfInBounds_toArray, List.set_cons_zero, List.set_cons_succ])
    refine takeF (i := 21) (v := ?_) rfl (by kernel_rfl) (fun _ _ _ h => h) (Or.inl ⟨by kernel_rfl, ?_⟩) (by assumption) ?_; rotate_left; (focus (intro w _; go_simp; (try with_reducible rfl); done)); (try simp only [Act.put, List.getElem_toArray, List.getElem_cons_succ, List.getElem_cons_zero, List.setIfInBounds_toArray, List.set_cons_zero, List.set_cons_succ])
    refine takeF (i := 23) (v := ?_) rfl (by kernel_rfl) (fun _ _ _ h => h) (Or.inl ⟨by kernel_rfl, ?_⟩) (by assumption) ?_; rotate_left; (focus (intro w _; go_simp; (try with_reducible rfl); done)); (try simp only [Act.put, List.getElem_toArray, List.getElem_cons_succ, List.getElem_cons_zero, List.setIfInBounds_toArray, List.set_cons_zero, List.set_cons_succ])
    clear hHeld0
    refine readyS (rs := [22]) (by kernel_rfl) (by simp) ?_
    refine ReadyS.consH rfl (fun K hK => ?_) ReadyS.nil
    (try simp only [List.getElem_toArray, List.getElem_cons_succ, List.getElem_cons_zero])
    go_simp
    (with_reducible refine (points_ok (HR.out.below HD6.out).m (by omega)).mono ?_); rintro e W7 ⟨v7, rfl, ho7, hb7⟩
    have HD7 := Lib.hid (below_up HD6.out hb7)
    have HS7 := same_ok v7 (.slice Ao O.length co) O O W7 (srd_own PtS.cells_len (by decide) ho7) (srd_own PtS.cells_len (by decide) (HR.out.below HD7.out).o) (by omega) (by omega)
    rw [eqL_t rfl] at HS7
    have HS7 := Lib.hid HS7
    obtain ⟨A7, c7, rfl, _, _, _, _⟩ := own_rd ho7
    clear hb7 ho7
    refine hK.out _ _ (HSt.out _ HD7.out) (fun hHeld0 => ?_)
    clear hK K hHeld0
    (try simp only [Act.put, List.getElem_toArray, List.getElem_cons_succ, List.getElem_cons_zero, List.setIfInBounds_toArray, List.set_cons_zero, List.set_cons_succ])
    refine readyS (rs := [24]) (by kernel_rfl) (by simp) ?_
    refine ReadyS.consH rfl (fun K hK => ?_) ReadyS.nil
    (try simp only [List.getElem_toArray, List.getElem_cons_succ, List.getElem_cons_zero])
    go_simp
    (with_reducible refine HS7.out.mono ?_); rintro e W8 ⟨rfl, hb8⟩
    have HD8 := Lib.hid (below_up HD7.out hb8)
    clear hb8
    refine hK.out _ _ (HSt.out _ HD8.out) (fun hHeld0 => ?_)
    clear hK K
    (try simp only [Act.put, List.getElem_toArray, List.getElem_cons_succ, List.getElem_cons_zero, List.setIfInBounds_toArray, List.set_cons_zero, List.set_cons_succ])
    refine takeF (i := 25) (v := ?_) rfl (by kernel_rfl) (fun _ _ _ h => h) (Or.inl ⟨by kernel_rfl, ?_⟩) (by assumption) ?_; rotate_left; (focus (intro w _; go_simp; (try with_reducible rfl); done)); (try simp only [Act.put, List.getElem_toArray, List.getElem_cons_succ, List.getElem_cons_zero, List.setIfInBounds_toArray, List.set_cons_zero, List.set_cons_succ])
    refine takeF (i := 26) (v := ?_) rfl (by kernel_rfl) (fun _ _ _ h => h) (Or.inl ⟨by kernel_rfl, ?_⟩) (by assumption) ?_; rotate_left; (focus (intro w _; go_simp; (try with_reducible rfl); done)); (try simp only [Act.put, List.getElem_toArray, List.getElem_cons_succ, List.getElem_cons_zero, List.setIfInBounds_toArray, List.set_cons_zero, List.set_cons_succ])
    clear hHeld0
    refine doneS (by kernel_rfl) ?_ _
    go_wp2
    go_ret
    exact ⟨rfl, below_up HR.out.be HD8.out⟩
end Go.Proofs.Ytdomngpkahgoiaa.Md
