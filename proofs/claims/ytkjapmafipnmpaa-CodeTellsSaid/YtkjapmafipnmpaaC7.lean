/- The walk over croftlaw30.CodeTells. -/
import Derived.Test.YtkjapmafipnmpaaC5
import Derived.Test.YtkjapmafipnmpaaC4
namespace Go.Proofs.Ytkjapmafipnmpaa.Cd
open Go.RowKit Lt
set_option linter.unusedVariables false
set_option linter.unusedSimpArgs false
/-- The octets of the steps that may be. -/
def allOf (l : List StepS) : List UInt8 := l.foldl (fun b s => b ++ (if s.chk = 0 then oct s else [])) []
theorem allOf_succ (l : List StepS) (k : Nat) (h : k < l.length) : allOf (l.take (k + 1)) = allOf (l.take k) ++ (if l[k].chk = 0 then oct l[k] else []) := by unfold allOf; rw [List.take_succ_eq_append_getElem h, List.foldl_append]; rfl
theorem oct_len {s : StepS} (h : s.chk = 0) : (oct s).length ≤ 1000 := by
  obtain ⟨_, _, _, h4, h5⟩ := StepS.chk_zero h
  have hm : ∀ l : List Int, ((l.map fun n => numB 2 n.toNat).flatten).length = 2 * l.length := by
    intro l
    induction l with
    | nil => rfl
    | cons a l ih => rw [List.map_cons, List.flatten_cons, List.length_append, ih, numB_length, List.length_cons]; omega
  unfold oct ch
  rw [List.flatten_append, List.length_append, hm]
  simp only [List.flatten_cons, List.flatten_nil, List.length_append, numB_length, List.length_nil, blen]
  omega
theorem allOf_len : ∀ (l : List StepS) (k : Nat), k ≤ l.length → (allOf (l.take k)).length ≤ 1000 * k
  | l, 0, _ => by simp [allOf]
  | l, k + 1, h => by
    have ih := allOf_len l k (by omega)
    rw [allOf_succ l k (by omega), List.length_append]
    split
    · next hc => have := oct_len hc; omega
    · simp; omega
theorem allOf_octs {l : List StepS} (h : ∀ s ∈ l, s.chk = 0) : allOf l = octs l := by
  have gen : ∀ (l : List StepS) (b : List UInt8), (∀ s ∈ l, s.chk = 0) → l.foldl (fun b s => b ++ (if s.chk = 0 then oct s else [])) b = b ++ l.flatMap oct := by
    intro l
    induction l with
    | nil => intro b _; simp
    | cons s l ih =>
      intro b h
      rw [List.foldl_cons, if_pos (h s (List.mem_cons_self)), ih _ (fun t ht => h t (List.mem_cons_of_mem _ ht)), List.flatMap_cons, List.append_assoc]
  unfold allOf
  rw [gen l [] h, octs_eq, List.nil_append]
theorem any_succ (f : List Int) (k : Nat) (hk : k < f.length) : (f.take (k + 1)).any oddF = ((f.take k).any oddF || oddF f[k]) := any_take_succ oddF f k hk
theorem srd_take {w : World} {A : Option Addr} {c : Nat} {l : List StepS} (h : SRd 8 StepS.cells w (.slice A l.length c) l) : (l.length ≤ 60 → l.take 60 = l) ∧ (60 < l.length → SRd 8 StepS.cells w (.slice A 60 c) (l.take 60)) :=
  ⟨fun h => List.take_of_length_le h, fun h2 => h.take StepS.cells_len (by omega) c (by have := h.len.2; omega)⟩
theorem chk_ways (x : StepS) : (x.kind < 1 ∧ x.chk = 12) ∨ (1 ≤ x.kind ∧ 13 < x.kind ∧ x.chk = 12) ∨ (1 ≤ x.kind ∧ x.kind ≤ 13 ∧ x.a < 0 ∧ x.chk = 4) ∨ (1 ≤ x.kind ∧ x.kind ≤ 13 ∧ 0 ≤ x.a ∧ 4294967296 ≤ x.a ∧ x.chk = 4) ∨
    (1 ≤ x.kind ∧ x.kind ≤ 13 ∧ 0 ≤ x.a ∧ x.a < 4294967296 ∧ x.f.any oddF = true ∧ x.chk = 4) ∨
    (1 ≤ x.kind ∧ x.kind ≤ 13 ∧ 0 ≤ x.a ∧ x.a < 4294967296 ∧ x.f.any oddF = false ∧ 255 < x.d.size ∧ x.chk = 5) ∨
    (1 ≤ x.kind ∧ x.kind ≤ 13 ∧ 0 ≤ x.a ∧ x.a < 4294967296 ∧ x.f.any oddF = false ∧ x.d.size ≤ 255 ∧ 255 < x.f.length ∧ x.chk = 5) ∨
    (1 ≤ x.kind ∧ x.kind ≤ 13 ∧ 0 ≤ x.a ∧ x.a < 4294967296 ∧ x.f.any oddF = false ∧ x.d.size ≤ 255 ∧ x.f.length ≤ 255 ∧ x.chk = 0) := by
  unfold StepS.chk
  by_cases h1 : x.kind < 1 ∨ 13 < x.kind
  · rw [if_pos h1]; omega
  · rw [if_neg h1]
    by_cases h2 : x.a < 0 ∨ 4294967295 < x.a ∨ x.f.any oddF = true
    · rw [if_pos h2]
      cases hb : x.f.any oddF
      · rw [hb] at h2; have h2' : x.a < 0 ∨ 4294967295 < x.a := by rcases h2 with h | h | h; exact .inl h; exact .inr h; cases h
        simp; omega
      · simp; omega
    · rw [if_neg h2]
      have hb : x.f.any oddF = false := by cases hb : x.f.any oddF; rfl; exact absurd (.inr (.inr hb)) h2
      have ha : 0 ≤ x.a ∧ x.a < 4294967296 := by omega
      by_cases h3 : 255 < x.d.size ∨ 255 < x.f.length
      · rw [if_pos h3]; simp [hb]; omega
      · rw [if_neg h3]; simp [hb]; omega
set_option maxHeartbeats 8000000 in
set_option maxRecDepth 100000 in
theorem ctells_walk (v : Value) (l0 : List StepS) (w : World) (hv : SRd 8 StepS.cells w v l0) (hf : ∀ s ∈ l0, s.fine w) (hl : l0.length ≤ 140737488355328) :
    Calls Try.prog 4 #[v] w fun e w' => e = .returned (.bool true) ∧ Below w.heap.size w w' := by
  have HV0 := Lib.hid (And.intro hv hf)
  obtain ⟨A, c, rfl, hlc, _⟩ := id hv
  obtain ⟨ht1, ht2⟩ := srd_take hv
  have hm : ∀ s ∈ l0.take 60, s.fine w := fun s hs => hf s (List.mem_of_mem_take hs)
  have hml : (l0.take 60).length ≤ 60 := List.length_take_le _ _
  have HT := Lib.hid (And.intro ht1 (And.intro ht2 hm)); clear ht1 ht2 hm hf hv
  go_enter Try.func4, Try.ntmps4
  go_wp2_with fail
  refine (alive_ok _).mono ?_; rintro e w1 ⟨rfl, hb⟩
  have H1 := Lib.hid hb; clear hb
  go_upto_if 16 with (fail)
  go_cut [0] (fun v0 wx => (∃ c', v0 = .slice A (l0.take 60).length c' ∧ SRd 8 StepS.cells w (.slice A (l0.take 60).length c') (l0.take 60)) ∧ wx = w1)
  case first =>
    by_cases h60 : 60 < l0.length
    · have d1 : decide ((60 : Int) < l0.length) = true := decide_eq_true (by omega)
      have e1 : (l0.take 60).length = 60 := by rw [List.length_take]; omega
      have b1 : (60 : Int) ≤ c := by omega
      have HS := HT.out.2.1 h60
      have HE := Lib.hid e1; clear e1
      go_wp2
      go_meet
      case rel => exact ⟨⟨c, by rw [HE.out], by rw [HE.out]; exact HS⟩, rfl⟩
    · have d1 : decide ((60 : Int) < l0.length) = false := decide_eq_false (by omega)
      have e1 := HT.out.1 (by omega)
      have HE := Lib.hid e1; clear e1
      go_wp2
      go_meet
      case rel => exact ⟨⟨c, by rw [HE.out], by rw [HE.out]; exact HV0.out.1⟩, rfl⟩
  case rest =>
  obtain ⟨⟨c', rfl, hsr⟩, hw⟩ := hcut
  replace hw := hw.symm; subst hw
  have hfm := HT.out.2.2
  obtain ⟨l, hl'⟩ : ∃ l, l0.take 60 = l := ⟨_, rfl⟩
  rw [hl'] at hsr hfm hml ⊢
  have HL := Lib.hid (And.intro hsr hfm); clear hsr hfm hl' hlc hl HT HV0
  go_wp2_with fail
  go_loopw [3, 4, 5] (fun v3 v4 vi W => ∃ k : Nat, k ≤ l.length ∧ vi = .int .i64 k ∧ v4 = .int .i64 (fe (l.take k)) ∧ W.ownsRow w1.heap.size 5 1 v3 (allOf (l.take k)).length (bv (allOf (l.take k))) ∧ Below w1.heap.size w1 W) (fun _ _ vi _ => l.length - (intOf vi).toNat)
  case atStart => exact ⟨0, by omega, rfl, rfl, World.ownsRow_nil _ _ _ _, Below.refl _ _⟩
  obtain ⟨k, hk, rfl, rfl, hown, hbel⟩ := hrel
  obtain ⟨A3, c3, rfl, _⟩ := own_rd hown
  have HR := Lib.hid (And.intro hown (And.intro hbel (below_up H1.out hbel))); clear hown hbel
  by_cases hlt : k < l.length
  · have dk : decide ((k : Int) < l.length) = true := decide_eq_true (by omega)
    obtain ⟨g, o, rfl, _, hcc⟩ := HL.out.1.get StepS.cells_len (by decide) hlt
    have c0 := cell_up (hcc 0 (by decide)) HR.out.2.2
    have c1 := cell_up (hcc 1 (by decide)) HR.out.2.2
    have c2 := cell_up (hcc 2 (by decide)) HR.out.2.2
    have c3' := cell_up (hcc 3 (by decide)) HR.out.2.2
    have c4 := cell_up (hcc 4 (by decide)) HR.out.2.2
    have c5 := cell_up (hcc 5 (by decide)) HR.out.2.2
    have c6 := cell_up (hcc 6 (by decide)) HR.out.2.2
    have c7 := cell_up (hcc 7 (by decide)) HR.out.2.2
    have hxf := HL.out.2 _ (List.getElem_mem hlt)
    have hs1 := fe_succ l k hlt
    have hs2 := allOf_succ l k hlt
    have hal := allOf_len l k (by omega)
    clear hcc
    generalize l[k] = x at *
    simp only [Nat.add_zero, StepS.cells, List.getElem?_cons_zero, List.getElem?_cons_succ] at c0 c1 c2 c3' c4 c5 c6 c7
    obtain ⟨Ax, cx, hxv, _, _⟩ := id hxf.2.2.2.2.1
    rw [hxv] at c7
    have hz := alloc_at (w := wr) (.cells #[.int .i64 x.kind, .int .i64 x.a, .int .u32 (x.x : Nat), .int .u32 (x.y : Nat), .int .u32 (x.x1 : Nat), .int .u32 (x.y1 : Nat), .string x.d, .slice Ax x.f.length cx] 45) rfl
    have ha := below_alloc1 wr (.cells #[.int .i64 x.kind, .int .i64 x.a, .int .u32 (x.x : Nat), .int .u32 (x.y : Nat), .int .u32 (x.x1 : Nat), .int .u32 (x.y1 : Nat), .string x.d, .slice Ax x.f.length cx] 45)
    have hird := hxf.2.2.2.2.1
    rw [hxv] at hird
    have hck := fun (W : World) (hb : Below w.heap.size w W) => chk_ok x W (hxf.below hb)
    have hoc := fun (W : World) (hb : Below w.heap.size w W) (hc : x.chk = 0) => octets_ok x W (hxf.below hb) hc
    have hways := chk_ways x
    have hol := oct_len (s := x)
    simp only [cv, hxv] at hck hoc
    obtain ⟨FK, hFK⟩ : ∃ e, fe (l.take k) = e := ⟨_, rfl⟩
    obtain ⟨LA, hLA⟩ : ∃ e, allOf (l.take k) = e := ⟨_, rfl⟩
    obtain ⟨OX, hOX⟩ : ∃ e, oct x = e := ⟨_, rfl⟩
    obtain ⟨E, hE⟩ : ∃ e, x.chk = e := ⟨_, rfl⟩
    rw [hFK, hE] at hs1
    rw [hLA, hE, hOX] at hs2
    rw [hLA] at hal
    simp only [hE] at hck hways hoc hol
    simp only [hOX] at hoc hol
    have hown := HR.out.1
    rw [hLA] at hown
    rw [hFK, hLA]
    obtain ⟨k1, k2, k3, k4, k5, k6, k7⟩ := hxf
    have HX := Lib.hid (And.intro hck (And.intro hoc (And.intro hways (And.intro hol (And.intro hs1 (And.intro hs2 (And.intro hal (And.intro hird (And.intro hown (And.intro hz (below_up HR.out.2.1 ha)))))))))))
    have HXB := Lib.hid (And.intro (below_up HR.out.2.2 ha) ha)
    clear hck hoc hways hol hs1 hs2 hal hird hown hz ha hxv hFK hLA hOX hE k1 k2 k3 k4 k5 k6
    go_upto_region 13 with (fail)
    generalize (wr.alloc _) = wa at *
    obtain ⟨q0, q1, q2, q3, q4, q5, q6, q7⟩ := cells8 HX.out.2.2.2.2.2.2.2.2.2.1
    clear c0 c1 c2 c3' c4 c5 c6 c7
    go_wp2_with fail
    go_loop [8, 9] (fun v8 vj => ∃ j : Nat, j ≤ x.f.length ∧ vj = .int .i64 j ∧ v8 = .bool ((x.f.take j).any oddF)) (fun _ vj => x.f.length - (intOf vj).toNat)
    case atStart => exact ⟨0, by omega, rfl, rfl⟩
    case round =>
    obtain ⟨j, hj, rfl, rfl⟩ := hrel
    by_cases hjl : j < x.f.length
    · have dj : decide ((j : Int) < x.f.length) = true := decide_eq_true (by omega)
      obtain ⟨ad, rfl, hcell⟩ := (HX.out.2.2.2.2.2.2.2.1.below HXB.out.1).get hjl
      have hs3 := any_succ x.f j hjl
      have bj : (j : Int) < x.f.length := by omega
      obtain ⟨FO, hFO⟩ : ∃ b, (x.f.take j).any oddF = b := ⟨_, rfl⟩
      rw [hFO] at hs3 ⊢
      generalize x.f[j] = z at *
      have HS3 := Lib.hid hs3; clear hs3 hFO
      cases FO with
      | true =>
        go_wp2
        exact ⟨⟨j + 1, by omega, by simp, by rw [HS3.out]; rfl⟩, by simp [intOf]; omega⟩
      | false =>
        by_cases h1 : z < 0
        · have d1 : decide (z < 0) = true := decide_eq_true h1
          have HO := Lib.hid (show oddF z = true by simp [oddF, h1])
          go_wp2
          exact ⟨⟨j + 1, by omega, by simp, by rw [HS3.out, HO.out]; rfl⟩, by simp [intOf]; omega⟩
        · have d1 : decide (z < 0) = false := decide_eq_false h1
          by_cases h2 : 65535 < z
          · have d2 : decide (65535 < z) = true := decide_eq_true h2
            have HO := Lib.hid (show oddF z = true by simp [oddF, h2])
            go_wp2
            exact ⟨⟨j + 1, by omega, by simp, by rw [HS3.out, HO.out]; rfl⟩, by simp [intOf]; omega⟩
          · have d2 : decide (65535 < z) = false := decide_eq_false h2
            have HO := Lib.hid (show oddF z = false by simp [oddF]; omega)
            go_wp2
            exact ⟨⟨j + 1, by omega, by simp, by rw [HS3.out, HO.out]; rfl⟩, by simp [intOf]; omega⟩
    obtain rfl : j = x.f.length := by omega
    have dj : decide ((x.f.length : Int) < x.f.length) = false := decide_eq_false (by omega)
    rw [List.take_length]
    obtain ⟨OB, hOB⟩ : ∃ b, x.f.any oddF = b := ⟨_, rfl⟩
    have hways := HX.out.2.2.1
    rw [hOB] at hways ⊢
    have HW := Lib.hid hways; clear hways hOB
    go_upto_block 4 with (fail)
    go_cut [3, 7] (fun v3 v7 wx => v7 = .int .i64 E ∧ wx.ownsRow w1.heap.size 5 1 v3 (LA ++ (if E = 0 then OX else [])).length (bv (LA ++ (if E = 0 then OX else []))) ∧ wx.heap[wr.heap.size]? = some (.cells #[.int .i64 x.kind, .int .i64 x.a, .int .u32 (x.x : Nat), .int .u32 (x.y : Nat), .int .u32 (x.x1 : Nat), .int .u32 (x.y1 : Nat), .string x.d, .slice Ax x.f.length cx] 45 (0, 0)) ∧ Below w1.heap.size w1 wx)
    case first =>
      have HO2 := Lib.hid (own_below HX.out.2.2.2.2.2.2.2.2.1 HXB.out.2)
      rcases HW.out with ⟨h1, rfl⟩ | ⟨h1, h2, rfl⟩ | ⟨h1, h2, h3, rfl⟩ | ⟨h1, h2, h3, h4, rfl⟩ | ⟨h1, h2, h3, h4, rfl, rfl⟩ | ⟨h1, h2, h3, h4, rfl, h5, rfl⟩ | ⟨h1, h2, h3, h4, rfl, h5, h6, rfl⟩ | ⟨h1, h2, h3, h4, rfl, h5, h6, rfl⟩
      · have d1 : decide (x.kind < 1) = true := decide_eq_true (by omega)
        clear HW
        go_wp2
        go_meet
        case rel => exact ⟨rfl, by rw [if_neg (by decide), List.append_nil]; exact HO2.out, HX.out.2.2.2.2.2.2.2.2.2.1, HX.out.2.2.2.2.2.2.2.2.2.2⟩
      · have d1 : decide (x.kind < 1) = false := decide_eq_false (by omega)
        have d2 : decide (13 < x.kind) = true := decide_eq_true (by omega)
        clear HW
        go_wp2
        go_meet
        case rel => exact ⟨rfl, by rw [if_neg (by decide), List.append_nil]; exact HO2.out, HX.out.2.2.2.2.2.2.2.2.2.1, HX.out.2.2.2.2.2.2.2.2.2.2⟩
      · have d1 : decide (x.kind < 1) = false := decide_eq_false (by omega)
        have d2 : decide (13 < x.kind) = false := decide_eq_false (by omega)
        have d3 : decide (x.a < 0) = true := decide_eq_true (by omega)
        clear HW
        go_wp2
        go_meet
        case rel => exact ⟨rfl, by rw [if_neg (by decide), List.append_nil]; exact HO2.out, HX.out.2.2.2.2.2.2.2.2.2.1, HX.out.2.2.2.2.2.2.2.2.2.2⟩
      · have d1 : decide (x.kind < 1) = false := decide_eq_false (by omega)
        have d2 : decide (13 < x.kind) = false := decide_eq_false (by omega)
        have d3 : decide (x.a < 0) = false := decide_eq_false (by omega)
        have d4 : decide (4294967296 ≤ x.a) = true := decide_eq_true (by omega)
        clear HW
        go_wp2
        go_meet
        case rel => exact ⟨rfl, by rw [if_neg (by decide), List.append_nil]; exact HO2.out, HX.out.2.2.2.2.2.2.2.2.2.1, HX.out.2.2.2.2.2.2.2.2.2.2⟩
      · have d1 : decide (x.kind < 1) = false := decide_eq_false (by omega)
        have d2 : decide (13 < x.kind) = false := decide_eq_false (by omega)
        have d3 : decide (x.a < 0) = false := decide_eq_false (by omega)
        have d4 : decide (4294967296 ≤ x.a) = false := decide_eq_false (by omega)
        clear HW
        go_wp2
        go_meet
        case rel => exact ⟨rfl, by rw [if_neg (by decide), List.append_nil]; exact HO2.out, HX.out.2.2.2.2.2.2.2.2.2.1, HX.out.2.2.2.2.2.2.2.2.2.2⟩
      · have d1 : decide (x.kind < 1) = false := decide_eq_false (by omega)
        have d2 : decide (13 < x.kind) = false := decide_eq_false (by omega)
        have d3 : decide (x.a < 0) = false := decide_eq_false (by omega)
        have d4 : decide (4294967296 ≤ x.a) = false := decide_eq_false (by omega)
        have d5 : decide ((255 : Int) < x.d.size) = true := decide_eq_true (by omega)
        clear HW
        go_wp2
        go_meet
        case rel => exact ⟨rfl, by rw [if_neg (by decide), List.append_nil]; exact HO2.out, HX.out.2.2.2.2.2.2.2.2.2.1, HX.out.2.2.2.2.2.2.2.2.2.2⟩
      · have d1 : decide (x.kind < 1) = false := decide_eq_false (by omega)
        have d2 : decide (13 < x.kind) = false := decide_eq_false (by omega)
        have d3 : decide (x.a < 0) = false := decide_eq_false (by omega)
        have d4 : decide (4294967296 ≤ x.a) = false := decide_eq_false (by omega)
        have d5 : decide ((255 : Int) < x.d.size) = false := decide_eq_false (by omega)
        have d6 : decide ((255 : Int) < x.f.length) = true := decide_eq_true (by omega)
        clear HW
        go_wp2
        go_meet
        case rel => exact ⟨rfl, by rw [if_neg (by decide), List.append_nil]; exact HO2.out, HX.out.2.2.2.2.2.2.2.2.2.1, HX.out.2.2.2.2.2.2.2.2.2.2⟩
      · have d1 : decide (x.kind < 1) = false := decide_eq_false (by omega)
        have d2 : decide (13 < x.kind) = false := decide_eq_false (by omega)
        have d3 : decide (x.a < 0) = false := decide_eq_false (by omega)
        have d4 : decide (4294967296 ≤ x.a) = false := decide_eq_false (by omega)
        have d5 : decide ((255 : Int) < x.d.size) = false := decide_eq_false (by omega)
        have d6 : decide ((255 : Int) < x.f.length) = false := decide_eq_false (by omega)
        clear HW
        have hal := HX.out.2.2.2.2.2.2.1
        have hol := HX.out.2.2.2.1 (by trivial)
        have HAL := Lib.hid (And.intro hal hol); clear hal hol
        go_wp2_with fail
        (with_reducible refine (HX.out.2.1 wa HXB.out.1 (by trivial)).mono ?_); rintro e wb ⟨vo, rfl, hvo, hb⟩
        obtain ⟨Ao, co, rfl, _, hro, _⟩ := hvo
        have H6 := Lib.hid (And.intro (own_below HO2.out hb) (And.intro (below_up HX.out.2.2.2.2.2.2.2.2.2.2 hb) (And.intro hro (block_up HX.out.2.2.2.2.2.2.2.2.2.1 hb)))); clear hb hro
        go_wp2_with (at_builtin; refine wpList_app rfl _ _ 40 rfl w1.heap.size 5 (.int .u8 0) 1 1 Try.underlying40 info_u8 rfl (by decide) (by decide) (.slice A3 LA.length c3) LA.length (bv LA) rfl Ao OX.length co (bv OX) rfl H6.out.1 (by rw [bv_length, Nat.mul_one]) H6.out.2.2.1 (bv_one _) (by have := HAL.out; omega) H6.out.2.1.size ?_
                     intro A6 c6 w6 hown hgrow _
                     rw [← bv_append] at hown
                     have hb6 := below_grown H6.out.2.1 hgrow (fun k e => own_base H6.out.1 k e)
                     have hk6 := (hgrow.block _ (Array.getElem?_eq_some_iff.1 H6.out.2.2.2).1 (fun q => own_ne_block H6.out.1 H6.out.2.2.2 (by decide) q.symm)).trans H6.out.2.2.2
                     have H7 := Lib.hid (And.intro hown (And.intro hk6 hb6)); clear hown hk6 hb6 hgrow
                     skip)
        go_meet
        case rel => exact ⟨rfl, by rw [if_pos (by trivial), List.length_append]; exact H7.out.1, H7.out.2.1, H7.out.2.2⟩
    case rest =>
    obtain ⟨rfl, hown, hblk, hbel⟩ := hcut
    obtain ⟨A5, c5, rfl, _⟩ := own_rd hown
    obtain ⟨LB, hLB⟩ : ∃ b, LA ++ (if E = 0 then OX else []) = b := ⟨_, rfl⟩
    rw [hLB] at hown ⊢
    have hs2 := HX.out.2.2.2.2.2.1
    rw [hLB] at hs2
    obtain ⟨q0, q1, q2, q3, q4, q5, q6, q7⟩ := cells8 hblk
    have H8 := Lib.hid (And.intro (HX.out.1 wc (below_up H1.out hbel)) (And.intro hs2 (And.intro hown hbel))); clear hs2 hown hbel hblk hLB HW
    by_cases hF : FK = 0
    · subst hF
      go_wp2_with (go_at_call 22; (with_reducible refine H8.out.1.mono ?_); rintro e w7 ⟨rfl, hb⟩; have H9 := Lib.hid (And.intro (own_below H8.out.2.2.1 hb) (below_up H8.out.2.2.2 hb)); clear hb)
      exact ⟨⟨k + 1, by omega, by simp, by rw [HX.out.2.2.2.2.1, if_neg (by simp)], by rw [H8.out.2.1]; exact H9.out.1, H9.out.2⟩, by simp [intOf]; omega⟩
    · have e1 : (FK == 0) = false := by rw [beq_eq_false_iff_ne]; exact hF
      have HFF := Lib.hid hF; clear hF
      go_wp2_with (go_at_call 22; (with_reducible refine H8.out.1.mono ?_); rintro e w7 ⟨rfl, hb⟩; have H9 := Lib.hid (And.intro (own_below H8.out.2.2.1 hb) (below_up H8.out.2.2.2 hb)); clear hb)
      exact ⟨⟨k + 1, by omega, by simp, by rw [HX.out.2.2.2.2.1, if_pos HFF.out], by rw [H8.out.2.1]; exact H9.out.1, H9.out.2⟩, by simp [intOf]; omega⟩
  obtain rfl : k = l.length := by omega
  have dk : decide ((l.length : Int) < l.length) = false := decide_eq_false (by omega)
  have hown := HR.out.1
  have hall := allOf_len l l.length (Nat.le_refl _)
  rw [List.take_length] at hown hall ⊢
  have hoc : fe l = 0 → allOf l = octs l := fun h => allOf_octs (fe_zero l h)
  have hput := cput_ok _ l _ (HL.out.1.below HR.out.2.2) (fun s hs => (HL.out.2 s hs).below HR.out.2.2) (by omega)
  have hpe := putE_small (l := l) (by omega)
  obtain ⟨F, hF⟩ : ∃ e, fe l = e := ⟨_, rfl⟩
  obtain ⟨PE, hPE⟩ : ∃ e, putE l = e := ⟨_, rfl⟩
  obtain ⟨OC, hOC⟩ : ∃ e, octs l = e := ⟨_, rfl⟩
  obtain ⟨AL, hAL⟩ : ∃ e, allOf l = e := ⟨_, rfl⟩
  obtain ⟨BR, hBR⟩ : ∃ e, (if PE = 0 then OC else []) = e := ⟨_, rfl⟩
  rw [hF, hAL, hOC] at hoc
  rw [hPE, hF, hOC] at hpe
  rw [hAL] at hown hall
  rw [hF, hAL]
  simp only [hPE, hOC, hBR] at hput
  have HP := Lib.hid (And.intro hput (And.intro hoc (And.intro hpe (And.intro hown (And.intro hall hBR))))); clear hput hoc hpe hown hall hBR hAL hOC hPE hF
  by_cases hF0 : F = 0
  · subst hF0
    have hoc := HP.out.2.1 rfl
    subst hoc
    have hpe := HP.out.2.2.1
    rw [if_neg (by decide)] at hpe
    by_cases hfull : 65536 < AL.length
    · rw [if_pos hfull] at hpe
      subst hpe
      obtain rfl : [] = BR := by have := HP.out.2.2.2.2.2; rwa [if_neg (by decide)] at this
      have df : decide ((65536 : Int) < AL.length) = true := decide_eq_true (by omega)
      clear hfull
      go_wp2_with fail
      (with_reducible refine HP.out.1.mono ?_); rintro e w2 ⟨x, rfl, hx, hb⟩
      obtain ⟨Ax, cx, rfl, _, _, _⟩ := hx
      have H2 := Lib.hid (below_up HR.out.2.2 hb); clear hb
      go_wp2
      go_ret
      exact ⟨ret_bool (by first | rfl | simp), H2.out⟩
    · rw [if_neg hfull] at hpe
      subst hpe
      obtain rfl : AL = BR := by have := HP.out.2.2.2.2.2; rwa [if_pos rfl] at this
      have df : decide ((65536 : Int) < AL.length) = false := decide_eq_false (by omega)
      clear hfull
      go_wp2_with fail
      (with_reducible refine HP.out.1.mono ?_); rintro e w2 ⟨x, rfl, hx, hb⟩
      obtain ⟨Ax, cx, rfl, _, _, _⟩ := id hx
      have e1 := conv_rd (P := Try.prog) hx 40 5 9 Try.underlying40 Try.underlying5 Try.underlying9
      have e2 := conv_rd (P := Try.prog) ((brd_own HP.out.2.2.2.1).below hb) 40 5 9 Try.underlying40 Try.underlying5 Try.underlying9
      generalize bstr AL = sA at *
      have hss : (sA == sA) = true := (MapKept.bytes_beq _ _).2 rfl
      have H2 := Lib.hid (below_up HR.out.2.2 hb); clear hb hx
      go_wp2
      go_ret
      exact ⟨ret_bool (by first | rfl | simp), H2.out⟩
  · have k1 : (F == 0) = false := by rw [beq_eq_false_iff_ne]; exact hF0
    have k2 : (F != 0) = true := by rw [bne_iff_ne]; exact hF0
    have hpe := HP.out.2.2.1
    rw [if_pos hF0] at hpe
    subst hpe
    obtain rfl : [] = BR := by have := HP.out.2.2.2.2.2; rwa [if_neg hF0] at this
    clear hF0
    go_wp2_with fail
    (with_reducible refine HP.out.1.mono ?_); rintro e w2 ⟨x, rfl, hx, hb⟩
    obtain ⟨Ax, cx, rfl, _, _, _⟩ := hx
    have H2 := Lib.hid (below_up HR.out.2.2 hb); clear hb
    go_wp2
    go_ret
    exact ⟨ret_bool (by first | rfl | simp), H2.out⟩
end Go.Proofs.Ytkjapmafipnmpaa.Cd
