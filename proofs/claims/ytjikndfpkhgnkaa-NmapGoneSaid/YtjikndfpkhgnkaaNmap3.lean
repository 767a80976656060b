/- The walk over nmap.Apart. -/
import Derived.Test.YtjikndfpkhgnkaaNmap2
namespace Go.Proofs.Ytjikndfpkhgnkaa.Nm
open Go.RowKit
set_option linter.unusedVariables false
set_option linter.unusedSimpArgs false

theorem idl_mem (f : Nat → Int) : ∀ k, ∀ x ∈ idl f k, ∃ i : Nat, x = i ∧ i < k
  | 0, x, h => by simp [idl] at h
  | k + 1, x, h => by
    unfold idl at h
    split at h
    · rcases List.mem_append.1 h with h | h
      · obtain ⟨i, e, hi⟩ := idl_mem f k x h; exact ⟨i, e, by omega⟩
      · exact ⟨k, by simpa using h, by omega⟩
    · obtain ⟨i, e, hi⟩ := idl_mem f k x h; exact ⟨i, e, by omega⟩
/-- The sectors of a list of Ids. -/
def secs (f : Nat → Int) (l : List Int) : List Int := l.map fun x => f x.toNat
def MapB (W : World) (B n : Nat) (l : List Int) : Prop := ∃ D : DataW Unit, W.ownsMap Try.prog 3 (plainElem Try.prog 4) B n D ∧ Maps.IsMap D ∧ ∀ x : Int, D.atKey (.int .i64 x) (.lit (.bool false)) = .lit (.bool (decide (x ∈ l)))
theorem MapB.moved {W W' : World} {B n : Nat} {l : List Int} (h : MapB W B n l) (hb : Below W.heap.size W W') : MapB W' B n l := by
  obtain ⟨D, ⟨es, clock, hg, r⟩, h2⟩ := h
  exact ⟨D, ⟨es, clock, block_up hg hb, r⟩, h2⟩
theorem MapB.made (w : World) : MapB (w.alloc (.map #[] 0)) w.heap.size 0 [] := ⟨.map [], World.ownsMap_made _ _ _ _, ⟨_, rfl⟩, fun x => by simp [DataW.atKey]⟩
theorem keyI {x : Int} (h1 : -9223372036854775808 ≤ x) (h2 : x ≤ 9223372036854775807) : keyOf Try.prog 3 (.int .i64 x) = some (.int .i64 x) :=
  Maps.keyOf_int_mk Try.underlying3 (WalkArith.wf_i64 (by omega))
theorem MapB.look {W : World} {B n : Nat} {l : List Int} (h : MapB W B n l) {x : Int} (h1 : -9223372036854775808 ≤ x) (h2 : x ≤ 9223372036854775807) :
    (Instr.lookup 96 (.map (some B)) (.int .i64 x) false).run Try.prog W = .ok (.bool (decide (x ∈ l))) W := by
  obtain ⟨D, h3, h4, h5⟩ := h
  exact ownsMap_lookup_bool h3 (Maps.int_keyed Try.underlying3) Try.underlying96 Try.underlying4 (by kernel_rfl) (keyI h1 h2) _ (h5 x)
theorem MapB.put {W : World} {B n : Nat} {l : List Int} (h : MapB W B n l) (hn : n ≤ 1000000) {x : Int} (h1 : -9223372036854775808 ≤ x) (h2 : x ≤ 9223372036854775807) :
    ∃ W', (Instr.mapUpdate 96 (.map (some B)) (.int .i64 x) (.bool true)).run Try.prog W = .ok () W' ∧ MapB W' B (n + 1) (l ++ [x]) ∧ W.grownBy W' (some B) := by
  obtain ⟨D, h3, h4, h5⟩ := h
  obtain ⟨W', r, r2, r3⟩ := h3.update (val := .bool true) (Maps.int_keyed Try.underlying3) Try.underlying96 (by unfold maxLen; omega) (keyI h1 h2) (plainElem_bool Try.underlying4 true)
  refine ⟨W', r, ⟨_, r2, ?_, fun y => ?_⟩, r3⟩
  · obtain ⟨es, rfl⟩ := h4
    exact ⟨_, rfl⟩
  · by_cases e : y = x
    · subst e
      rw [Maps.atKey_put_same h4 (by trivial)]; simp
    · rw [Maps.atKey_put_other (by simpa using e), h5 y]
      simp [e]
set_option maxHeartbeats 4000000 in
set_option maxRecDepth 100000 in
theorem apart_ok (f : Nat → Int) (w : World) (hf : ∀ i, i < 256 → -9223372036854775808 ≤ f i ∧ f i ≤ 9223372036854775807) : Calls Try.prog 18 #[.agg (lsI 256 f).toArray] w fun e w' =>
    e = .returned (.bool (decide (secs f (idl f 256)).Nodup)) ∧ Below w.heap.size w w' := by
  have hif := inf f
  have hids := ids_ok f
  have hmem := idl_mem f 256
  have hcell : ∀ (W : World), W.heap[w.heap.size]? = some (.cells (lsI 256 f).toArray 22 (0, 0)) → ∀ i, i < 256 → W.cell? ⟨w.heap.size, i, none⟩ = some (.int .i64 (f i)) := fun W h i hi => blkA h hi
  have hll := idl_len f 256
  generalize (lsI 256 f) = L at *
  have HX := Lib.hid (And.intro hif (And.intro hcell (And.intro hids (And.intro hmem hf)))); clear hif hcell hids hmem hf
  have hmm := @run_makeMap Try.prog
  go_enter Try.func18, Try.ntmps18
  go_wp2_with (first
    | (with_reducible refine wpList_load_row rfl 22 _ rfl w.heap.size rfl 22 L.toArray (0, 0) _ (alloc_old (alloc_at _ rfl) _) Try.underlying22 rfl HX.out.1 ?_)
    | (go_at_call 17; refine (HX.out.2.2.1 _).mono ?_; rintro e w1 ⟨v, rfl, hb, hown⟩
       have HA := Lib.hid (And.intro hb hown); clear hb hown
       obtain ⟨A0, c0, rfl, _, _, _⟩ := own_rd HA.out.2))
  clear hmm
  have hblk := block_up (alloc_old (alloc_at (w := w) _ rfl) _) HA.out.1
  have hM := (MapB.made (w.alloc (.cells L.toArray 22))).moved HA.out.1
  have hbel := below_up (below_alloc (below_alloc1 w _) _) HA.out.1
  have hI := ird_own HA.out.2
  have hbase : ∀ k, (Value.slice A0 (idl f 256).length c0).ownBlock = some k → w.heap.size + 1 < k := fun k hk => by have := own_base HA.out.2 k hk; simp at this; omega
  rw [show (w.alloc (.cells L.toArray 22)).heap.size = w.heap.size + 1 by simp] at hM
  have hown := HA.out.2
  have HB := Lib.hid (And.intro (And.intro hblk hM) (And.intro hbel (And.intro hown hbase))); clear hblk hM hbel hI hbase hown
  go_loopw [10] (fun vi W => ∃ k : Nat, k ≤ (idl f 256).length ∧ vi = .int .i64 k ∧ MapB W (w.heap.size + 1) k (secs f ((idl f 256).take k)) ∧ (secs f ((idl f 256).take k)).Nodup ∧
    W.heap[w.heap.size]? = some (.cells L.toArray 22 (0, 0)) ∧ W.ownsRow (w.heap.size + 2) 3 1 (.slice A0 (idl f 256).length c0) (idl f 256).length (iv (idl f 256)) ∧ Below w.heap.size w W) (fun vi _ => (idl f 256).length - (intOf vi).toNat)
  case atStart =>
    refine ⟨0, by omega, rfl, HB.out.1.2, by simp [secs], HB.out.1.1, ?_, HB.out.2.1⟩
    have := HB.out.2.2.1
    simpa using this
  obtain ⟨k, hk, rfl, hM, hnd, hblk, hown, hbel⟩ := hrel
  have HL := Lib.hid (And.intro hM (And.intro hnd (And.intro hblk (And.intro hown hbel)))); clear hM hnd hblk hown hbel
  by_cases hlt : k < (idl f 256).length
  · have d : decide ((k : Int) < (idl f 256).length) = true := decide_eq_true (by omega)
    obtain ⟨ad, rfl, k1⟩ := (ird_own HL.out.2.2.2.1).get hlt
    obtain ⟨i, hi, hi2⟩ := HX.out.2.2.2.1 _ (List.getElem_mem hlt)
    have htk : secs f ((idl f 256).take (k + 1)) = secs f ((idl f 256).take k) ++ [f i] := by
      rw [List.take_succ_eq_append_getElem hlt]
      simp [secs, hi]
    rw [hi] at k1
    have k2 := HX.out.2.1 wr HL.out.2.2.1 i hi2
    have hfi := HX.out.2.2.2.2 i hi2
    have hlook := HL.out.1.look hfi.1 hfi.2
    obtain ⟨W', hput, hM', hg'⟩ := HL.out.1.put (by omega) hfi.1 hfi.2
    have HP := Lib.hid (And.intro htk (And.intro hM' hg')); clear htk hM' hg' hi hfi
    have HI2 := Lib.hid hi2
    by_cases hin : f i ∈ secs f ((idl f 256).take k)
    · have dd : decide (f i ∈ secs f ((idl f 256).take k)) = true := decide_eq_true hin
      have hnot : ¬ (secs f (idl f 256)).Nodup := by
        intro hN
        have e : secs f (idl f 256) = secs f ((idl f 256).take k) ++ f i :: secs f ((idl f 256).drop (k + 1)) := by
          conv => lhs; rw [← List.take_append_drop (k + 1) (idl f 256)]
          rw [show secs f (List.take (k + 1) (idl f 256) ++ List.drop (k + 1) (idl f 256)) = secs f (List.take (k + 1) (idl f 256)) ++ secs f (List.drop (k + 1) (idl f 256)) by simp [secs], HP.out.1]
          simp
        rw [e] at hN
        exact (List.nodup_append.1 hN).2.2 _ hin _ (by simp) rfl
      have HN := Lib.hid hnot; clear hnot hin
      rw [dd] at hlook
      clear dd hput
      generalize f i = y at *
      go_wp2
      go_ret
      exact ⟨ret_bool (decide_eq_false HN.out).symm, HL.out.2.2.2.2⟩
    · have dd : decide (f i ∈ secs f ((idl f 256).take k)) = false := decide_eq_false hin
      have hnd : (secs f ((idl f 256).take (k + 1))).Nodup := by
        rw [HP.out.1, List.nodup_append]
        exact ⟨HL.out.2.1, by simp, fun a ha b hb e => hin (by simp at hb; rw [← hb, ← e]; exact ha)⟩
      have HN := Lib.hid hnd; clear hnd hin
      rw [dd] at hlook
      clear dd
      generalize hy : f i = y at *
      have HY := Lib.hid hy; clear hy
      go_wp2
      refine ⟨⟨k + 1, by omega, by simp, ?_, HN.out, ?_, ?_, ?_⟩, by simp [intOf]; omega⟩
      · rw [HP.out.1]; exact HP.out.2.1
      · exact (HP.out.2.2.block _ (Array.getElem?_eq_some_iff.1 HL.out.2.2.1).1 (by simp)).trans HL.out.2.2.1
      · exact own_move HL.out.2.2.2.1 (fun b hb => HP.out.2.2.block b (own_lt HL.out.2.2.2.1 b hb) (by have := own_base HL.out.2.2.2.1 b hb; simp; omega))
      · exact below_grown HL.out.2.2.2.2 HP.out.2.2 (fun b e => by injection e with e; omega)
  · have hkl : k = (idl f 256).length := by omega
    subst hkl
    have d : decide (((idl f 256).length : Int) < (idl f 256).length) = false := decide_eq_false (by omega)
    go_wp2
    go_ret
    have := HL.out.2.1
    rw [List.take_length] at this
    exact ⟨ret_bool (decide_eq_true this).symm, HL.out.2.2.2.2⟩
end Go.Proofs.Ytjikndfpkhgnkaa.Nm
