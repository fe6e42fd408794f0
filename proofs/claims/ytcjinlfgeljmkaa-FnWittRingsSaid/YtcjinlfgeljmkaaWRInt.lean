/- Lemmas of Int. -/
import Derived.Test.YtcjinlfgeljmkaaWRFromI
set_option linter.unusedSimpArgs false
set_option linter.unusedVariables false
namespace Go.Proofs.Ytcjinlfgeljmkaa
open Go.RowKit

theorem int_FL {p : Nat} (hp : P4 p) {m : Int} (hm : 0 < m) {e n : Nat} (hn : n ≤ e + 1) (c : Int) :
    (fromL (m * (p : Int) ^ e) p (List.replicate n (c % (m * (p : Int) ^ e)))).map (· % m) = FL p m n (fun _ => c) := by
  have h := wide_eq hp hm (e := e) (fun _ => c) (List.replicate n (c % (m * (p : Int) ^ e))) (by simpa using hn) (by
    have := op_ex hp (Gs.const p c) n (fun _ => 0)
    simpa using this) (fun k hk => by simp)
  simpa using h

theorem FL_range {p : Nat} {m : Int} (hm : 0 < m) {n : Nat} {G : Nat → Int} : ∀ x ∈ FL p m n G, 0 ≤ x ∧ x < m := by
  intro x hx
  simp only [FL, List.mem_map] at hx
  obtain ⟨y, _, rfl⟩ := hx
  exact mod_lt' hm

theorem wide_bounds {p : Nat} (hp : P4 p) {m : Int} (hm : 2 ≤ m) (hm' : m ≤ 10000) {e : Nat} (he : e ≤ 4) : 2 ≤ m * (p : Int) ^ e ∧ m * (p : Int) ^ e ≤ 30000000 := by
  have hpp := hp.pow3 he
  have hb1 : m * (p : Int) ^ e ≤ 10000 * 2401 := Int.mul_le_mul hm' hpp.2 (by omega) (by omega)
  have hb2 : 2 * 1 ≤ m * (p : Int) ^ e := Int.mul_le_mul hm hpp.1 (by omega) (by omega)
  omega

set_option maxHeartbeats 2000000 in
set_option maxRecDepth 100000 in
theorem l13Integer_c (p : Nat) (m c : Int) (n : Nat) (w : World) (hp : P4 p) (hm : 2 ≤ m) (hm' : m ≤ 10000) (h1 : 1 ≤ n) (h4 : n ≤ 4) (hc : -1000000000000 ≤ c) (hc' : c ≤ 1000000000000) :
    Calls Try.prog 183 #[.int .i64 p, .int .i64 m, .int .i64 n, .int .i64 c] w fun e w' => ∃ v', e = .returned v' ∧ OwI w' w.heap.size v' (FL p m n (fun _ => c)) ∧ Below w.heap.size w w' := by
  have hpb := hp.bounds
  have hpp := hp.pow3 (show n - 1 ≤ 4 by omega)
  have hW := wide_bounds hp hm hm' (show n - 1 ≤ 4 by omega)
  have hFL := int_FL hp (show 0 < m by omega) (show n ≤ (n - 1) + 1 by omega) c
  have HFL := Lib.hid hFL
  clear hFL
  obtain ⟨W, hWe⟩ : ∃ W, m * (p : Int) ^ (n - 1) = W := ⟨_, rfl⟩
  have HW := Lib.hid hWe
  have hW0 : 2 ≤ W := by omega
  have hW1 : W ≤ 30000000 := by omega
  clear hWe
  go_enter Try.func183, Try.ntmps183
  go_wp2_with (go_at_call 195; refine (l13Raise_c _ _ (n - 1) _ (by omega) (by omega) (by omega) (by omega)).mono ?_; rintro e w' ⟨rfl, rfl⟩)
  rw [HW.out] at hW ⊢
  have O1 := OwI.lit w [] (by decide)
  have B1 : Below w.heap.size w (w.alloc (.cells #[] 2)) := (by (repeat (first | exact Below.refl _ _ | (refine Below.setCell ?_ (by first | (simp; done) | (simp; omega) | omega) _) | (refine Below.alloc ?_ (by first | (simp; done) | (simp; omega) | omega) _) | (refine below_drewN ?_ _) | (refine Below.drew ?_))))
  simp at O1
  generalize w.alloc (.cells #[] 2) = w1 at O1 B1 ⊢
  go_loopw [10, 11] (fun s k wr => ∃ j : Nat, j ≤ n ∧ k = .int .i64 j ∧ OwI wr w.heap.size s (List.replicate j (c % W)) ∧ Below w.heap.size w wr) (fun _ k _ => n - (intOf k).toNat)
  case atStart => exact ⟨0, Nat.zero_le _, rfl, by simpa using O1, B1⟩
  case round =>
    obtain ⟨j, hj, rfl, hO, hB⟩ := hrel
    obtain ⟨ov, cv, rfl⟩ := hO.shapeN (n := j) (by simp)
    have hBs := hB.size
    by_cases hlt : j < n
    · have h3 : -W < c.tmod W := Int.lt_tmod_of_pos _ (by omega)
      have h4 : c.tmod W < W := Int.tmod_lt_of_pos _ (by omega)
      have HT := Lib.hid (show c.tmod W % W = c % W by rw [← Int.add_emod_right, tmod_mod])
      go_wp2_with (at_builtin; refine apI wr rfl _ _ rfl w.heap.size (.slice ov j cv) _ rfl hO _ rfl (by simp; omega) (by omega) ?_; intro v' w4 hO3 hgr hb3 hlt3; clear hgr)
      rw [HT.out, ← List.replicate_succ'] at hO3
      exact ⟨⟨j + 1, by omega, by go_num, hO3, hB.trans hb3⟩, by simp [intOf]; omega⟩
    · obtain rfl : j = n := by omega
      have hcm := mod_lt' (a := c) (show 0 < W by omega)
      go_wp2_with fail
      refine (l13From_c p m W _ (List.replicate j (c % W)) _ hp hO.rd (by simpa using h1) (by simpa using h4) hm hm' (by rw [List.length_replicate]; exact HW.out) (fun g hg => by rw [List.eq_of_mem_replicate hg]; exact hcm)).mono ?_
      rintro e w5 ⟨v5, rfl, hO5, hb5⟩
      have h5 := HFL.out
      rw [HW.out] at h5
      rw [h5] at hO5
      have H5 := Lib.hid hO5
      clear hO5 h5
      have hB5 := hB.trans (hb5.mono hB.size)
      go_wp2
      go_ret
      exact ⟨_, rfl, H5.out.mono hBs, hB5⟩

end Go.Proofs.Ytcjinlfgeljmkaa
