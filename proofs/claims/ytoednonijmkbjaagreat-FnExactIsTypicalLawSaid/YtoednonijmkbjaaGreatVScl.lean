/- Lemmas of Scl. -/
import Derived.Test.YtoednonijmkbjaaGreatVG3
import Derived.Test.YtoednonijmkbjaaGreatVSerR
import Derived.Test.YtoednonijmkbjaaGreatVSerT
import Derived.Test.YtoednonijmkbjaaGreatVG1
import Derived.StillTailTactics
set_option linter.unusedSimpArgs false
set_option linter.unusedVariables false
namespace Go.Proofs.YtoednonijmkbjaaGreat
open Go.RowKit

theorem scaleL_mk (m c : Int) (xs : List Int) : scaleL m c xs = mk xs.length (fun k => c * at0 xs k % m) := by
  conv => lhs; rw [eq_mk (scaleL m c xs), scaleL_len]
  exact mk_ext fun k hk => scaleL_at hk
set_option maxHeartbeats 1000000 in
set_option maxRecDepth 100000 in
theorem l02Scale_c (m a : Int) (v : Value) (xs : List Int) (w : World) (hv : RdI w v xs) (hn : xs.length ≤ 1048576) (hm : 2 ≤ m) (hm' : m ≤ 3000000000) (ha : 0 ≤ a) (ha' : a < m)
    (hx : ∀ x ∈ xs, 0 ≤ x ∧ x < m) :
    Calls Tryz.prog 123 #[.int .i64 m, .int .i64 a, v] w fun e w' => ∃ v', e = .returned v' ∧ OwI w' w.heap.size v' (scaleL m a xs) ∧ Below w.heap.size w w' := by
  obtain ⟨o, c, rfl, hmx, -⟩ := id hv
  have hml := hmx.1
  unfold maxLen at hmx
  have m0 : (m == 0) = false := by simp; omega
  have m1 : ¬ m = 0 := by omega
  rw [scaleL_mk]
  go_enter Tryz.func123, Tryz.ntmps123
  go_wp2_with fail
  have O1 := OwI.lit w [] (by decide)
  have B1 : Below w.heap.size w (w.alloc (.cells #[] 2)) := (by (repeat (first | exact Below.refl _ _ | (refine Below.setCell ?_ (by first | (simp; done) | (simp; omega) | omega) _) | (refine Below.alloc ?_ (by first | (simp; done) | (simp; omega) | omega) _) | (refine below_drewN ?_ _) | (refine Below.drew ?_))))
  simp at O1
  generalize w.alloc (.cells #[] 2) = w1 at O1 B1 ⊢
  go_loopw [7, 8] (fun s i wr => ∃ k : Nat, k ≤ xs.length ∧ i = .int .i64 k ∧ OwI wr w.heap.size s (mk k (fun j => a * at0 xs j % m)) ∧ Below w.heap.size w wr) (fun _ i _ => xs.length - (intOf i).toNat)
  case atStart => exact ⟨0, Nat.zero_le _, rfl, O1, B1⟩
  case round =>
    obtain ⟨k, hk, rfl, hO, hB⟩ := hrel
    obtain ⟨ov, cv, rfl⟩ := hO.shapeN (n := k) (mk_len _ _)
    by_cases hlt : k < xs.length
    · obtain ⟨bx, fx, rfl, -⟩ := hv.cells (by omega)
      have cx := (hv.below hB (Nat.le_refl _)).cell0 (some_at0 hlt)
      have hxk := at0_range (by omega) hx k
      have hpf := prod_fits ha hxk.1 ha' hxk.2 (by omega)
      have HS := Lib.hid (mk_snoc k (fun j => a * at0 xs j % m))
      have hBs := hB.size
      have i0 : (0 : Int) ≤ (k : Int) := by omega
      have i1 : (k : Int) < (xs.length : Int) := by omega
      have e1 : IntKind.i64.wrap (a * at0 xs k) = a * at0 xs k := IntWalk.i64_in _ (by omega)
      have e2 : (a * at0 xs k).tmod m = (a * at0 xs k) % m := Int.tmod_eq_emod_of_nonneg (by omega)
      go_wp2_with (at_builtin; refine apI wr rfl _ _ rfl w.heap.size (.slice ov k cv) _ rfl hO (a * at0 xs k % m) (by go_simp) (by rw [mk_len]; omega) (by omega) ?_; intro v' w4 hO3 hgr hb3 hlt3; clear hgr)
      rw [← HS.out] at hO3
      go_wp2
      exact ⟨⟨k + 1, by omega, by go_num, hO3, hB.trans hb3⟩, by simp [intOf]; omega⟩
    · obtain rfl : k = xs.length := by omega
      go_wp2
      go_ret
      exact ⟨_, rfl, hO, hB⟩

end Go.Proofs.YtoednonijmkbjaaGreat
