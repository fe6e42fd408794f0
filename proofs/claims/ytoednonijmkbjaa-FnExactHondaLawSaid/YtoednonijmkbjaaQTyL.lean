/- Lemmas of TyL. -/
import Derived.Test.YtoednonijmkbjaaQTyK
set_option linter.unusedSimpArgs false
set_option linter.unusedVariables false
namespace Go.Proofs.Ytoednonijmkbjaa
open Go.RowKit

set_option maxHeartbeats 1000000 in
set_option maxRecDepth 100000 in
theorem l02Rest_c (m : Int) (v : Value) (xs : List Int) (w : World) (hv : RdI w v xs) (hm : 2 ≤ m) (hn : xs.length ≤ 1048576) (hx : ∀ x ∈ xs, 0 ≤ x ∧ x ≤ 9000000000000000000) :
    Calls Try.prog 52 #[.int .i64 m, v] w fun e w' => ∃ v', e = .returned v' ∧ OwI w' w.heap.size v' (xs.map (· % m)) ∧ Below w.heap.size w w' := by
  obtain ⟨o, c, rfl, hmx, hh⟩ := id hv
  clear hh
  have m1 : ¬ m = 0 := by omega
  have m0 : (m == 0) = false := by simp; omega
  go_enter Try.func52, Try.ntmps52
  go_wp2
  have O1 := OwI.lit w [] (by decide)
  have B1 : Below w.heap.size w (w.alloc (.cells #[] 2)) := (by (repeat (first | exact Below.refl _ _ | (refine Below.setCell ?_ (by first | (simp; done) | (simp; omega) | omega) _) | (refine Below.alloc ?_ (by first | (simp; done) | (simp; omega) | omega) _) | (refine below_drewN ?_ _) | (refine Below.drew ?_))))
  simp at O1
  generalize w.alloc (.cells #[] 2) = w1 at O1 B1 ⊢
  go_loopw [5, 6] (fun s i wr => ∃ n : Nat, n ≤ xs.length ∧ i = .int .i64 n ∧ OwI wr w.heap.size s ((xs.take n).map (· % m)) ∧ Below w.heap.size w wr) (fun _ i _ => xs.length - (intOf i).toNat)
  case atStart => exact ⟨0, Nat.zero_le _, rfl, by simpa using O1, B1⟩
  case round =>
    obtain ⟨n, hn', rfl, hO, hB⟩ := hrel
    obtain ⟨ov, cv, rfl⟩ := hO.shapeN (n := n) (by simp; omega)
    by_cases hlt : n < xs.length
    · have hvr := hv.below hB (Nat.le_refl _)
      obtain ⟨o', c', heq, -, hc⟩ := hvr
      obtain ⟨rfl, rfl⟩ : o = o' ∧ c = c' := by simpa using heq
      obtain ⟨b, off, rfl, hxc⟩ := hc n (xs[n]) (by simp [hlt])
      clear hc heq
      have hxn := hx xs[n] (List.getElem_mem _)
      have hBs := hB.size
      have t1 : xs[n].tmod m = xs[n] % m := Int.tmod_eq_emod_of_nonneg hxn.1
      go_wp2_with (at_builtin; refine apI wr rfl _ _ rfl w.heap.size (.slice ov n cv) _ rfl hO _ rfl (by simp; omega) (by omega) ?_; intro v' w4 hO3 hgr hb3 hlt3; clear hgr)
      have hT : (xs.take n).map (· % m) ++ [xs[n] % m] = (xs.take (n + 1)).map (· % m) := by rw [List.take_succ_eq_append_getElem hlt, List.map_append]; rfl
      rw [hT] at hO3
      exact ⟨⟨n + 1, by omega, by go_num, hO3, hB.trans hb3⟩, by simp [intOf]; omega⟩
    · obtain rfl : n = xs.length := by omega
      rw [List.take_length] at hO
      go_wp2
      go_ret
      exact ⟨_, rfl, hO, hB⟩
end Go.Proofs.Ytoednonijmkbjaa
